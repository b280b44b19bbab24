/- The law TypVars answers true, whatever the input. No condition. -/
import Derived.Test.YtcpfjabjonpdaaaL3
import Derived.Test.YtcpfjabjonpdaaaFA
set_option linter.unusedSimpArgs false
set_option linter.unusedVariables false
set_option maxHeartbeats 8000000
set_option maxRecDepth 100000
namespace Go.Proofs.Ytcpfjabjonpdaaa
open Go Go.Ab
attribute [local irreducible] PCalls ACalls CallK GoCall GoDCall GoIf GoGb GoDGb GoO GoD GoX GoDX GoG GoDG Go ALoop

theorem news_filter (v : Int) : ∀ (xs l : List Int), (news l xs).filter (fun x => decide (x ≠ v)) = news (l.filter fun x => decide (x ≠ v)) (xs.filter fun x => decide (x ≠ v)) := by
  intro xs
  induction xs with
  | nil => intro l; rfl
  | cons x xs ih =>
    intro l
    by_cases hx : x = v
    · subst hx
      simp only [news, List.filter_cons, ne_eq, not_true_eq_false, decide_false, Bool.false_eq_true, if_false]
      split
      · exact ih l
      · rw [List.filter_cons]
        simp only [ne_eq, not_true_eq_false, decide_false, Bool.false_eq_true, if_false]
        rw [ih, List.filter_append]; simp
    · by_cases hl : x ∈ l
      · have := ih l
        simp only [ne_eq, decide_not] at this
        simp [news, List.filter_cons, hx, hl, this]
      · have := ih (l ++ [x])
        simp only [ne_eq, decide_not] at this
        simp [news, List.filter_cons, hx, hl, this, List.filter_append]
theorem nodup_len (v : Int) : ∀ l : List Int, l.Nodup → l.length = (l.filter fun x => decide (x ≠ v)).length + if v ∈ l then 1 else 0 := by
  intro l
  induction l with
  | nil => intro _; rfl
  | cons x l ih =>
    intro h
    rw [List.nodup_cons] at h
    have := ih h.2
    by_cases hx : x = v
    · subst hx
      have h2 : (l.filter fun y => decide (y ≠ x)).length = l.length := by rw [this]; simp [h.1]
      simp only [List.filter_cons, ne_eq, not_true_eq_false, decide_false, Bool.false_eq_true, if_false, List.mem_cons, true_or, if_true, List.length_cons]
      simp only [ne_eq] at h2; omega
    · simp only [List.filter_cons, ne_eq, hx, not_false_eq_true, decide_true, if_true, List.length_cons, List.mem_cons, Ne.symm hx, false_or]
      simp only [ne_eq] at this; omega

theorem putL_all (v : Int) : ∀ t : Ty, (allV (putT v t)).filter (fun x => decide (x ≠ v)) = (allV t).filter (fun x => decide (x ≠ v)) ∧ (v ∈ allV t → v ∈ allV (putT v t)) ∧ without 5 (putT v t) = true ∧ nodes (putT v t) = nodes t ∧ without 6 (putT v t) = (without 6 t && without 5 t) := by
  refine Ty.ind fun t ih => ?_
  have hl : ∀ l : List Ty, (∀ x ∈ l, (allV (putT v x)).filter (fun x => decide (x ≠ v)) = (allV x).filter (fun x => decide (x ≠ v)) ∧ (v ∈ allV x → v ∈ allV (putT v x)) ∧ without 5 (putT v x) = true ∧ nodes (putT v x) = nodes x ∧ without 6 (putT v x) = (without 6 x && without 5 x)) →
      (allVL (l.map (putT v))).filter (fun x => decide (x ≠ v)) = (allVL l).filter (fun x => decide (x ≠ v)) ∧ (v ∈ allVL l → v ∈ allVL (l.map (putT v))) ∧ withoutL 5 (l.map (putT v)) = true ∧ nodesL (l.map (putT v)) = nodesL l ∧ withoutL 6 (l.map (putT v)) = (withoutL 6 l && withoutL 5 l) := by
    intro l
    induction l with
    | nil => intro _; simp [allVL, withoutL, nodesL]
    | cons a l ihl =>
      intro h
      obtain ⟨h1, h2, h3, h4, h5⟩ := h a List.mem_cons_self
      obtain ⟨g1, g2, g3, g4, g5⟩ := ihl fun x hx => h x (List.mem_cons_of_mem _ hx)
      refine ⟨?_, ?_, ?_, ?_, ?_⟩
      · simp only [List.map_cons, allVL, List.filter_append, h1, g1]
      · simp only [List.map_cons, allVL, List.mem_append]
        rintro (h | h)
        · exact .inl (h2 h)
        · exact .inr (g2 h)
      · simp only [List.map_cons, withoutL, h3, g3, Bool.and_self]
      · simp only [List.map_cons, nodesL, h4, g4]
      · simp only [List.map_cons, withoutL, h5, g5]
        cases without 6 a <;> cases without 5 a <;> cases withoutL 6 l <;> cases withoutL 5 l <;> rfl
  obtain ⟨g1, g2, g3, g4, g5⟩ := hl t.kids ih
  have w : ∀ (k : Int) (t : Ty), without k t = (decide (t.kind ≠ k) && withoutL k t.kids) := fun k t => by cases t; rw [without]; rfl
  rw [putT_eq, allV_eq t, nodes_eq t, w 6 t, w 5 t]
  simp only [allV, without, nodes]
  by_cases h5 : t.kind = 5
  · simp only [h5, if_true, if_neg (show ¬ (5 : Int) = 6 by decide), List.nil_append]
    refine ⟨?_, ?_, ?_, ?_, ?_⟩
    · rw [List.filter_append, g1]; simp
    · intro _; exact List.mem_append_left _ (by simp)
    · simp [g3]
    · rw [g4]
    · simp
  · simp only [if_neg h5]
    refine ⟨?_, ?_, ?_, ?_, ?_⟩
    · rw [List.filter_append, List.filter_append, g1]
    · rw [List.mem_append, List.mem_append]
      rintro (h | h)
      · exact .inl h
      · exact .inr (g2 h)
    · simp [g3, h5]
    · rw [g4]
    · rw [g5]; simp [h5, Bool.and_assoc]

theorem put_len (v : Int) (t : Ty) : (varsT t).length ≤ (varsT (putT v t)).length ∧ (varsT (putT v t)).length ≤ (varsT t).length + 1 := by
  obtain ⟨h1, h2, _⟩ := putL_all v t
  have e1 := nodup_len v _ (varsT_nodup t)
  have e2 := nodup_len v _ (varsT_nodup (putT v t))
  have e3 : (varsT t).filter (fun x => decide (x ≠ v)) = (varsT (putT v t)).filter (fun x => decide (x ≠ v)) := by
    rw [varsT_news, varsT_news, news_filter, news_filter, h1]
  rw [← e3] at e2
  have m1 : v ∈ varsT t → v ∈ varsT (putT v t) := fun h => (mem_varsT _ _).2 (h2 ((mem_varsT _ _).1 h))
  by_cases hv : v ∈ varsT t
  · rw [if_pos hv] at e1; rw [if_pos (m1 hv)] at e2; omega
  · rw [if_neg hv] at e1; split at e2 <;> omega

theorem nodup_take {l : List Int} (h : l.Nodup) {i : Nat} (hi : i < l.length) : decide (l.getD i 0 ∈ l.take i) = false := by
  refine decide_eq_false fun hm => ?_
  have e : l.take (i + 1) = l.take i ++ [l.getD i 0] := by rw [List.take_add_one]; simp [hi]
  have h2 : (l.take (i + 1)).Nodup := (List.take_sublist _ _).nodup h
  rw [e, List.nodup_append] at h2
  exact h2.2.2 _ hm _ (by simp) rfl

theorem typVars_ok (t : Ty) (n : Int) : PCalls Try.prog 19 [emb t, .int .i64 n] (.bool true) := by
  by_cases hv : heavy [t] = true
  · refine pcalls_text C_ok Try.func19 rfl (by decide) (Nat.le_of_ble_eq_true rfl) (by decide) rfl fun ok H => ?_
    rw [Try.results19]
    try simp only [↓upd_eq, ↓envL_cons, Go.Ab.W0, guardOf, eff, effBuiltin, abin, abinInt, cellsAt, shift, AState.ev, AState.put, AState.new, ofVal, ofVal1, setRange, inplOf, if_true, if_false, reduceIte, Nat.reduceEqDiff, Nat.reduceAdd, Nat.reduceLT, Nat.reduceLeDiff, reduceCtorEq, Nat.reduceMul, implies_true, fillA, placeSt, fillE, elemsOf, effAppend, effSlice, optInt, reCells, forall_eq_or_imp, forall_eq, isAl, retP, AV.norm, AV.normL, Nat.reducePow, W1, hv]
    repeat' ((first
      | with_reducible refine goIf_b (fun h => ?_) (fun h => ?_)
      | with_reducible refine goIf_n (fun h => ?_) (fun h => ?_)
      | with_reducible refine goIf_d (fun h => ?_) (fun h => ?_)
      | with_reducible refine goIf_split (fun h => ?_) (fun h => ?_)
      | with_reducible refine goGb_b (fun h => ?_) (fun h => ?_)
      | with_reducible refine goGb_n (fun h => ?_) (fun h => ?_)
      | with_reducible refine goGb_d (fun h => ?_) (fun h => ?_)
      | with_reducible refine goGb_split (fun h => ?_) (fun h => ?_)
      | with_reducible refine goDGb_b (fun h => ?_) (fun h => ?_)
      | with_reducible refine goDGb_n (fun h => ?_) (fun h => ?_)
      | with_reducible refine goDGb_d (fun h => ?_) (fun h => ?_)
      | with_reducible refine goDGb_split (fun h => ?_) (fun h => ?_)
      | (refine goCall_norm ?_; simp only [AV.norm, AV.normL, W2, hv]; first | refine goCall_p (heavy1_ok _) (.inl rfl) ?_)
      | (refine goDCall_norm ?_; simp only [AV.norm, AV.normL, W2, hv]; first | refine goDCall_p (heavy1_ok _) (.inl rfl) ?_)
      | refine go_draw (id := 7) C_ok mixed 0 Try.f19.ntmps rfl (by kernel_rfl) (by decide) ?_
      | refine go_draw (id := 11) C_ok mixed 0 Try.f19.ntmps rfl (by kernel_rfl) (by decide) ?_) <;> first | simp only [h, ↓upd_eq, ↓envL_cons, Go.Ab.W0, guardOf, eff, effBuiltin, abin, abinInt, cellsAt, shift, AState.ev, AState.put, AState.new, ofVal, ofVal1, setRange, inplOf, if_true, if_false, reduceIte, Nat.reduceEqDiff, Nat.reduceAdd, Nat.reduceLT, Nat.reduceLeDiff, reduceCtorEq, Nat.reduceMul, implies_true, fillA, placeSt, fillE, elemsOf, effAppend, effSlice, optInt, reCells, forall_eq_or_imp, forall_eq, isAl, retP, AV.norm, AV.normL, Nat.reducePow, W1, hv] | simp only [↓upd_eq, ↓envL_cons, Go.Ab.W0, guardOf, eff, effBuiltin, abin, abinInt, cellsAt, shift, AState.ev, AState.put, AState.new, ofVal, ofVal1, setRange, inplOf, if_true, if_false, reduceIte, Nat.reduceEqDiff, Nat.reduceAdd, Nat.reduceLT, Nat.reduceLeDiff, reduceCtorEq, Nat.reduceMul, implies_true, fillA, placeSt, fillE, elemsOf, effAppend, effSlice, optInt, reCells, forall_eq_or_imp, forall_eq, isAl, retP, AV.norm, AV.normL, Nat.reducePow, W1, hv] | skip)
  · have na := heavy_nodes hv (t := t) (by simp)
    have a1 : nodes t ≤ 1048576 := by omega
    have a2 : nodes t ≤ 1000000000 := by omega
    have q1 : ∀ v, nodes (putT v t) = nodes t := fun v => (putL_all v t).2.2.2.1
    have q2 : ∀ v, without 5 (putT v t) = true := fun v => (putL_all v t).2.2.1
    have q3 : ∀ v, without 6 (putT v t) = (without 6 t && without 5 t) := fun v => (putL_all v t).2.2.2.2
    have p1 : ∀ v, nodes (putT v t) ≤ 1048576 := fun v => by rw [q1]; omega
    have p2 : ∀ v, nodes (putT v t) ≤ 1000000000 := fun v => by rw [q1]; omega
    have hl := varsT_len t
    have hmax : (varsT t).length ≤ maxLen := by rw [maxLen_val]; omega
    have c1 : (((varsT t).length : Int) == 0) = without 6 t := by
      rw [Bool.eq_iff_iff, ← varsT_closed]; simp
    have c2 : ∀ v, (((varsT (putT v t)).length : Int) ≥ ((varsT t).length : Int)) = True := fun v => by have := put_len v t; simp only [eq_iff_iff, iff_true]; omega
    have w1 : IntKind.wrap .i64 (((varsT t).length : Int) + 1) = (((varsT t).length + 1 : Nat) : Int) := wrap_nat1 (by omega)
    have c3 : ∀ v, (((varsT (putT v t)).length : Int) ≤ (((varsT t).length + 1 : Nat) : Int)) = True := fun v => by have := put_len v t; simp only [eq_iff_iff, iff_true]; omega
    refine pcalls_text C_ok Try.func19 rfl (by decide) (Nat.le_of_ble_eq_true rfl) (by decide) rfl fun ok H => ?_
    rw [Try.results19]
    try simp only [↓upd_eq, ↓envL_cons, Go.Ab.W0, guardOf, eff, effBuiltin, abin, abinInt, cellsAt, shift, AState.ev, AState.put, AState.new, ofVal, ofVal1, setRange, inplOf, if_true, if_false, reduceIte, Nat.reduceEqDiff, Nat.reduceAdd, Nat.reduceLT, Nat.reduceLeDiff, reduceCtorEq, Nat.reduceMul, implies_true, fillA, placeSt, fillE, elemsOf, effAppend, effSlice, optInt, reCells, forall_eq_or_imp, forall_eq, isAl, retP, AV.norm, AV.normL, Nat.reducePow, W1, hv, ints_norm]
    repeat' ((first
      | with_reducible refine goIf_b (fun h => ?_) (fun h => ?_)
      | with_reducible refine goIf_n (fun h => ?_) (fun h => ?_)
      | with_reducible refine goIf_d (fun h => ?_) (fun h => ?_)
      | with_reducible refine goIf_split (fun h => ?_) (fun h => ?_)
      | with_reducible refine goGb_b (fun h => ?_) (fun h => ?_)
      | with_reducible refine goGb_n (fun h => ?_) (fun h => ?_)
      | with_reducible refine goGb_d (fun h => ?_) (fun h => ?_)
      | with_reducible refine goGb_split (fun h => ?_) (fun h => ?_)
      | with_reducible refine goDGb_b (fun h => ?_) (fun h => ?_)
      | with_reducible refine goDGb_n (fun h => ?_) (fun h => ?_)
      | with_reducible refine goDGb_d (fun h => ?_) (fun h => ?_)
      | with_reducible refine goDGb_split (fun h => ?_) (fun h => ?_)
      | (refine goCall_norm ?_; simp only [AV.norm, AV.normL, W2, hv, ints_norm]; first | refine goCall_p (heavy1_ok _) (.inl rfl) ?_ | refine goCall_p (kVars_ok _ a1) (.inl rfl) ?_)
      | (refine goDCall_norm ?_; simp only [AV.norm, AV.normL, W2, hv, ints_norm]; first | refine goDCall_p (heavy1_ok _) (.inl rfl) ?_ | refine goDCall_p (kVars_ok _ a1) (.inl rfl) ?_)
      | refine go_draw (id := 7) C_ok mixed 0 Try.f19.ntmps rfl (by kernel_rfl) (by decide) ?_
      | refine go_draw (id := 11) C_ok mixed 0 Try.f19.ntmps rfl (by kernel_rfl) (by decide) ?_) <;> first | simp only [h, ↓upd_eq, ↓envL_cons, Go.Ab.W0, guardOf, eff, effBuiltin, abin, abinInt, cellsAt, shift, AState.ev, AState.put, AState.new, ofVal, ofVal1, setRange, inplOf, if_true, if_false, reduceIte, Nat.reduceEqDiff, Nat.reduceAdd, Nat.reduceLT, Nat.reduceLeDiff, reduceCtorEq, Nat.reduceMul, implies_true, fillA, placeSt, fillE, elemsOf, effAppend, effSlice, optInt, reCells, forall_eq_or_imp, forall_eq, isAl, retP, AV.norm, AV.normL, Nat.reducePow, W1, hv, ints_norm] | simp only [↓upd_eq, ↓envL_cons, Go.Ab.W0, guardOf, eff, effBuiltin, abin, abinInt, cellsAt, shift, AState.ev, AState.put, AState.new, ofVal, ofVal1, setRange, inplOf, if_true, if_false, reduceIte, Nat.reduceEqDiff, Nat.reduceAdd, Nat.reduceLT, Nat.reduceLeDiff, reduceCtorEq, Nat.reduceMul, implies_true, fillA, placeSt, fillE, elemsOf, effAppend, effSlice, optInt, reCells, forall_eq_or_imp, forall_eq, isAl, retP, AV.norm, AV.normL, Nat.reducePow, W1, hv, ints_norm] | skip)
    refine aloop_trim [6, 1, 2, 5] ?_
    simp only [List.map_cons, List.map_nil, ↓upd_eq, ↓envL_cons, Go.Ab.W0, guardOf, eff, effBuiltin, abin, abinInt, cellsAt, shift, AState.ev, AState.put, AState.new, ofVal, ofVal1, setRange, inplOf, if_true, if_false, reduceIte, Nat.reduceEqDiff, Nat.reduceAdd, Nat.reduceLT, Nat.reduceLeDiff, reduceCtorEq, Nat.reduceMul, implies_true, fillA, placeSt, fillE, elemsOf, effAppend, effSlice, optInt, reCells, forall_eq_or_imp, forall_eq, isAl, retP, AV.norm, AV.normL, Nat.reducePow, W1]
    refine goLoopS 1 (fun i : Nat => [(6, .int .i64 i)]) (fun _ => _) (fun i => i ≤ (varsT t).length) (fun i => (varsT t).length - i) C_ok 0 rfl rfl (Nat.zero_le _) (by decide) ?_
    intro i hi
    simp only [List.drop_succ_cons, List.drop_zero, List.cons_append, List.nil_append]
    simp only [↓upd_eq, ↓envL_cons, Go.Ab.W0, guardOf, eff, effBuiltin, abin, abinInt, cellsAt, shift, AState.ev, AState.put, AState.new, ofVal, ofVal1, setRange, inplOf, if_true, if_false, reduceIte, Nat.reduceEqDiff, Nat.reduceAdd, Nat.reduceLT, Nat.reduceLeDiff, reduceCtorEq, Nat.reduceMul, implies_true, fillA, placeSt, fillE, elemsOf, effAppend, effSlice, optInt, reCells, forall_eq_or_imp, forall_eq, isAl, retP, AV.norm, AV.normL, Nat.reducePow, W1]
    refine goIf_d (fun hlt => ?_) (fun hlt => ?_)
    · have hin := nodup_take (varsT_nodup t) hlt
      have hle : ((i : Int) ≤ ((varsT t).length : Int)) = True := by simp only [eq_iff_iff, iff_true]; omega
      try simp only [↓upd_eq, ↓envL_cons, Go.Ab.W0, guardOf, eff, effBuiltin, abin, abinInt, cellsAt, shift, AState.ev, AState.put, AState.new, ofVal, ofVal1, setRange, inplOf, if_true, if_false, reduceIte, Nat.reduceEqDiff, Nat.reduceAdd, Nat.reduceLT, Nat.reduceLeDiff, reduceCtorEq, Nat.reduceMul, implies_true, fillA, placeSt, fillE, elemsOf, effAppend, effSlice, optInt, reCells, forall_eq_or_imp, forall_eq, isAl, retP, AV.norm, AV.normL, Nat.reducePow, W1, hlt, hin, hle, ← List.map_take, Int.toNat_zero, Int.le_refl, map_int_get hlt, ints_norm, i64_eq, all_int1, List.length_map]
      repeat' ((first
        | with_reducible refine goIf_b (fun h => ?_) (fun h => ?_)
        | with_reducible refine goIf_n (fun h => ?_) (fun h => ?_)
        | with_reducible refine goIf_d (fun h => ?_) (fun h => ?_)
        | with_reducible refine goIf_split (fun h => ?_) (fun h => ?_)
        | with_reducible refine goGb_b (fun h => ?_) (fun h => ?_)
        | with_reducible refine goGb_n (fun h => ?_) (fun h => ?_)
        | with_reducible refine goGb_d (fun h => ?_) (fun h => ?_)
        | with_reducible refine goGb_split (fun h => ?_) (fun h => ?_)
        | with_reducible refine goDGb_b (fun h => ?_) (fun h => ?_)
        | with_reducible refine goDGb_n (fun h => ?_) (fun h => ?_)
        | with_reducible refine goDGb_d (fun h => ?_) (fun h => ?_)
        | with_reducible refine goDGb_split (fun h => ?_) (fun h => ?_)
        | (refine goCall_norm ?_; simp only [AV.norm, AV.normL, W2, hlt, hin, hle, ← List.map_take, Int.toNat_zero, Int.le_refl, map_int_get hlt, ints_norm, i64_eq, all_int1, List.length_map]; first | refine goCall_p (in_ok _ _) (.inl rfl) ?_)
        | (refine goDCall_norm ?_; simp only [AV.norm, AV.normL, W2, hlt, hin, hle, ← List.map_take, Int.toNat_zero, Int.le_refl, map_int_get hlt, ints_norm, i64_eq, all_int1, List.length_map]; first | refine goDCall_p (in_ok _ _) (.inl rfl) ?_)
        | refine go_draw (id := 7) C_ok mixed 0 Try.f19.ntmps rfl (by kernel_rfl) (by decide) ?_
        | refine go_draw (id := 11) C_ok mixed 0 Try.f19.ntmps rfl (by kernel_rfl) (by decide) ?_) <;> first | simp only [h, ↓upd_eq, ↓envL_cons, Go.Ab.W0, guardOf, eff, effBuiltin, abin, abinInt, cellsAt, shift, AState.ev, AState.put, AState.new, ofVal, ofVal1, setRange, inplOf, if_true, if_false, reduceIte, Nat.reduceEqDiff, Nat.reduceAdd, Nat.reduceLT, Nat.reduceLeDiff, reduceCtorEq, Nat.reduceMul, implies_true, fillA, placeSt, fillE, elemsOf, effAppend, effSlice, optInt, reCells, forall_eq_or_imp, forall_eq, isAl, retP, AV.norm, AV.normL, Nat.reducePow, W1, hlt, hin, hle, ← List.map_take, Int.toNat_zero, Int.le_refl, map_int_get hlt, ints_norm, i64_eq, all_int1, List.length_map] | simp only [↓upd_eq, ↓envL_cons, Go.Ab.W0, guardOf, eff, effBuiltin, abin, abinInt, cellsAt, shift, AState.ev, AState.put, AState.new, ofVal, ofVal1, setRange, inplOf, if_true, if_false, reduceIte, Nat.reduceEqDiff, Nat.reduceAdd, Nat.reduceLT, Nat.reduceLeDiff, reduceCtorEq, Nat.reduceMul, implies_true, fillA, placeSt, fillE, elemsOf, effAppend, effSlice, optInt, reCells, forall_eq_or_imp, forall_eq, isAl, retP, AV.norm, AV.normL, Nat.reducePow, W1, hlt, hin, hle, ← List.map_take, Int.toNat_zero, Int.le_refl, map_int_get hlt, ints_norm, i64_eq, all_int1, List.length_map] | skip)
      refine ⟨i + 1, hlt, by omega, weak_drop rfl rfl rfl rfl ?_ ?_ ?_⟩ <;> simp only [List.forall_mem_cons, mem_nil_all, frz_app, ↓upd_eq, ↓envL_cons, Nat.reduceEqDiff, if_true, if_false, reduceIte, true_and, and_true, and_self, true_or, or_true, implies_true, List.not_mem_nil, false_implies, AV.bel, AV.belL, AObj.bel, AV.norm, AV.normL, Bool.and_true, Bool.true_and, decide_true, decide_eq_true_eq, List.length_cons, List.length_nil, Nat.zero_add, Nat.reduceAdd, Nat.lt_add_one, Nat.lt_add_right_iff_pos, Nat.zero_lt_succ, Nat.zero_lt_one, Nat.reduceLT, List.take_succ_cons, List.take_zero, wrap_succ hlt hmax, ints_bel, AV.belL, List.length_map, emb_bel, map_bel]
    · have h1000 : ((1000 : Int) ≠ 0) = True := by simp
      try simp only [↓upd_eq, ↓envL_cons, Go.Ab.W0, guardOf, eff, effBuiltin, abin, abinInt, cellsAt, shift, AState.ev, AState.put, AState.new, ofVal, ofVal1, setRange, inplOf, if_true, if_false, reduceIte, Nat.reduceEqDiff, Nat.reduceAdd, Nat.reduceLT, Nat.reduceLeDiff, reduceCtorEq, Nat.reduceMul, implies_true, fillA, placeSt, fillE, elemsOf, effAppend, effSlice, optInt, reCells, forall_eq_or_imp, forall_eq, isAl, retP, AV.norm, AV.normL, Nat.reducePow, W1, ite_tt, ite_tf, ite_and, ite_or, h1000, q1, q2, q3, c1, c2, c3, w1, ints_norm, List.length_map, beq_self_eq_true, Bool.true_and]
      repeat' ((first
        | (apply goGb_op (fun _ _ => rfl); (· intro hb; simp only [hb, ↓upd_eq, ↓envL_cons, Go.Ab.W0, guardOf, eff, effBuiltin, abin, abinInt, cellsAt, shift, AState.ev, AState.put, AState.new, ofVal, ofVal1, setRange, inplOf, if_true, if_false, reduceIte, Nat.reduceEqDiff, Nat.reduceAdd, Nat.reduceLT, Nat.reduceLeDiff, reduceCtorEq, Nat.reduceMul, implies_true, fillA, placeSt, fillE, elemsOf, effAppend, effSlice, optInt, reCells, forall_eq_or_imp, forall_eq, isAl, retP, AV.norm, AV.normL, Nat.reducePow, W1, ite_tt, ite_tf, ite_and, ite_or, h1000, q1, q2, q3, c1, c2, c3, w1, ints_norm, List.length_map, beq_self_eq_true, Bool.true_and]; exact ⟨rfl, trivial⟩))
        | (apply goGb_call (put_ok _ _ a1); (· intro hb; simp only [hb, AV.norm, AV.normL, W2, ↓upd_eq, ↓envL_cons, Go.Ab.W0, guardOf, eff, effBuiltin, abin, abinInt, cellsAt, shift, AState.ev, AState.put, AState.new, ofVal, ofVal1, setRange, inplOf, if_true, if_false, reduceIte, Nat.reduceEqDiff, Nat.reduceAdd, Nat.reduceLT, Nat.reduceLeDiff, reduceCtorEq, Nat.reduceMul, implies_true, fillA, placeSt, fillE, elemsOf, effAppend, effSlice, optInt, reCells, forall_eq_or_imp, forall_eq, isAl, retP, AV.norm, AV.normL, Nat.reducePow, W1, ite_tt, ite_tf, ite_and, ite_or, h1000, q1, q2, q3, c1, c2, c3, w1, ints_norm, List.length_map, beq_self_eq_true, Bool.true_and]; rfl))
        | (apply goGb_call (kVars_ok _ (p1 _)); (· intro hb; simp only [hb, AV.norm, AV.normL, W2, ↓upd_eq, ↓envL_cons, Go.Ab.W0, guardOf, eff, effBuiltin, abin, abinInt, cellsAt, shift, AState.ev, AState.put, AState.new, ofVal, ofVal1, setRange, inplOf, if_true, if_false, reduceIte, Nat.reduceEqDiff, Nat.reduceAdd, Nat.reduceLT, Nat.reduceLeDiff, reduceCtorEq, Nat.reduceMul, implies_true, fillA, placeSt, fillE, elemsOf, effAppend, effSlice, optInt, reCells, forall_eq_or_imp, forall_eq, isAl, retP, AV.norm, AV.normL, Nat.reducePow, W1, ite_tt, ite_tf, ite_and, ite_or, h1000, q1, q2, q3, c1, c2, c3, w1, ints_norm, List.length_map, beq_self_eq_true, Bool.true_and]; rfl))
        | (apply goGb_call (size_ok _ (p2 _)); (· intro hb; simp only [hb, AV.norm, AV.normL, W2, ↓upd_eq, ↓envL_cons, Go.Ab.W0, guardOf, eff, effBuiltin, abin, abinInt, cellsAt, shift, AState.ev, AState.put, AState.new, ofVal, ofVal1, setRange, inplOf, if_true, if_false, reduceIte, Nat.reduceEqDiff, Nat.reduceAdd, Nat.reduceLT, Nat.reduceLeDiff, reduceCtorEq, Nat.reduceMul, implies_true, fillA, placeSt, fillE, elemsOf, effAppend, effSlice, optInt, reCells, forall_eq_or_imp, forall_eq, isAl, retP, AV.norm, AV.normL, Nat.reducePow, W1, ite_tt, ite_tf, ite_and, ite_or, h1000, q1, q2, q3, c1, c2, c3, w1, ints_norm, List.length_map, beq_self_eq_true, Bool.true_and]; rfl))
        | (apply goGb_call (size_ok _ a2); (· intro hb; simp only [hb, AV.norm, AV.normL, W2, ↓upd_eq, ↓envL_cons, Go.Ab.W0, guardOf, eff, effBuiltin, abin, abinInt, cellsAt, shift, AState.ev, AState.put, AState.new, ofVal, ofVal1, setRange, inplOf, if_true, if_false, reduceIte, Nat.reduceEqDiff, Nat.reduceAdd, Nat.reduceLT, Nat.reduceLeDiff, reduceCtorEq, Nat.reduceMul, implies_true, fillA, placeSt, fillE, elemsOf, effAppend, effSlice, optInt, reCells, forall_eq_or_imp, forall_eq, isAl, retP, AV.norm, AV.normL, Nat.reducePow, W1, ite_tt, ite_tf, ite_and, ite_or, h1000, q1, q2, q3, c1, c2, c3, w1, ints_norm, List.length_map, beq_self_eq_true, Bool.true_and]; rfl))
        | (apply goGb_call (static_ok _); (· intro hb; simp only [hb, AV.norm, AV.normL, W2, ↓upd_eq, ↓envL_cons, Go.Ab.W0, guardOf, eff, effBuiltin, abin, abinInt, cellsAt, shift, AState.ev, AState.put, AState.new, ofVal, ofVal1, setRange, inplOf, if_true, if_false, reduceIte, Nat.reduceEqDiff, Nat.reduceAdd, Nat.reduceLT, Nat.reduceLeDiff, reduceCtorEq, Nat.reduceMul, implies_true, fillA, placeSt, fillE, elemsOf, effAppend, effSlice, optInt, reCells, forall_eq_or_imp, forall_eq, isAl, retP, AV.norm, AV.normL, Nat.reducePow, W1, ite_tt, ite_tf, ite_and, ite_or, h1000, q1, q2, q3, c1, c2, c3, w1, ints_norm, List.length_map, beq_self_eq_true, Bool.true_and]; rfl))
        | (apply goGb_call (closed_ok _); (· intro hb; simp only [hb, AV.norm, AV.normL, W2, ↓upd_eq, ↓envL_cons, Go.Ab.W0, guardOf, eff, effBuiltin, abin, abinInt, cellsAt, shift, AState.ev, AState.put, AState.new, ofVal, ofVal1, setRange, inplOf, if_true, if_false, reduceIte, Nat.reduceEqDiff, Nat.reduceAdd, Nat.reduceLT, Nat.reduceLeDiff, reduceCtorEq, Nat.reduceMul, implies_true, fillA, placeSt, fillE, elemsOf, effAppend, effSlice, optInt, reCells, forall_eq_or_imp, forall_eq, isAl, retP, AV.norm, AV.normL, Nat.reducePow, W1, ite_tt, ite_tf, ite_and, ite_or, h1000, q1, q2, q3, c1, c2, c3, w1, ints_norm, List.length_map, beq_self_eq_true, Bool.true_and]; rfl))
        | (apply goGb_call (wakes3_ok); (· intro hb; simp only [hb, AV.norm, AV.normL, W2, ↓upd_eq, ↓envL_cons, Go.Ab.W0, guardOf, eff, effBuiltin, abin, abinInt, cellsAt, shift, AState.ev, AState.put, AState.new, ofVal, ofVal1, setRange, inplOf, if_true, if_false, reduceIte, Nat.reduceEqDiff, Nat.reduceAdd, Nat.reduceLT, Nat.reduceLeDiff, reduceCtorEq, Nat.reduceMul, implies_true, fillA, placeSt, fillE, elemsOf, effAppend, effSlice, optInt, reCells, forall_eq_or_imp, forall_eq, isAl, retP, AV.norm, AV.normL, Nat.reducePow, W1, ite_tt, ite_tf, ite_and, ite_or, h1000, q1, q2, q3, c1, c2, c3, w1, ints_norm, List.length_map, beq_self_eq_true, Bool.true_and]; rfl))
        | (apply goDGb_op (fun _ _ => rfl); (· intro hb; simp only [hb, ↓upd_eq, ↓envL_cons, Go.Ab.W0, guardOf, eff, effBuiltin, abin, abinInt, cellsAt, shift, AState.ev, AState.put, AState.new, ofVal, ofVal1, setRange, inplOf, if_true, if_false, reduceIte, Nat.reduceEqDiff, Nat.reduceAdd, Nat.reduceLT, Nat.reduceLeDiff, reduceCtorEq, Nat.reduceMul, implies_true, fillA, placeSt, fillE, elemsOf, effAppend, effSlice, optInt, reCells, forall_eq_or_imp, forall_eq, isAl, retP, AV.norm, AV.normL, Nat.reducePow, W1, ite_tt, ite_tf, ite_and, ite_or, h1000, q1, q2, q3, c1, c2, c3, w1, ints_norm, List.length_map, beq_self_eq_true, Bool.true_and]; exact ⟨rfl, trivial⟩))
        | (apply goDGb_call (put_ok _ _ a1); (· intro hb; simp only [hb, AV.norm, AV.normL, W2, ↓upd_eq, ↓envL_cons, Go.Ab.W0, guardOf, eff, effBuiltin, abin, abinInt, cellsAt, shift, AState.ev, AState.put, AState.new, ofVal, ofVal1, setRange, inplOf, if_true, if_false, reduceIte, Nat.reduceEqDiff, Nat.reduceAdd, Nat.reduceLT, Nat.reduceLeDiff, reduceCtorEq, Nat.reduceMul, implies_true, fillA, placeSt, fillE, elemsOf, effAppend, effSlice, optInt, reCells, forall_eq_or_imp, forall_eq, isAl, retP, AV.norm, AV.normL, Nat.reducePow, W1, ite_tt, ite_tf, ite_and, ite_or, h1000, q1, q2, q3, c1, c2, c3, w1, ints_norm, List.length_map, beq_self_eq_true, Bool.true_and]; rfl))
        | (apply goDGb_call (kVars_ok _ (p1 _)); (· intro hb; simp only [hb, AV.norm, AV.normL, W2, ↓upd_eq, ↓envL_cons, Go.Ab.W0, guardOf, eff, effBuiltin, abin, abinInt, cellsAt, shift, AState.ev, AState.put, AState.new, ofVal, ofVal1, setRange, inplOf, if_true, if_false, reduceIte, Nat.reduceEqDiff, Nat.reduceAdd, Nat.reduceLT, Nat.reduceLeDiff, reduceCtorEq, Nat.reduceMul, implies_true, fillA, placeSt, fillE, elemsOf, effAppend, effSlice, optInt, reCells, forall_eq_or_imp, forall_eq, isAl, retP, AV.norm, AV.normL, Nat.reducePow, W1, ite_tt, ite_tf, ite_and, ite_or, h1000, q1, q2, q3, c1, c2, c3, w1, ints_norm, List.length_map, beq_self_eq_true, Bool.true_and]; rfl))
        | (apply goDGb_call (size_ok _ (p2 _)); (· intro hb; simp only [hb, AV.norm, AV.normL, W2, ↓upd_eq, ↓envL_cons, Go.Ab.W0, guardOf, eff, effBuiltin, abin, abinInt, cellsAt, shift, AState.ev, AState.put, AState.new, ofVal, ofVal1, setRange, inplOf, if_true, if_false, reduceIte, Nat.reduceEqDiff, Nat.reduceAdd, Nat.reduceLT, Nat.reduceLeDiff, reduceCtorEq, Nat.reduceMul, implies_true, fillA, placeSt, fillE, elemsOf, effAppend, effSlice, optInt, reCells, forall_eq_or_imp, forall_eq, isAl, retP, AV.norm, AV.normL, Nat.reducePow, W1, ite_tt, ite_tf, ite_and, ite_or, h1000, q1, q2, q3, c1, c2, c3, w1, ints_norm, List.length_map, beq_self_eq_true, Bool.true_and]; rfl))
        | (apply goDGb_call (size_ok _ a2); (· intro hb; simp only [hb, AV.norm, AV.normL, W2, ↓upd_eq, ↓envL_cons, Go.Ab.W0, guardOf, eff, effBuiltin, abin, abinInt, cellsAt, shift, AState.ev, AState.put, AState.new, ofVal, ofVal1, setRange, inplOf, if_true, if_false, reduceIte, Nat.reduceEqDiff, Nat.reduceAdd, Nat.reduceLT, Nat.reduceLeDiff, reduceCtorEq, Nat.reduceMul, implies_true, fillA, placeSt, fillE, elemsOf, effAppend, effSlice, optInt, reCells, forall_eq_or_imp, forall_eq, isAl, retP, AV.norm, AV.normL, Nat.reducePow, W1, ite_tt, ite_tf, ite_and, ite_or, h1000, q1, q2, q3, c1, c2, c3, w1, ints_norm, List.length_map, beq_self_eq_true, Bool.true_and]; rfl))
        | (apply goDGb_call (static_ok _); (· intro hb; simp only [hb, AV.norm, AV.normL, W2, ↓upd_eq, ↓envL_cons, Go.Ab.W0, guardOf, eff, effBuiltin, abin, abinInt, cellsAt, shift, AState.ev, AState.put, AState.new, ofVal, ofVal1, setRange, inplOf, if_true, if_false, reduceIte, Nat.reduceEqDiff, Nat.reduceAdd, Nat.reduceLT, Nat.reduceLeDiff, reduceCtorEq, Nat.reduceMul, implies_true, fillA, placeSt, fillE, elemsOf, effAppend, effSlice, optInt, reCells, forall_eq_or_imp, forall_eq, isAl, retP, AV.norm, AV.normL, Nat.reducePow, W1, ite_tt, ite_tf, ite_and, ite_or, h1000, q1, q2, q3, c1, c2, c3, w1, ints_norm, List.length_map, beq_self_eq_true, Bool.true_and]; rfl))
        | (apply goDGb_call (closed_ok _); (· intro hb; simp only [hb, AV.norm, AV.normL, W2, ↓upd_eq, ↓envL_cons, Go.Ab.W0, guardOf, eff, effBuiltin, abin, abinInt, cellsAt, shift, AState.ev, AState.put, AState.new, ofVal, ofVal1, setRange, inplOf, if_true, if_false, reduceIte, Nat.reduceEqDiff, Nat.reduceAdd, Nat.reduceLT, Nat.reduceLeDiff, reduceCtorEq, Nat.reduceMul, implies_true, fillA, placeSt, fillE, elemsOf, effAppend, effSlice, optInt, reCells, forall_eq_or_imp, forall_eq, isAl, retP, AV.norm, AV.normL, Nat.reducePow, W1, ite_tt, ite_tf, ite_and, ite_or, h1000, q1, q2, q3, c1, c2, c3, w1, ints_norm, List.length_map, beq_self_eq_true, Bool.true_and]; rfl))
        | (apply goDGb_call (wakes3_ok); (· intro hb; simp only [hb, AV.norm, AV.normL, W2, ↓upd_eq, ↓envL_cons, Go.Ab.W0, guardOf, eff, effBuiltin, abin, abinInt, cellsAt, shift, AState.ev, AState.put, AState.new, ofVal, ofVal1, setRange, inplOf, if_true, if_false, reduceIte, Nat.reduceEqDiff, Nat.reduceAdd, Nat.reduceLT, Nat.reduceLeDiff, reduceCtorEq, Nat.reduceMul, implies_true, fillA, placeSt, fillE, elemsOf, effAppend, effSlice, optInt, reCells, forall_eq_or_imp, forall_eq, isAl, retP, AV.norm, AV.normL, Nat.reducePow, W1, ite_tt, ite_tf, ite_and, ite_or, h1000, q1, q2, q3, c1, c2, c3, w1, ints_norm, List.length_map, beq_self_eq_true, Bool.true_and]; rfl))
        | with_reducible refine goIf_b (fun h => ?_) (fun h => ?_)
        | with_reducible refine goIf_n (fun h => ?_) (fun h => ?_)
        | with_reducible refine goIf_d (fun h => ?_) (fun h => ?_)
        | with_reducible refine goIf_split (fun h => ?_) (fun h => ?_)
        | with_reducible refine goGb_b (fun h => ?_) (fun h => ?_)
        | with_reducible refine goGb_n (fun h => ?_) (fun h => ?_)
        | with_reducible refine goGb_d (fun h => ?_) (fun h => ?_)
        | with_reducible refine goGb_split (fun h => ?_) (fun h => ?_)
        | with_reducible refine goDGb_b (fun h => ?_) (fun h => ?_)
        | with_reducible refine goDGb_n (fun h => ?_) (fun h => ?_)
        | with_reducible refine goDGb_d (fun h => ?_) (fun h => ?_)
        | with_reducible refine goDGb_split (fun h => ?_) (fun h => ?_)
        | (refine goCall_norm ?_; simp only [AV.norm, AV.normL, W2, h1000, q1, q2, q3, c1, c2, c3, w1, ints_norm, List.length_map, beq_self_eq_true, Bool.true_and]; first | refine goCall_p (put_ok _ _ a1) (.inl rfl) ?_ | refine goCall_p (kVars_ok _ (p1 _)) (.inl rfl) ?_ | refine goCall_p (size_ok _ (p2 _)) (.inl rfl) ?_ | refine goCall_p (size_ok _ a2) (.inl rfl) ?_ | refine goCall_p (static_ok _) (.inl rfl) ?_ | refine goCall_p (closed_ok _) (.inl rfl) ?_ | refine goCall_p (wakes3_ok) (.inl rfl) ?_)
        | (refine goDCall_norm ?_; simp only [AV.norm, AV.normL, W2, h1000, q1, q2, q3, c1, c2, c3, w1, ints_norm, List.length_map, beq_self_eq_true, Bool.true_and]; first | refine goDCall_p (put_ok _ _ a1) (.inl rfl) ?_ | refine goDCall_p (kVars_ok _ (p1 _)) (.inl rfl) ?_ | refine goDCall_p (size_ok _ (p2 _)) (.inl rfl) ?_ | refine goDCall_p (size_ok _ a2) (.inl rfl) ?_ | refine goDCall_p (static_ok _) (.inl rfl) ?_ | refine goDCall_p (closed_ok _) (.inl rfl) ?_ | refine goDCall_p (wakes3_ok) (.inl rfl) ?_)
        | refine go_draw (id := 7) C_ok mixed 0 Try.f19.ntmps rfl (by kernel_rfl) (by decide) ?_
        | refine go_draw (id := 11) C_ok mixed 0 Try.f19.ntmps rfl (by kernel_rfl) (by decide) ?_) <;> first | simp only [h, ↓upd_eq, ↓envL_cons, Go.Ab.W0, guardOf, eff, effBuiltin, abin, abinInt, cellsAt, shift, AState.ev, AState.put, AState.new, ofVal, ofVal1, setRange, inplOf, if_true, if_false, reduceIte, Nat.reduceEqDiff, Nat.reduceAdd, Nat.reduceLT, Nat.reduceLeDiff, reduceCtorEq, Nat.reduceMul, implies_true, fillA, placeSt, fillE, elemsOf, effAppend, effSlice, optInt, reCells, forall_eq_or_imp, forall_eq, isAl, retP, AV.norm, AV.normL, Nat.reducePow, W1, ite_tt, ite_tf, ite_and, ite_or, h1000, q1, q2, q3, c1, c2, c3, w1, ints_norm, List.length_map, beq_self_eq_true, Bool.true_and] | simp only [↓upd_eq, ↓envL_cons, Go.Ab.W0, guardOf, eff, effBuiltin, abin, abinInt, cellsAt, shift, AState.ev, AState.put, AState.new, ofVal, ofVal1, setRange, inplOf, if_true, if_false, reduceIte, Nat.reduceEqDiff, Nat.reduceAdd, Nat.reduceLT, Nat.reduceLeDiff, reduceCtorEq, Nat.reduceMul, implies_true, fillA, placeSt, fillE, elemsOf, effAppend, effSlice, optInt, reCells, forall_eq_or_imp, forall_eq, isAl, retP, AV.norm, AV.normL, Nat.reducePow, W1, ite_tt, ite_tf, ite_and, ite_or, h1000, q1, q2, q3, c1, c2, c3, w1, ints_norm, List.length_map, beq_self_eq_true, Bool.true_and] | skip)

end Go.Proofs.Ytcpfjabjonpdaaa
