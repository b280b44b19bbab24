/- Walks: the reference's Sub. No condition. -/
import Derived.Test.YtcpfjabjonpdaaaFC
set_option linter.unusedSimpArgs false
set_option linter.unusedVariables false
set_option maxHeartbeats 4000000
set_option maxRecDepth 100000
namespace Go.Proofs.Ytcpfjabjonpdaaa
open Go Go.Ab
attribute [local irreducible] PCalls ACalls CallK GoCall GoDCall GoIf GoGb GoDGb GoO GoD GoX GoDX GoG GoDG GoGv GoDGv Go ALoop

theorem rsub_core (a b : Ty) (ha : right a = true) (hb : right b = true) (hk : a.kind = b.kind) (h0 : 0 < a.kids.length)
    (H : ∀ i, i < a.kids.length → PCalls Try.prog 43 [emb (a.kid i), emb (b.kid i)] (.bool (sb 2 (a.kid i) (b.kid i))) ∧
      PCalls Try.prog 43 [emb (b.kid i), emb (a.kid i)] (.bool (sb 2 (b.kid i) (a.kid i)))) :
    PCalls Try.prog 43 [emb a, emb b] (.bool (kidF sb 2 a (b.kid 0) (b.kid 1))) := by
  have hlen := right_len ha hb hk
  have e1 := leafB_nokids (b := b) h0
  have e2 := likeB_kids h0 hk
  have a5 : (a.kind == 5) = false := by
    simp only [beq_eq_false_iff_ne]
    intro h5
    rw [dyn_eq ha h5] at h0; exact absurd h0 (by decide)
  have b5 : (b.kind == 5) = false := by rw [← hk]; exact a5
  rcases right_arity ha with ⟨_, hl⟩ | ⟨k, hl⟩ | ⟨k | k, hl⟩
  · rw [hl] at h0; exact absurd h0 (by decide)
  · have hlb : b.kids.length = 1 := by omega
    have k9 : (a.kind == 9) = false := by simp only [beq_eq_false_iff_ne]; omega
    have c0 := (H 0 (by omega)).1
    have hkf : kidF sb 2 a (b.kid 0) (b.kid 1) = sb 2 (a.kid 0) (b.kid 0) := by rw [kidF, if_neg (by omega), if_neg (by omega), if_pos k]
    rw [hkf]
    refine pcalls_text C_ok Try.func43 rfl (by decide) (Nat.le_of_ble_eq_true rfl) (by decide) rfl fun ok H => ?_
    rw [Try.results43]
    try simp only [↓upd_eq, ↓envL_cons, Go.Ab.W0, guardOf, eff, effBuiltin, abin, abinInt, cellsAt, shift, AState.ev, AState.put, AState.new, ofVal, ofVal1, setRange, inplOf, if_true, if_false, reduceIte, Nat.reduceEqDiff, Nat.reduceAdd, Nat.reduceLT, Nat.reduceLeDiff, reduceCtorEq, Nat.reduceMul, implies_true, fillA, placeSt, fillE, elemsOf, effAppend, effSlice, optInt, reCells, forall_eq_or_imp, forall_eq, isAl, retP, AV.norm, AV.normL, Nat.reducePow, W1, Go.Ab.W3, Int.reduceAdd, Int.reduceLT, Int.reduceToNat, Int.reduceBEq, Int.reduceBNe, Int.reduceLE, a5, b5, k9, e1, e2, hl, hlb, map_emb_kid (show 0 < a.kids.length by omega), map_emb_kid (show 0 < b.kids.length by omega), cutNormal_normal]
    repeat' ((first
      | with_reducible refine goIf_b (fun h => ?_) (fun h => ?_)
      | with_reducible refine goIf_n (fun h => ?_) (fun h => ?_)
      | with_reducible refine goIf_d (fun h => ?_) (fun h => ?_)
      | with_reducible refine goIf_split (fun h => ?_) (fun h => ?_)
      | with_reducible refine goGb_b (fun h => ?_) (fun h => ?_)
      | with_reducible refine goGb_n (fun h => ?_) (fun h => ?_)
      | with_reducible refine goGb_d (fun h => ?_) (fun h => ?_)
      | with_reducible refine goGb_split (fun h => ?_) (fun h => ?_)
      | with_reducible refine goDGb_b (fun h => ?_) (fun h => ?_)
      | with_reducible refine goDGb_n (fun h => ?_) (fun h => ?_)
      | with_reducible refine goDGb_d (fun h => ?_) (fun h => ?_)
      | with_reducible refine goDGb_split (fun h => ?_) (fun h => ?_)
      | (refine goCall_norm ?_; simp only [AV.norm, AV.normL, W2, Go.Ab.W3, Int.reduceAdd, Int.reduceLT, Int.reduceToNat, Int.reduceBEq, Int.reduceBNe, Int.reduceLE, a5, b5, k9, e1, e2, hl, hlb, map_emb_kid (show 0 < a.kids.length by omega), map_emb_kid (show 0 < b.kids.length by omega)]; first | refine goCall_p (leafB_ok _ _) (.inl rfl) ?_ | refine goCall_p (likeB_ok _ _) (.inl rfl) ?_ | refine goCall_p (c0) (.inl rfl) ?_)
      | (refine goDCall_norm ?_; simp only [AV.norm, AV.normL, W2, Go.Ab.W3, Int.reduceAdd, Int.reduceLT, Int.reduceToNat, Int.reduceBEq, Int.reduceBNe, Int.reduceLE, a5, b5, k9, e1, e2, hl, hlb, map_emb_kid (show 0 < a.kids.length by omega), map_emb_kid (show 0 < b.kids.length by omega)]; first | refine goDCall_p (leafB_ok _ _) (.inl rfl) ?_ | refine goDCall_p (likeB_ok _ _) (.inl rfl) ?_ | refine goDCall_p (c0) (.inl rfl) ?_)
      | refine go_draw (id := 9) C_ok mixed 0 Try.f43.ntmps rfl (by kernel_rfl) (by decide) ?_
      | refine go_draw (id := 13) C_ok mixed 0 Try.f43.ntmps rfl (by kernel_rfl) (by decide) ?_
      | refine goRound ?_ C_ok Try.f43.ntmps rfl (by decide)) <;> first | simp only [h, ↓upd_eq, ↓envL_cons, Go.Ab.W0, guardOf, eff, effBuiltin, abin, abinInt, cellsAt, shift, AState.ev, AState.put, AState.new, ofVal, ofVal1, setRange, inplOf, if_true, if_false, reduceIte, Nat.reduceEqDiff, Nat.reduceAdd, Nat.reduceLT, Nat.reduceLeDiff, reduceCtorEq, Nat.reduceMul, implies_true, fillA, placeSt, fillE, elemsOf, effAppend, effSlice, optInt, reCells, forall_eq_or_imp, forall_eq, isAl, retP, AV.norm, AV.normL, Nat.reducePow, W1, Go.Ab.W3, Int.reduceAdd, Int.reduceLT, Int.reduceToNat, Int.reduceBEq, Int.reduceBNe, Int.reduceLE, a5, b5, k9, e1, e2, hl, hlb, map_emb_kid (show 0 < a.kids.length by omega), map_emb_kid (show 0 < b.kids.length by omega), cutNormal_normal] | simp only [↓upd_eq, ↓envL_cons, Go.Ab.W0, guardOf, eff, effBuiltin, abin, abinInt, cellsAt, shift, AState.ev, AState.put, AState.new, ofVal, ofVal1, setRange, inplOf, if_true, if_false, reduceIte, Nat.reduceEqDiff, Nat.reduceAdd, Nat.reduceLT, Nat.reduceLeDiff, reduceCtorEq, Nat.reduceMul, implies_true, fillA, placeSt, fillE, elemsOf, effAppend, effSlice, optInt, reCells, forall_eq_or_imp, forall_eq, isAl, retP, AV.norm, AV.normL, Nat.reducePow, W1, Go.Ab.W3, Int.reduceAdd, Int.reduceLT, Int.reduceToNat, Int.reduceBEq, Int.reduceBNe, Int.reduceLE, a5, b5, k9, e1, e2, hl, hlb, map_emb_kid (show 0 < a.kids.length by omega), map_emb_kid (show 0 < b.kids.length by omega), cutNormal_normal] | skip)
    all_goals (simp_all)
  · have hlb : b.kids.length = 2 := by omega
    have k9 : (a.kind == 9) = false := by simp only [beq_eq_false_iff_ne]; omega
    have c0 := (H 0 (by omega)).1
    have c1 := (H 1 (by omega)).1
    have hkf : kidF sb 2 a (b.kid 0) (b.kid 1) = (sb 2 (a.kid 0) (b.kid 0) && sb 2 (a.kid 1) (b.kid 1)) := by rw [kidF, if_neg (by omega), if_pos k]
    rw [hkf]
    refine pcalls_text C_ok Try.func43 rfl (by decide) (Nat.le_of_ble_eq_true rfl) (by decide) rfl fun ok H => ?_
    rw [Try.results43]
    try simp only [↓upd_eq, ↓envL_cons, Go.Ab.W0, guardOf, eff, effBuiltin, abin, abinInt, cellsAt, shift, AState.ev, AState.put, AState.new, ofVal, ofVal1, setRange, inplOf, if_true, if_false, reduceIte, Nat.reduceEqDiff, Nat.reduceAdd, Nat.reduceLT, Nat.reduceLeDiff, reduceCtorEq, Nat.reduceMul, implies_true, fillA, placeSt, fillE, elemsOf, effAppend, effSlice, optInt, reCells, forall_eq_or_imp, forall_eq, isAl, retP, AV.norm, AV.normL, Nat.reducePow, W1, Go.Ab.W3, Int.reduceAdd, Int.reduceLT, Int.reduceToNat, Int.reduceBEq, Int.reduceBNe, Int.reduceLE, a5, b5, k9, e1, e2, hl, hlb, map_emb_kid (show 0 < a.kids.length by omega), map_emb_kid (show 0 < b.kids.length by omega), map_emb_kid (show 1 < a.kids.length by omega), map_emb_kid (show 1 < b.kids.length by omega), cutNormal_normal]
    repeat' ((first
      | with_reducible refine goIf_b (fun h => ?_) (fun h => ?_)
      | with_reducible refine goIf_n (fun h => ?_) (fun h => ?_)
      | with_reducible refine goIf_d (fun h => ?_) (fun h => ?_)
      | with_reducible refine goIf_split (fun h => ?_) (fun h => ?_)
      | with_reducible refine goGb_b (fun h => ?_) (fun h => ?_)
      | with_reducible refine goGb_n (fun h => ?_) (fun h => ?_)
      | with_reducible refine goGb_d (fun h => ?_) (fun h => ?_)
      | with_reducible refine goGb_split (fun h => ?_) (fun h => ?_)
      | with_reducible refine goDGb_b (fun h => ?_) (fun h => ?_)
      | with_reducible refine goDGb_n (fun h => ?_) (fun h => ?_)
      | with_reducible refine goDGb_d (fun h => ?_) (fun h => ?_)
      | with_reducible refine goDGb_split (fun h => ?_) (fun h => ?_)
      | (refine goCall_norm ?_; simp only [AV.norm, AV.normL, W2, Go.Ab.W3, Int.reduceAdd, Int.reduceLT, Int.reduceToNat, Int.reduceBEq, Int.reduceBNe, Int.reduceLE, a5, b5, k9, e1, e2, hl, hlb, map_emb_kid (show 0 < a.kids.length by omega), map_emb_kid (show 0 < b.kids.length by omega), map_emb_kid (show 1 < a.kids.length by omega), map_emb_kid (show 1 < b.kids.length by omega)]; first | refine goCall_p (leafB_ok _ _) (.inl rfl) ?_ | refine goCall_p (likeB_ok _ _) (.inl rfl) ?_ | refine goCall_p (c0) (.inl rfl) ?_ | refine goCall_p (c1) (.inl rfl) ?_)
      | (refine goDCall_norm ?_; simp only [AV.norm, AV.normL, W2, Go.Ab.W3, Int.reduceAdd, Int.reduceLT, Int.reduceToNat, Int.reduceBEq, Int.reduceBNe, Int.reduceLE, a5, b5, k9, e1, e2, hl, hlb, map_emb_kid (show 0 < a.kids.length by omega), map_emb_kid (show 0 < b.kids.length by omega), map_emb_kid (show 1 < a.kids.length by omega), map_emb_kid (show 1 < b.kids.length by omega)]; first | refine goDCall_p (leafB_ok _ _) (.inl rfl) ?_ | refine goDCall_p (likeB_ok _ _) (.inl rfl) ?_ | refine goDCall_p (c0) (.inl rfl) ?_ | refine goDCall_p (c1) (.inl rfl) ?_)
      | refine go_draw (id := 9) C_ok mixed 0 Try.f43.ntmps rfl (by kernel_rfl) (by decide) ?_
      | refine go_draw (id := 13) C_ok mixed 0 Try.f43.ntmps rfl (by kernel_rfl) (by decide) ?_
      | refine goRound ?_ C_ok Try.f43.ntmps rfl (by decide)) <;> first | simp only [h, ↓upd_eq, ↓envL_cons, Go.Ab.W0, guardOf, eff, effBuiltin, abin, abinInt, cellsAt, shift, AState.ev, AState.put, AState.new, ofVal, ofVal1, setRange, inplOf, if_true, if_false, reduceIte, Nat.reduceEqDiff, Nat.reduceAdd, Nat.reduceLT, Nat.reduceLeDiff, reduceCtorEq, Nat.reduceMul, implies_true, fillA, placeSt, fillE, elemsOf, effAppend, effSlice, optInt, reCells, forall_eq_or_imp, forall_eq, isAl, retP, AV.norm, AV.normL, Nat.reducePow, W1, Go.Ab.W3, Int.reduceAdd, Int.reduceLT, Int.reduceToNat, Int.reduceBEq, Int.reduceBNe, Int.reduceLE, a5, b5, k9, e1, e2, hl, hlb, map_emb_kid (show 0 < a.kids.length by omega), map_emb_kid (show 0 < b.kids.length by omega), map_emb_kid (show 1 < a.kids.length by omega), map_emb_kid (show 1 < b.kids.length by omega), cutNormal_normal] | simp only [↓upd_eq, ↓envL_cons, Go.Ab.W0, guardOf, eff, effBuiltin, abin, abinInt, cellsAt, shift, AState.ev, AState.put, AState.new, ofVal, ofVal1, setRange, inplOf, if_true, if_false, reduceIte, Nat.reduceEqDiff, Nat.reduceAdd, Nat.reduceLT, Nat.reduceLeDiff, reduceCtorEq, Nat.reduceMul, implies_true, fillA, placeSt, fillE, elemsOf, effAppend, effSlice, optInt, reCells, forall_eq_or_imp, forall_eq, isAl, retP, AV.norm, AV.normL, Nat.reducePow, W1, Go.Ab.W3, Int.reduceAdd, Int.reduceLT, Int.reduceToNat, Int.reduceBEq, Int.reduceBNe, Int.reduceLE, a5, b5, k9, e1, e2, hl, hlb, map_emb_kid (show 0 < a.kids.length by omega), map_emb_kid (show 0 < b.kids.length by omega), map_emb_kid (show 1 < a.kids.length by omega), map_emb_kid (show 1 < b.kids.length by omega), cutNormal_normal] | skip)
    all_goals (simp_all)
  · have hlb : b.kids.length = 2 := by omega
    have k9 : (a.kind == 9) = true := by simp only [beq_iff_eq]; omega
    have c0 := (H 0 (by omega)).2
    have c1 := (H 1 (by omega)).1
    have hkf : kidF sb 2 a (b.kid 0) (b.kid 1) = (sb 2 (b.kid 0) (a.kid 0) && sb 2 (a.kid 1) (b.kid 1)) := by rw [kidF, if_pos k, other_2]
    rw [hkf]
    refine pcalls_text C_ok Try.func43 rfl (by decide) (Nat.le_of_ble_eq_true rfl) (by decide) rfl fun ok H => ?_
    rw [Try.results43]
    try simp only [↓upd_eq, ↓envL_cons, Go.Ab.W0, guardOf, eff, effBuiltin, abin, abinInt, cellsAt, shift, AState.ev, AState.put, AState.new, ofVal, ofVal1, setRange, inplOf, if_true, if_false, reduceIte, Nat.reduceEqDiff, Nat.reduceAdd, Nat.reduceLT, Nat.reduceLeDiff, reduceCtorEq, Nat.reduceMul, implies_true, fillA, placeSt, fillE, elemsOf, effAppend, effSlice, optInt, reCells, forall_eq_or_imp, forall_eq, isAl, retP, AV.norm, AV.normL, Nat.reducePow, W1, Go.Ab.W3, Int.reduceAdd, Int.reduceLT, Int.reduceToNat, Int.reduceBEq, Int.reduceBNe, Int.reduceLE, a5, b5, k9, e1, e2, hl, hlb, map_emb_kid (show 0 < a.kids.length by omega), map_emb_kid (show 0 < b.kids.length by omega), map_emb_kid (show 1 < a.kids.length by omega), map_emb_kid (show 1 < b.kids.length by omega), cutNormal_normal]
    repeat' ((first
      | with_reducible refine goIf_b (fun h => ?_) (fun h => ?_)
      | with_reducible refine goIf_n (fun h => ?_) (fun h => ?_)
      | with_reducible refine goIf_d (fun h => ?_) (fun h => ?_)
      | with_reducible refine goIf_split (fun h => ?_) (fun h => ?_)
      | with_reducible refine goGb_b (fun h => ?_) (fun h => ?_)
      | with_reducible refine goGb_n (fun h => ?_) (fun h => ?_)
      | with_reducible refine goGb_d (fun h => ?_) (fun h => ?_)
      | with_reducible refine goGb_split (fun h => ?_) (fun h => ?_)
      | with_reducible refine goDGb_b (fun h => ?_) (fun h => ?_)
      | with_reducible refine goDGb_n (fun h => ?_) (fun h => ?_)
      | with_reducible refine goDGb_d (fun h => ?_) (fun h => ?_)
      | with_reducible refine goDGb_split (fun h => ?_) (fun h => ?_)
      | (refine goCall_norm ?_; simp only [AV.norm, AV.normL, W2, Go.Ab.W3, Int.reduceAdd, Int.reduceLT, Int.reduceToNat, Int.reduceBEq, Int.reduceBNe, Int.reduceLE, a5, b5, k9, e1, e2, hl, hlb, map_emb_kid (show 0 < a.kids.length by omega), map_emb_kid (show 0 < b.kids.length by omega), map_emb_kid (show 1 < a.kids.length by omega), map_emb_kid (show 1 < b.kids.length by omega)]; first | refine goCall_p (leafB_ok _ _) (.inl rfl) ?_ | refine goCall_p (likeB_ok _ _) (.inl rfl) ?_ | refine goCall_p (c0) (.inl rfl) ?_ | refine goCall_p (c1) (.inl rfl) ?_)
      | (refine goDCall_norm ?_; simp only [AV.norm, AV.normL, W2, Go.Ab.W3, Int.reduceAdd, Int.reduceLT, Int.reduceToNat, Int.reduceBEq, Int.reduceBNe, Int.reduceLE, a5, b5, k9, e1, e2, hl, hlb, map_emb_kid (show 0 < a.kids.length by omega), map_emb_kid (show 0 < b.kids.length by omega), map_emb_kid (show 1 < a.kids.length by omega), map_emb_kid (show 1 < b.kids.length by omega)]; first | refine goDCall_p (leafB_ok _ _) (.inl rfl) ?_ | refine goDCall_p (likeB_ok _ _) (.inl rfl) ?_ | refine goDCall_p (c0) (.inl rfl) ?_ | refine goDCall_p (c1) (.inl rfl) ?_)
      | refine go_draw (id := 9) C_ok mixed 0 Try.f43.ntmps rfl (by kernel_rfl) (by decide) ?_
      | refine go_draw (id := 13) C_ok mixed 0 Try.f43.ntmps rfl (by kernel_rfl) (by decide) ?_
      | refine goRound ?_ C_ok Try.f43.ntmps rfl (by decide)) <;> first | simp only [h, ↓upd_eq, ↓envL_cons, Go.Ab.W0, guardOf, eff, effBuiltin, abin, abinInt, cellsAt, shift, AState.ev, AState.put, AState.new, ofVal, ofVal1, setRange, inplOf, if_true, if_false, reduceIte, Nat.reduceEqDiff, Nat.reduceAdd, Nat.reduceLT, Nat.reduceLeDiff, reduceCtorEq, Nat.reduceMul, implies_true, fillA, placeSt, fillE, elemsOf, effAppend, effSlice, optInt, reCells, forall_eq_or_imp, forall_eq, isAl, retP, AV.norm, AV.normL, Nat.reducePow, W1, Go.Ab.W3, Int.reduceAdd, Int.reduceLT, Int.reduceToNat, Int.reduceBEq, Int.reduceBNe, Int.reduceLE, a5, b5, k9, e1, e2, hl, hlb, map_emb_kid (show 0 < a.kids.length by omega), map_emb_kid (show 0 < b.kids.length by omega), map_emb_kid (show 1 < a.kids.length by omega), map_emb_kid (show 1 < b.kids.length by omega), cutNormal_normal] | simp only [↓upd_eq, ↓envL_cons, Go.Ab.W0, guardOf, eff, effBuiltin, abin, abinInt, cellsAt, shift, AState.ev, AState.put, AState.new, ofVal, ofVal1, setRange, inplOf, if_true, if_false, reduceIte, Nat.reduceEqDiff, Nat.reduceAdd, Nat.reduceLT, Nat.reduceLeDiff, reduceCtorEq, Nat.reduceMul, implies_true, fillA, placeSt, fillE, elemsOf, effAppend, effSlice, optInt, reCells, forall_eq_or_imp, forall_eq, isAl, retP, AV.norm, AV.normL, Nat.reducePow, W1, Go.Ab.W3, Int.reduceAdd, Int.reduceLT, Int.reduceToNat, Int.reduceBEq, Int.reduceBNe, Int.reduceLE, a5, b5, k9, e1, e2, hl, hlb, map_emb_kid (show 0 < a.kids.length by omega), map_emb_kid (show 0 < b.kids.length by omega), map_emb_kid (show 1 < a.kids.length by omega), map_emb_kid (show 1 < b.kids.length by omega), cutNormal_normal] | skip)
    all_goals (simp_all)

theorem rsub_step (a b : Ty) (ha : right a = true) (hb : right b = true)
    (ih : ∀ x y, nodes x + nodes y < nodes a + nodes b → right x = true → right y = true → PCalls Try.prog 43 [emb x, emb y] (.bool (sb 2 x y))) :
    PCalls Try.prog 43 [emb a, emb b] (.bool (sb 2 a b)) := by
  have hpb := nodes_pos b
  by_cases hlike : likeB a b = true
  · obtain ⟨h1, h2, h3⟩ := like_facts ha hb hlike
    have h0 : 0 < a.kids.length := by simp only [likeB, Bool.and_eq_true, decide_eq_true_eq] at hlike; exact hlike.1
    rw [sb_like ha hb hlike]
    refine rsub_core a b ha hb h1 h0 fun i hi => ?_
    have e1 := nodes_kid' hi
    have e2 := nodes_kid' (t := b) (i := i) (by omega)
    exact ⟨ih _ _ (by omega) (right_kid ha hi) (right_kid hb (by omega)), ih _ _ (by omega) (right_kid hb (by omega)) (right_kid ha hi)⟩
  · have hl : likeB a b = false := by simpa using hlike
    by_cases hleaf : leafB a b = true
    · rw [sb_leaf (.inr (.inr rfl)) ha hb hleaf]
      refine pcalls_text C_ok Try.func43 rfl (by decide) (Nat.le_of_ble_eq_true rfl) (by decide) rfl fun ok H => ?_
      rw [Try.results43]
      try simp only [↓upd_eq, ↓envL_cons, Go.Ab.W0, guardOf, eff, effBuiltin, abin, abinInt, cellsAt, shift, AState.ev, AState.put, AState.new, ofVal, ofVal1, setRange, inplOf, if_true, if_false, reduceIte, Nat.reduceEqDiff, Nat.reduceAdd, Nat.reduceLT, Nat.reduceLeDiff, reduceCtorEq, Nat.reduceMul, implies_true, fillA, placeSt, fillE, elemsOf, effAppend, effSlice, optInt, reCells, forall_eq_or_imp, forall_eq, isAl, retP, AV.norm, AV.normL, Nat.reducePow, W1, hleaf]
      repeat' ((first
        | with_reducible refine goIf_b (fun h => ?_) (fun h => ?_)
        | with_reducible refine goIf_n (fun h => ?_) (fun h => ?_)
        | with_reducible refine goIf_d (fun h => ?_) (fun h => ?_)
        | with_reducible refine goIf_split (fun h => ?_) (fun h => ?_)
        | with_reducible refine goGb_b (fun h => ?_) (fun h => ?_)
        | with_reducible refine goGb_n (fun h => ?_) (fun h => ?_)
        | with_reducible refine goGb_d (fun h => ?_) (fun h => ?_)
        | with_reducible refine goGb_split (fun h => ?_) (fun h => ?_)
        | with_reducible refine goDGb_b (fun h => ?_) (fun h => ?_)
        | with_reducible refine goDGb_n (fun h => ?_) (fun h => ?_)
        | with_reducible refine goDGb_d (fun h => ?_) (fun h => ?_)
        | with_reducible refine goDGb_split (fun h => ?_) (fun h => ?_)
        | (refine goCall_norm ?_; simp only [AV.norm, AV.normL, W2, hleaf]; first | refine goCall_p (leafB_ok _ _) (.inl rfl) ?_ | refine goCall_p (likeB_ok _ _) (.inl rfl) ?_)
        | (refine goDCall_norm ?_; simp only [AV.norm, AV.normL, W2, hleaf]; first | refine goDCall_p (leafB_ok _ _) (.inl rfl) ?_ | refine goDCall_p (likeB_ok _ _) (.inl rfl) ?_)
        | refine go_draw (id := 9) C_ok mixed 0 Try.f43.ntmps rfl (by kernel_rfl) (by decide) ?_
        | refine go_draw (id := 13) C_ok mixed 0 Try.f43.ntmps rfl (by kernel_rfl) (by decide) ?_) <;> first | simp only [h, ↓upd_eq, ↓envL_cons, Go.Ab.W0, guardOf, eff, effBuiltin, abin, abinInt, cellsAt, shift, AState.ev, AState.put, AState.new, ofVal, ofVal1, setRange, inplOf, if_true, if_false, reduceIte, Nat.reduceEqDiff, Nat.reduceAdd, Nat.reduceLT, Nat.reduceLeDiff, reduceCtorEq, Nat.reduceMul, implies_true, fillA, placeSt, fillE, elemsOf, effAppend, effSlice, optInt, reCells, forall_eq_or_imp, forall_eq, isAl, retP, AV.norm, AV.normL, Nat.reducePow, W1, hleaf] | simp only [↓upd_eq, ↓envL_cons, Go.Ab.W0, guardOf, eff, effBuiltin, abin, abinInt, cellsAt, shift, AState.ev, AState.put, AState.new, ofVal, ofVal1, setRange, inplOf, if_true, if_false, reduceIte, Nat.reduceEqDiff, Nat.reduceAdd, Nat.reduceLT, Nat.reduceLeDiff, reduceCtorEq, Nat.reduceMul, implies_true, fillA, placeSt, fillE, elemsOf, effAppend, effSlice, optInt, reCells, forall_eq_or_imp, forall_eq, isAl, retP, AV.norm, AV.normL, Nat.reducePow, W1, hleaf] | skip)
    · have hlf : leafB a b = false := by simpa using hleaf
      by_cases b5 : b.kind = 5
      · have b5' : (b.kind == 5) = true := by simp [b5]
        by_cases a5 : a.kind = 5
        · exact absurd (show leafB a b = true by rw [dyn_eq ha a5, dyn_eq hb b5]; rfl) hleaf
        · rw [sb_dyn (by decide) ha hb b5 a5]
          by_cases hh : headK a.kind = true
          · have h6 := (head_ne hh).2
            have eg := groundT_eq ha hh
            have eh : hasGround a = true := by simp [hasGround, ha, hh]
            by_cases h0 : 0 < a.kids.length
            · have cg : PCalls Try.prog 43 [emb a, emb (ground a)] (.bool (kidF sb 2 a dynT dynT)) := by
                rw [← kidF_ground ha]
                refine rsub_core a (ground a) ha (ground_right ha hh) rfl h0 fun i hi => ?_
                rw [ground_kid hi]
                have e1 := nodes_kid' hi
                exact ⟨ih _ _ (by rw [nodes_dyn]; omega) (right_kid ha hi) right_dyn, ih _ _ (by rw [nodes_dyn]; omega) right_dyn (right_kid ha hi)⟩
              have hz : ((a.kids.length : Int) == 0) = false := by simp only [beq_eq_false_iff_ne]; omega
              refine pcalls_text C_ok Try.func43 rfl (by decide) (Nat.le_of_ble_eq_true rfl) (by decide) rfl fun ok H => ?_
              rw [Try.results43]
              try simp only [↓upd_eq, ↓envL_cons, Go.Ab.W0, guardOf, eff, effBuiltin, abin, abinInt, cellsAt, shift, AState.ev, AState.put, AState.new, ofVal, ofVal1, setRange, inplOf, if_true, if_false, reduceIte, Nat.reduceEqDiff, Nat.reduceAdd, Nat.reduceLT, Nat.reduceLeDiff, reduceCtorEq, Nat.reduceMul, implies_true, fillA, placeSt, fillE, elemsOf, effAppend, effSlice, optInt, reCells, forall_eq_or_imp, forall_eq, isAl, retP, AV.norm, AV.normL, Nat.reducePow, W1, b5', hlf, eg, eh, hz]
              repeat' ((first
                | with_reducible refine goIf_b (fun h => ?_) (fun h => ?_)
                | with_reducible refine goIf_n (fun h => ?_) (fun h => ?_)
                | with_reducible refine goIf_d (fun h => ?_) (fun h => ?_)
                | with_reducible refine goIf_split (fun h => ?_) (fun h => ?_)
                | with_reducible refine goGb_b (fun h => ?_) (fun h => ?_)
                | with_reducible refine goGb_n (fun h => ?_) (fun h => ?_)
                | with_reducible refine goGb_d (fun h => ?_) (fun h => ?_)
                | with_reducible refine goGb_split (fun h => ?_) (fun h => ?_)
                | with_reducible refine goDGb_b (fun h => ?_) (fun h => ?_)
                | with_reducible refine goDGb_n (fun h => ?_) (fun h => ?_)
                | with_reducible refine goDGb_d (fun h => ?_) (fun h => ?_)
                | with_reducible refine goDGb_split (fun h => ?_) (fun h => ?_)
                | (refine goCall_norm ?_; simp only [AV.norm, AV.normL, W2, b5', hlf, eg, eh, hz]; first | refine goCall_p (leafB_ok _ _) (.inl rfl) ?_ | refine goCall_p (likeB_ok _ _) (.inl rfl) ?_ | refine goCall_p (rground_ok _ ha) (.inl rfl) ?_ | refine goCall_p (cg) (.inl rfl) ?_)
                | (refine goDCall_norm ?_; simp only [AV.norm, AV.normL, W2, b5', hlf, eg, eh, hz]; first | refine goDCall_p (leafB_ok _ _) (.inl rfl) ?_ | refine goDCall_p (likeB_ok _ _) (.inl rfl) ?_ | refine goDCall_p (rground_ok _ ha) (.inl rfl) ?_ | refine goDCall_p (cg) (.inl rfl) ?_)
                | refine go_draw (id := 9) C_ok mixed 0 Try.f43.ntmps rfl (by kernel_rfl) (by decide) ?_
                | refine go_draw (id := 13) C_ok mixed 0 Try.f43.ntmps rfl (by kernel_rfl) (by decide) ?_) <;> first | simp only [h, ↓upd_eq, ↓envL_cons, Go.Ab.W0, guardOf, eff, effBuiltin, abin, abinInt, cellsAt, shift, AState.ev, AState.put, AState.new, ofVal, ofVal1, setRange, inplOf, if_true, if_false, reduceIte, Nat.reduceEqDiff, Nat.reduceAdd, Nat.reduceLT, Nat.reduceLeDiff, reduceCtorEq, Nat.reduceMul, implies_true, fillA, placeSt, fillE, elemsOf, effAppend, effSlice, optInt, reCells, forall_eq_or_imp, forall_eq, isAl, retP, AV.norm, AV.normL, Nat.reducePow, W1, b5', hlf, eg, eh, hz] | simp only [↓upd_eq, ↓envL_cons, Go.Ab.W0, guardOf, eff, effBuiltin, abin, abinInt, cellsAt, shift, AState.ev, AState.put, AState.new, ofVal, ofVal1, setRange, inplOf, if_true, if_false, reduceIte, Nat.reduceEqDiff, Nat.reduceAdd, Nat.reduceLT, Nat.reduceLeDiff, reduceCtorEq, Nat.reduceMul, implies_true, fillA, placeSt, fillE, elemsOf, effAppend, effSlice, optInt, reCells, forall_eq_or_imp, forall_eq, isAl, retP, AV.norm, AV.normL, Nat.reducePow, W1, b5', hlf, eg, eh, hz] | skip)
              all_goals simp_all
            · have hz : ((a.kids.length : Int) == 0) = true := by simp only [beq_iff_eq]; omega
              have hk := kidF_leaf (r := sb) (s := 2) (x := dynT) (y := dynT) ha (by omega)
              refine pcalls_text C_ok Try.func43 rfl (by decide) (Nat.le_of_ble_eq_true rfl) (by decide) rfl fun ok H => ?_
              rw [Try.results43]
              try simp only [↓upd_eq, ↓envL_cons, Go.Ab.W0, guardOf, eff, effBuiltin, abin, abinInt, cellsAt, shift, AState.ev, AState.put, AState.new, ofVal, ofVal1, setRange, inplOf, if_true, if_false, reduceIte, Nat.reduceEqDiff, Nat.reduceAdd, Nat.reduceLT, Nat.reduceLeDiff, reduceCtorEq, Nat.reduceMul, implies_true, fillA, placeSt, fillE, elemsOf, effAppend, effSlice, optInt, reCells, forall_eq_or_imp, forall_eq, isAl, retP, AV.norm, AV.normL, Nat.reducePow, W1, b5', hlf, eg, eh, hz]
              repeat' ((first
                | with_reducible refine goIf_b (fun h => ?_) (fun h => ?_)
                | with_reducible refine goIf_n (fun h => ?_) (fun h => ?_)
                | with_reducible refine goIf_d (fun h => ?_) (fun h => ?_)
                | with_reducible refine goIf_split (fun h => ?_) (fun h => ?_)
                | with_reducible refine goGb_b (fun h => ?_) (fun h => ?_)
                | with_reducible refine goGb_n (fun h => ?_) (fun h => ?_)
                | with_reducible refine goGb_d (fun h => ?_) (fun h => ?_)
                | with_reducible refine goGb_split (fun h => ?_) (fun h => ?_)
                | with_reducible refine goDGb_b (fun h => ?_) (fun h => ?_)
                | with_reducible refine goDGb_n (fun h => ?_) (fun h => ?_)
                | with_reducible refine goDGb_d (fun h => ?_) (fun h => ?_)
                | with_reducible refine goDGb_split (fun h => ?_) (fun h => ?_)
                | (refine goCall_norm ?_; simp only [AV.norm, AV.normL, W2, b5', hlf, eg, eh, hz]; first | refine goCall_p (leafB_ok _ _) (.inl rfl) ?_ | refine goCall_p (likeB_ok _ _) (.inl rfl) ?_ | refine goCall_p (rground_ok _ ha) (.inl rfl) ?_)
                | (refine goDCall_norm ?_; simp only [AV.norm, AV.normL, W2, b5', hlf, eg, eh, hz]; first | refine goDCall_p (leafB_ok _ _) (.inl rfl) ?_ | refine goDCall_p (likeB_ok _ _) (.inl rfl) ?_ | refine goDCall_p (rground_ok _ ha) (.inl rfl) ?_)
                | refine go_draw (id := 9) C_ok mixed 0 Try.f43.ntmps rfl (by kernel_rfl) (by decide) ?_
                | refine go_draw (id := 13) C_ok mixed 0 Try.f43.ntmps rfl (by kernel_rfl) (by decide) ?_) <;> first | simp only [h, ↓upd_eq, ↓envL_cons, Go.Ab.W0, guardOf, eff, effBuiltin, abin, abinInt, cellsAt, shift, AState.ev, AState.put, AState.new, ofVal, ofVal1, setRange, inplOf, if_true, if_false, reduceIte, Nat.reduceEqDiff, Nat.reduceAdd, Nat.reduceLT, Nat.reduceLeDiff, reduceCtorEq, Nat.reduceMul, implies_true, fillA, placeSt, fillE, elemsOf, effAppend, effSlice, optInt, reCells, forall_eq_or_imp, forall_eq, isAl, retP, AV.norm, AV.normL, Nat.reducePow, W1, b5', hlf, eg, eh, hz] | simp only [↓upd_eq, ↓envL_cons, Go.Ab.W0, guardOf, eff, effBuiltin, abin, abinInt, cellsAt, shift, AState.ev, AState.put, AState.new, ofVal, ofVal1, setRange, inplOf, if_true, if_false, reduceIte, Nat.reduceEqDiff, Nat.reduceAdd, Nat.reduceLT, Nat.reduceLeDiff, reduceCtorEq, Nat.reduceMul, implies_true, fillA, placeSt, fillE, elemsOf, effAppend, effSlice, optInt, reCells, forall_eq_or_imp, forall_eq, isAl, retP, AV.norm, AV.normL, Nat.reducePow, W1, b5', hlf, eg, eh, hz] | skip)
              all_goals simp_all
          · have h6 : a.kind = 6 := by rcases headK_ne' ha hh with h | h; exact absurd h a5; exact h
            have eh : hasGround a = false := by simp [hasGround, hh]
            refine pcalls_text C_ok Try.func43 rfl (by decide) (Nat.le_of_ble_eq_true rfl) (by decide) rfl fun ok H => ?_
            rw [Try.results43]
            try simp only [↓upd_eq, ↓envL_cons, Go.Ab.W0, guardOf, eff, effBuiltin, abin, abinInt, cellsAt, shift, AState.ev, AState.put, AState.new, ofVal, ofVal1, setRange, inplOf, if_true, if_false, reduceIte, Nat.reduceEqDiff, Nat.reduceAdd, Nat.reduceLT, Nat.reduceLeDiff, reduceCtorEq, Nat.reduceMul, implies_true, fillA, placeSt, fillE, elemsOf, effAppend, effSlice, optInt, reCells, forall_eq_or_imp, forall_eq, isAl, retP, AV.norm, AV.normL, Nat.reducePow, W1, b5', hlf, eh]
            repeat' ((first
              | with_reducible refine goIf_b (fun h => ?_) (fun h => ?_)
              | with_reducible refine goIf_n (fun h => ?_) (fun h => ?_)
              | with_reducible refine goIf_d (fun h => ?_) (fun h => ?_)
              | with_reducible refine goIf_split (fun h => ?_) (fun h => ?_)
              | with_reducible refine goGb_b (fun h => ?_) (fun h => ?_)
              | with_reducible refine goGb_n (fun h => ?_) (fun h => ?_)
              | with_reducible refine goGb_d (fun h => ?_) (fun h => ?_)
              | with_reducible refine goGb_split (fun h => ?_) (fun h => ?_)
              | with_reducible refine goDGb_b (fun h => ?_) (fun h => ?_)
              | with_reducible refine goDGb_n (fun h => ?_) (fun h => ?_)
              | with_reducible refine goDGb_d (fun h => ?_) (fun h => ?_)
              | with_reducible refine goDGb_split (fun h => ?_) (fun h => ?_)
              | (refine goCall_norm ?_; simp only [AV.norm, AV.normL, W2, b5', hlf, eh]; first | refine goCall_p (leafB_ok _ _) (.inl rfl) ?_ | refine goCall_p (likeB_ok _ _) (.inl rfl) ?_ | refine goCall_p (rground_ok _ ha) (.inl rfl) ?_)
              | (refine goDCall_norm ?_; simp only [AV.norm, AV.normL, W2, b5', hlf, eh]; first | refine goDCall_p (leafB_ok _ _) (.inl rfl) ?_ | refine goDCall_p (likeB_ok _ _) (.inl rfl) ?_ | refine goDCall_p (rground_ok _ ha) (.inl rfl) ?_)
              | refine go_draw (id := 9) C_ok mixed 0 Try.f43.ntmps rfl (by kernel_rfl) (by decide) ?_
              | refine go_draw (id := 13) C_ok mixed 0 Try.f43.ntmps rfl (by kernel_rfl) (by decide) ?_) <;> first | simp only [h, ↓upd_eq, ↓envL_cons, Go.Ab.W0, guardOf, eff, effBuiltin, abin, abinInt, cellsAt, shift, AState.ev, AState.put, AState.new, ofVal, ofVal1, setRange, inplOf, if_true, if_false, reduceIte, Nat.reduceEqDiff, Nat.reduceAdd, Nat.reduceLT, Nat.reduceLeDiff, reduceCtorEq, Nat.reduceMul, implies_true, fillA, placeSt, fillE, elemsOf, effAppend, effSlice, optInt, reCells, forall_eq_or_imp, forall_eq, isAl, retP, AV.norm, AV.normL, Nat.reducePow, W1, b5', hlf, eh] | simp only [↓upd_eq, ↓envL_cons, Go.Ab.W0, guardOf, eff, effBuiltin, abin, abinInt, cellsAt, shift, AState.ev, AState.put, AState.new, ofVal, ofVal1, setRange, inplOf, if_true, if_false, reduceIte, Nat.reduceEqDiff, Nat.reduceAdd, Nat.reduceLT, Nat.reduceLeDiff, reduceCtorEq, Nat.reduceMul, implies_true, fillA, placeSt, fillE, elemsOf, effAppend, effSlice, optInt, reCells, forall_eq_or_imp, forall_eq, isAl, retP, AV.norm, AV.normL, Nat.reducePow, W1, b5', hlf, eh] | skip)
            all_goals simp_all
      · have b5' : (b.kind == 5) = false := by simp [b5]
        rw [sb_nolike ha hb b5 (fun h => absurd h (by decide)) hlf hl]
        refine pcalls_text C_ok Try.func43 rfl (by decide) (Nat.le_of_ble_eq_true rfl) (by decide) rfl fun ok H => ?_
        rw [Try.results43]
        try simp only [↓upd_eq, ↓envL_cons, Go.Ab.W0, guardOf, eff, effBuiltin, abin, abinInt, cellsAt, shift, AState.ev, AState.put, AState.new, ofVal, ofVal1, setRange, inplOf, if_true, if_false, reduceIte, Nat.reduceEqDiff, Nat.reduceAdd, Nat.reduceLT, Nat.reduceLeDiff, reduceCtorEq, Nat.reduceMul, implies_true, fillA, placeSt, fillE, elemsOf, effAppend, effSlice, optInt, reCells, forall_eq_or_imp, forall_eq, isAl, retP, AV.norm, AV.normL, Nat.reducePow, W1, b5', hlf, hl]
        repeat' ((first
          | with_reducible refine goIf_b (fun h => ?_) (fun h => ?_)
          | with_reducible refine goIf_n (fun h => ?_) (fun h => ?_)
          | with_reducible refine goIf_d (fun h => ?_) (fun h => ?_)
          | with_reducible refine goIf_split (fun h => ?_) (fun h => ?_)
          | with_reducible refine goGb_b (fun h => ?_) (fun h => ?_)
          | with_reducible refine goGb_n (fun h => ?_) (fun h => ?_)
          | with_reducible refine goGb_d (fun h => ?_) (fun h => ?_)
          | with_reducible refine goGb_split (fun h => ?_) (fun h => ?_)
          | with_reducible refine goDGb_b (fun h => ?_) (fun h => ?_)
          | with_reducible refine goDGb_n (fun h => ?_) (fun h => ?_)
          | with_reducible refine goDGb_d (fun h => ?_) (fun h => ?_)
          | with_reducible refine goDGb_split (fun h => ?_) (fun h => ?_)
          | (refine goCall_norm ?_; simp only [AV.norm, AV.normL, W2, b5', hlf, hl]; first | refine goCall_p (leafB_ok _ _) (.inl rfl) ?_ | refine goCall_p (likeB_ok _ _) (.inl rfl) ?_)
          | (refine goDCall_norm ?_; simp only [AV.norm, AV.normL, W2, b5', hlf, hl]; first | refine goDCall_p (leafB_ok _ _) (.inl rfl) ?_ | refine goDCall_p (likeB_ok _ _) (.inl rfl) ?_)
          | refine go_draw (id := 9) C_ok mixed 0 Try.f43.ntmps rfl (by kernel_rfl) (by decide) ?_
          | refine go_draw (id := 13) C_ok mixed 0 Try.f43.ntmps rfl (by kernel_rfl) (by decide) ?_) <;> first | simp only [h, ↓upd_eq, ↓envL_cons, Go.Ab.W0, guardOf, eff, effBuiltin, abin, abinInt, cellsAt, shift, AState.ev, AState.put, AState.new, ofVal, ofVal1, setRange, inplOf, if_true, if_false, reduceIte, Nat.reduceEqDiff, Nat.reduceAdd, Nat.reduceLT, Nat.reduceLeDiff, reduceCtorEq, Nat.reduceMul, implies_true, fillA, placeSt, fillE, elemsOf, effAppend, effSlice, optInt, reCells, forall_eq_or_imp, forall_eq, isAl, retP, AV.norm, AV.normL, Nat.reducePow, W1, b5', hlf, hl] | simp only [↓upd_eq, ↓envL_cons, Go.Ab.W0, guardOf, eff, effBuiltin, abin, abinInt, cellsAt, shift, AState.ev, AState.put, AState.new, ofVal, ofVal1, setRange, inplOf, if_true, if_false, reduceIte, Nat.reduceEqDiff, Nat.reduceAdd, Nat.reduceLT, Nat.reduceLeDiff, reduceCtorEq, Nat.reduceMul, implies_true, fillA, placeSt, fillE, elemsOf, effAppend, effSlice, optInt, reCells, forall_eq_or_imp, forall_eq, isAl, retP, AV.norm, AV.normL, Nat.reducePow, W1, b5', hlf, hl] | skip)
theorem rsub_ok (a b : Ty) (ha : right a = true) (hb : right b = true) : PCalls Try.prog 43 [emb a, emb b] (.bool (sb 2 a b)) :=
  Ty.ind2 (p := fun a b => right a = true → right b = true → PCalls Try.prog 43 [emb a, emb b] (.bool (sb 2 a b))) (fun a b ih ha hb => rsub_step a b ha hb ih) a b ha hb

end Go.Proofs.Ytcpfjabjonpdaaa
