/- Walks: the reference's subtypes. No condition. -/
import Derived.Test.YtcpfjabjonpdaaaFB
import Derived.Test.YtcpfjabjonpdaaaM5
set_option linter.unusedSimpArgs false
set_option linter.unusedVariables false
set_option maxHeartbeats 4000000
set_option maxRecDepth 100000
namespace Go.Proofs.Ytcpfjabjonpdaaa
open Go Go.Ab
attribute [local irreducible] PCalls ACalls CallK GoCall GoDCall GoIf GoGb GoDGb GoO GoD GoX GoDX GoG GoDG GoGv GoDGv Go ALoop

theorem headK_ne' {a : Ty} (ha : right a = true) (h : ¬ headK a.kind = true) : a.kind = 5 ∨ a.kind = 6 := by
  have := mt (head_iff ha).2 h
  omega
theorem kidF_leaf {r : Int → Ty → Ty → Bool} {s : Int} {a x y : Ty} (ha : right a = true) (h : a.kids.length = 0) : kidF r s a x y = true := by
  rw [kidF_iff ha]
  refine ⟨fun h9 => ?_, fun h7 => ?_, fun h8 => ?_⟩
  · have := kids9 ha (.inl h9); omega
  · have := kids9 ha (.inr h7); omega
  · have := kids8 ha h8; omega
theorem kidF_ground {r : Int → Ty → Ty → Bool} {s : Int} {a : Ty} (ha : right a = true) : kidF r s a ((ground a).kid 0) ((ground a).kid 1) = kidF r s a dynT dynT := by
  unfold kidF
  by_cases h9 : a.kind = 9
  · have hl := kids9 ha (.inl h9)
    rw [if_pos h9, if_pos h9, ground_kid (by omega), ground_kid (by omega)]
  · by_cases h7 : a.kind = 7
    · have hl := kids9 ha (.inr h7)
      rw [if_neg h9, if_neg h9, if_pos h7, if_pos h7, ground_kid (by omega), ground_kid (by omega)]
    · by_cases h8 : a.kind = 8
      · have hl := kids8 ha h8
        rw [if_neg h9, if_neg h9, if_neg h7, if_neg h7, if_pos h8, if_pos h8, ground_kid (by omega)]
      · simp [h9, h7, h8]
theorem leafB_nokids {a b : Ty} (h : 0 < a.kids.length) : leafB a b = false := by
  have : ¬ a.kids.length = 0 := by omega
  simp [leafB, this]
theorem likeB_kids {a b : Ty} (h : 0 < a.kids.length) (hk : a.kind = b.kind) : likeB a b = true := by simp [likeB, h, hk]

theorem side_core (a b : Ty) (neg : Bool) (s : Int) (hs : s = if neg then 1 else 0) (ha : right a = true) (hb : right b = true) (hk : a.kind = b.kind) (h0 : 0 < a.kids.length)
    (H : ∀ i, i < a.kids.length → PCalls Try.prog 40 [emb (a.kid i), emb (b.kid i), .bool neg] (.bool (sb s (a.kid i) (b.kid i))) ∧
      PCalls Try.prog 40 [emb (b.kid i), emb (a.kid i), .bool (!neg)] (.bool (sb (other s) (b.kid i) (a.kid i)))) :
    PCalls Try.prog 40 [emb a, emb b, .bool neg] (.bool (kidF sb s a (b.kid 0) (b.kid 1))) := by
  have hlen := right_len ha hb hk
  have e1 := leafB_nokids (b := b) h0
  have e2 := likeB_kids h0 hk
  have a5 : (a.kind == 5) = false := by
    simp only [beq_eq_false_iff_ne]
    intro h5
    rw [dyn_eq ha h5] at h0; exact absurd h0 (by decide)
  have b5 : (b.kind == 5) = false := by rw [← hk]; exact a5
  rcases right_arity ha with ⟨_, hl⟩ | ⟨k, hl⟩ | ⟨k | k, hl⟩
  · rw [hl] at h0; exact absurd h0 (by decide)
  · have hlb : b.kids.length = 1 := by omega
    have k9 : (a.kind == 9) = false := by simp only [beq_eq_false_iff_ne]; omega
    have c0 := (H 0 (by omega)).1
    have hkf : kidF sb s a (b.kid 0) (b.kid 1) = sb s (a.kid 0) (b.kid 0) := by rw [kidF, if_neg (by omega), if_neg (by omega), if_pos k]
    rw [hkf]
    cases neg
    all_goals
      refine pcalls_text C_ok Try.func40 rfl (by decide) (Nat.le_of_ble_eq_true rfl) (by decide) rfl fun ok H => ?_
      rw [Try.results40]
      try simp only [↓upd_eq, ↓envL_cons, Go.Ab.W0, guardOf, eff, effBuiltin, abin, abinInt, cellsAt, shift, AState.ev, AState.put, AState.new, ofVal, ofVal1, setRange, inplOf, if_true, if_false, reduceIte, Nat.reduceEqDiff, Nat.reduceAdd, Nat.reduceLT, Nat.reduceLeDiff, reduceCtorEq, Nat.reduceMul, implies_true, fillA, placeSt, fillE, elemsOf, effAppend, effSlice, optInt, reCells, forall_eq_or_imp, forall_eq, isAl, retP, AV.norm, AV.normL, Nat.reducePow, W1, Go.Ab.W3, Int.reduceAdd, Int.reduceLT, Int.reduceToNat, Int.reduceBEq, Int.reduceBNe, Int.reduceLE, a5, b5, k9, e1, e2, hl, hlb, map_emb_kid (show 0 < a.kids.length by omega), map_emb_kid (show 0 < b.kids.length by omega), cutNormal_normal]
      repeat' ((first
        | with_reducible refine goIf_b (fun h => ?_) (fun h => ?_)
        | with_reducible refine goIf_n (fun h => ?_) (fun h => ?_)
        | with_reducible refine goIf_d (fun h => ?_) (fun h => ?_)
        | with_reducible refine goIf_split (fun h => ?_) (fun h => ?_)
        | with_reducible refine goGb_b (fun h => ?_) (fun h => ?_)
        | with_reducible refine goGb_n (fun h => ?_) (fun h => ?_)
        | with_reducible refine goGb_d (fun h => ?_) (fun h => ?_)
        | with_reducible refine goGb_split (fun h => ?_) (fun h => ?_)
        | with_reducible refine goDGb_b (fun h => ?_) (fun h => ?_)
        | with_reducible refine goDGb_n (fun h => ?_) (fun h => ?_)
        | with_reducible refine goDGb_d (fun h => ?_) (fun h => ?_)
        | with_reducible refine goDGb_split (fun h => ?_) (fun h => ?_)
        | (refine goCall_norm ?_; simp only [AV.norm, AV.normL, W2, Go.Ab.W3, Int.reduceAdd, Int.reduceLT, Int.reduceToNat, Int.reduceBEq, Int.reduceBNe, Int.reduceLE, a5, b5, k9, e1, e2, hl, hlb, map_emb_kid (show 0 < a.kids.length by omega), map_emb_kid (show 0 < b.kids.length by omega)]; first | refine goCall_p (leafB_ok _ _) (.inl rfl) ?_ | refine goCall_p (likeB_ok _ _) (.inl rfl) ?_ | refine goCall_p (c0) (.inl rfl) ?_)
        | (refine goDCall_norm ?_; simp only [AV.norm, AV.normL, W2, Go.Ab.W3, Int.reduceAdd, Int.reduceLT, Int.reduceToNat, Int.reduceBEq, Int.reduceBNe, Int.reduceLE, a5, b5, k9, e1, e2, hl, hlb, map_emb_kid (show 0 < a.kids.length by omega), map_emb_kid (show 0 < b.kids.length by omega)]; first | refine goDCall_p (leafB_ok _ _) (.inl rfl) ?_ | refine goDCall_p (likeB_ok _ _) (.inl rfl) ?_ | refine goDCall_p (c0) (.inl rfl) ?_)
        | refine go_draw (id := 9) C_ok mixed 0 Try.f40.ntmps rfl (by kernel_rfl) (by decide) ?_
        | refine go_draw (id := 13) C_ok mixed 0 Try.f40.ntmps rfl (by kernel_rfl) (by decide) ?_
        | refine goRound ?_ C_ok Try.f40.ntmps rfl (by decide)) <;> first | simp only [h, ↓upd_eq, ↓envL_cons, Go.Ab.W0, guardOf, eff, effBuiltin, abin, abinInt, cellsAt, shift, AState.ev, AState.put, AState.new, ofVal, ofVal1, setRange, inplOf, if_true, if_false, reduceIte, Nat.reduceEqDiff, Nat.reduceAdd, Nat.reduceLT, Nat.reduceLeDiff, reduceCtorEq, Nat.reduceMul, implies_true, fillA, placeSt, fillE, elemsOf, effAppend, effSlice, optInt, reCells, forall_eq_or_imp, forall_eq, isAl, retP, AV.norm, AV.normL, Nat.reducePow, W1, Go.Ab.W3, Int.reduceAdd, Int.reduceLT, Int.reduceToNat, Int.reduceBEq, Int.reduceBNe, Int.reduceLE, a5, b5, k9, e1, e2, hl, hlb, map_emb_kid (show 0 < a.kids.length by omega), map_emb_kid (show 0 < b.kids.length by omega), cutNormal_normal] | simp only [↓upd_eq, ↓envL_cons, Go.Ab.W0, guardOf, eff, effBuiltin, abin, abinInt, cellsAt, shift, AState.ev, AState.put, AState.new, ofVal, ofVal1, setRange, inplOf, if_true, if_false, reduceIte, Nat.reduceEqDiff, Nat.reduceAdd, Nat.reduceLT, Nat.reduceLeDiff, reduceCtorEq, Nat.reduceMul, implies_true, fillA, placeSt, fillE, elemsOf, effAppend, effSlice, optInt, reCells, forall_eq_or_imp, forall_eq, isAl, retP, AV.norm, AV.normL, Nat.reducePow, W1, Go.Ab.W3, Int.reduceAdd, Int.reduceLT, Int.reduceToNat, Int.reduceBEq, Int.reduceBNe, Int.reduceLE, a5, b5, k9, e1, e2, hl, hlb, map_emb_kid (show 0 < a.kids.length by omega), map_emb_kid (show 0 < b.kids.length by omega), cutNormal_normal] | skip)
      all_goals (simp_all [kidF])
  · have hlb : b.kids.length = 2 := by omega
    have k9 : (a.kind == 9) = false := by simp only [beq_eq_false_iff_ne]; omega
    have c0 := (H 0 (by omega)).1
    have c1 := (H 1 (by omega)).1
    cases neg
    all_goals
      refine pcalls_text C_ok Try.func40 rfl (by decide) (Nat.le_of_ble_eq_true rfl) (by decide) rfl fun ok H => ?_
      rw [Try.results40]
      try simp only [↓upd_eq, ↓envL_cons, Go.Ab.W0, guardOf, eff, effBuiltin, abin, abinInt, cellsAt, shift, AState.ev, AState.put, AState.new, ofVal, ofVal1, setRange, inplOf, if_true, if_false, reduceIte, Nat.reduceEqDiff, Nat.reduceAdd, Nat.reduceLT, Nat.reduceLeDiff, reduceCtorEq, Nat.reduceMul, implies_true, fillA, placeSt, fillE, elemsOf, effAppend, effSlice, optInt, reCells, forall_eq_or_imp, forall_eq, isAl, retP, AV.norm, AV.normL, Nat.reducePow, W1, Go.Ab.W3, Int.reduceAdd, Int.reduceLT, Int.reduceToNat, Int.reduceBEq, Int.reduceBNe, Int.reduceLE, a5, b5, k9, e1, e2, hl, hlb, map_emb_kid (show 0 < a.kids.length by omega), map_emb_kid (show 0 < b.kids.length by omega), map_emb_kid (show 1 < a.kids.length by omega), map_emb_kid (show 1 < b.kids.length by omega), cutNormal_normal]
      repeat' ((first
        | with_reducible refine goIf_b (fun h => ?_) (fun h => ?_)
        | with_reducible refine goIf_n (fun h => ?_) (fun h => ?_)
        | with_reducible refine goIf_d (fun h => ?_) (fun h => ?_)
        | with_reducible refine goIf_split (fun h => ?_) (fun h => ?_)
        | with_reducible refine goGb_b (fun h => ?_) (fun h => ?_)
        | with_reducible refine goGb_n (fun h => ?_) (fun h => ?_)
        | with_reducible refine goGb_d (fun h => ?_) (fun h => ?_)
        | with_reducible refine goGb_split (fun h => ?_) (fun h => ?_)
        | with_reducible refine goDGb_b (fun h => ?_) (fun h => ?_)
        | with_reducible refine goDGb_n (fun h => ?_) (fun h => ?_)
        | with_reducible refine goDGb_d (fun h => ?_) (fun h => ?_)
        | with_reducible refine goDGb_split (fun h => ?_) (fun h => ?_)
        | (refine goCall_norm ?_; simp only [AV.norm, AV.normL, W2, Go.Ab.W3, Int.reduceAdd, Int.reduceLT, Int.reduceToNat, Int.reduceBEq, Int.reduceBNe, Int.reduceLE, a5, b5, k9, e1, e2, hl, hlb, map_emb_kid (show 0 < a.kids.length by omega), map_emb_kid (show 0 < b.kids.length by omega), map_emb_kid (show 1 < a.kids.length by omega), map_emb_kid (show 1 < b.kids.length by omega)]; first | refine goCall_p (leafB_ok _ _) (.inl rfl) ?_ | refine goCall_p (likeB_ok _ _) (.inl rfl) ?_ | refine goCall_p (c0) (.inl rfl) ?_ | refine goCall_p (c1) (.inl rfl) ?_)
        | (refine goDCall_norm ?_; simp only [AV.norm, AV.normL, W2, Go.Ab.W3, Int.reduceAdd, Int.reduceLT, Int.reduceToNat, Int.reduceBEq, Int.reduceBNe, Int.reduceLE, a5, b5, k9, e1, e2, hl, hlb, map_emb_kid (show 0 < a.kids.length by omega), map_emb_kid (show 0 < b.kids.length by omega), map_emb_kid (show 1 < a.kids.length by omega), map_emb_kid (show 1 < b.kids.length by omega)]; first | refine goDCall_p (leafB_ok _ _) (.inl rfl) ?_ | refine goDCall_p (likeB_ok _ _) (.inl rfl) ?_ | refine goDCall_p (c0) (.inl rfl) ?_ | refine goDCall_p (c1) (.inl rfl) ?_)
        | refine go_draw (id := 9) C_ok mixed 0 Try.f40.ntmps rfl (by kernel_rfl) (by decide) ?_
        | refine go_draw (id := 13) C_ok mixed 0 Try.f40.ntmps rfl (by kernel_rfl) (by decide) ?_
        | refine goRound ?_ C_ok Try.f40.ntmps rfl (by decide)) <;> first | simp only [h, ↓upd_eq, ↓envL_cons, Go.Ab.W0, guardOf, eff, effBuiltin, abin, abinInt, cellsAt, shift, AState.ev, AState.put, AState.new, ofVal, ofVal1, setRange, inplOf, if_true, if_false, reduceIte, Nat.reduceEqDiff, Nat.reduceAdd, Nat.reduceLT, Nat.reduceLeDiff, reduceCtorEq, Nat.reduceMul, implies_true, fillA, placeSt, fillE, elemsOf, effAppend, effSlice, optInt, reCells, forall_eq_or_imp, forall_eq, isAl, retP, AV.norm, AV.normL, Nat.reducePow, W1, Go.Ab.W3, Int.reduceAdd, Int.reduceLT, Int.reduceToNat, Int.reduceBEq, Int.reduceBNe, Int.reduceLE, a5, b5, k9, e1, e2, hl, hlb, map_emb_kid (show 0 < a.kids.length by omega), map_emb_kid (show 0 < b.kids.length by omega), map_emb_kid (show 1 < a.kids.length by omega), map_emb_kid (show 1 < b.kids.length by omega), cutNormal_normal] | simp only [↓upd_eq, ↓envL_cons, Go.Ab.W0, guardOf, eff, effBuiltin, abin, abinInt, cellsAt, shift, AState.ev, AState.put, AState.new, ofVal, ofVal1, setRange, inplOf, if_true, if_false, reduceIte, Nat.reduceEqDiff, Nat.reduceAdd, Nat.reduceLT, Nat.reduceLeDiff, reduceCtorEq, Nat.reduceMul, implies_true, fillA, placeSt, fillE, elemsOf, effAppend, effSlice, optInt, reCells, forall_eq_or_imp, forall_eq, isAl, retP, AV.norm, AV.normL, Nat.reducePow, W1, Go.Ab.W3, Int.reduceAdd, Int.reduceLT, Int.reduceToNat, Int.reduceBEq, Int.reduceBNe, Int.reduceLE, a5, b5, k9, e1, e2, hl, hlb, map_emb_kid (show 0 < a.kids.length by omega), map_emb_kid (show 0 < b.kids.length by omega), map_emb_kid (show 1 < a.kids.length by omega), map_emb_kid (show 1 < b.kids.length by omega), cutNormal_normal] | skip)
      all_goals (simp_all [kidF])
  · have hlb : b.kids.length = 2 := by omega
    have k9 : (a.kind == 9) = true := by simp only [beq_iff_eq]; omega
    have c0 := (H 0 (by omega)).2
    have c1 := (H 1 (by omega)).1
    cases neg
    all_goals
      refine pcalls_text C_ok Try.func40 rfl (by decide) (Nat.le_of_ble_eq_true rfl) (by decide) rfl fun ok H => ?_
      rw [Try.results40]
      try simp only [↓upd_eq, ↓envL_cons, Go.Ab.W0, guardOf, eff, effBuiltin, abin, abinInt, cellsAt, shift, AState.ev, AState.put, AState.new, ofVal, ofVal1, setRange, inplOf, if_true, if_false, reduceIte, Nat.reduceEqDiff, Nat.reduceAdd, Nat.reduceLT, Nat.reduceLeDiff, reduceCtorEq, Nat.reduceMul, implies_true, fillA, placeSt, fillE, elemsOf, effAppend, effSlice, optInt, reCells, forall_eq_or_imp, forall_eq, isAl, retP, AV.norm, AV.normL, Nat.reducePow, W1, Go.Ab.W3, Int.reduceAdd, Int.reduceLT, Int.reduceToNat, Int.reduceBEq, Int.reduceBNe, Int.reduceLE, a5, b5, k9, e1, e2, hl, hlb, map_emb_kid (show 0 < a.kids.length by omega), map_emb_kid (show 0 < b.kids.length by omega), map_emb_kid (show 1 < a.kids.length by omega), map_emb_kid (show 1 < b.kids.length by omega), cutNormal_normal]
      repeat' ((first
        | with_reducible refine goIf_b (fun h => ?_) (fun h => ?_)
        | with_reducible refine goIf_n (fun h => ?_) (fun h => ?_)
        | with_reducible refine goIf_d (fun h => ?_) (fun h => ?_)
        | with_reducible refine goIf_split (fun h => ?_) (fun h => ?_)
        | with_reducible refine goGb_b (fun h => ?_) (fun h => ?_)
        | with_reducible refine goGb_n (fun h => ?_) (fun h => ?_)
        | with_reducible refine goGb_d (fun h => ?_) (fun h => ?_)
        | with_reducible refine goGb_split (fun h => ?_) (fun h => ?_)
        | with_reducible refine goDGb_b (fun h => ?_) (fun h => ?_)
        | with_reducible refine goDGb_n (fun h => ?_) (fun h => ?_)
        | with_reducible refine goDGb_d (fun h => ?_) (fun h => ?_)
        | with_reducible refine goDGb_split (fun h => ?_) (fun h => ?_)
        | (refine goCall_norm ?_; simp only [AV.norm, AV.normL, W2, Go.Ab.W3, Int.reduceAdd, Int.reduceLT, Int.reduceToNat, Int.reduceBEq, Int.reduceBNe, Int.reduceLE, a5, b5, k9, e1, e2, hl, hlb, map_emb_kid (show 0 < a.kids.length by omega), map_emb_kid (show 0 < b.kids.length by omega), map_emb_kid (show 1 < a.kids.length by omega), map_emb_kid (show 1 < b.kids.length by omega)]; first | refine goCall_p (leafB_ok _ _) (.inl rfl) ?_ | refine goCall_p (likeB_ok _ _) (.inl rfl) ?_ | refine goCall_p (c0) (.inl rfl) ?_ | refine goCall_p (c1) (.inl rfl) ?_)
        | (refine goDCall_norm ?_; simp only [AV.norm, AV.normL, W2, Go.Ab.W3, Int.reduceAdd, Int.reduceLT, Int.reduceToNat, Int.reduceBEq, Int.reduceBNe, Int.reduceLE, a5, b5, k9, e1, e2, hl, hlb, map_emb_kid (show 0 < a.kids.length by omega), map_emb_kid (show 0 < b.kids.length by omega), map_emb_kid (show 1 < a.kids.length by omega), map_emb_kid (show 1 < b.kids.length by omega)]; first | refine goDCall_p (leafB_ok _ _) (.inl rfl) ?_ | refine goDCall_p (likeB_ok _ _) (.inl rfl) ?_ | refine goDCall_p (c0) (.inl rfl) ?_ | refine goDCall_p (c1) (.inl rfl) ?_)
        | refine go_draw (id := 9) C_ok mixed 0 Try.f40.ntmps rfl (by kernel_rfl) (by decide) ?_
        | refine go_draw (id := 13) C_ok mixed 0 Try.f40.ntmps rfl (by kernel_rfl) (by decide) ?_
        | refine goRound ?_ C_ok Try.f40.ntmps rfl (by decide)) <;> first | simp only [h, ↓upd_eq, ↓envL_cons, Go.Ab.W0, guardOf, eff, effBuiltin, abin, abinInt, cellsAt, shift, AState.ev, AState.put, AState.new, ofVal, ofVal1, setRange, inplOf, if_true, if_false, reduceIte, Nat.reduceEqDiff, Nat.reduceAdd, Nat.reduceLT, Nat.reduceLeDiff, reduceCtorEq, Nat.reduceMul, implies_true, fillA, placeSt, fillE, elemsOf, effAppend, effSlice, optInt, reCells, forall_eq_or_imp, forall_eq, isAl, retP, AV.norm, AV.normL, Nat.reducePow, W1, Go.Ab.W3, Int.reduceAdd, Int.reduceLT, Int.reduceToNat, Int.reduceBEq, Int.reduceBNe, Int.reduceLE, a5, b5, k9, e1, e2, hl, hlb, map_emb_kid (show 0 < a.kids.length by omega), map_emb_kid (show 0 < b.kids.length by omega), map_emb_kid (show 1 < a.kids.length by omega), map_emb_kid (show 1 < b.kids.length by omega), cutNormal_normal] | simp only [↓upd_eq, ↓envL_cons, Go.Ab.W0, guardOf, eff, effBuiltin, abin, abinInt, cellsAt, shift, AState.ev, AState.put, AState.new, ofVal, ofVal1, setRange, inplOf, if_true, if_false, reduceIte, Nat.reduceEqDiff, Nat.reduceAdd, Nat.reduceLT, Nat.reduceLeDiff, reduceCtorEq, Nat.reduceMul, implies_true, fillA, placeSt, fillE, elemsOf, effAppend, effSlice, optInt, reCells, forall_eq_or_imp, forall_eq, isAl, retP, AV.norm, AV.normL, Nat.reducePow, W1, Go.Ab.W3, Int.reduceAdd, Int.reduceLT, Int.reduceToNat, Int.reduceBEq, Int.reduceBNe, Int.reduceLE, a5, b5, k9, e1, e2, hl, hlb, map_emb_kid (show 0 < a.kids.length by omega), map_emb_kid (show 0 < b.kids.length by omega), map_emb_kid (show 1 < a.kids.length by omega), map_emb_kid (show 1 < b.kids.length by omega), cutNormal_normal] | skip)
      all_goals (simp_all [kidF])

theorem sb_leaf {s : Int} {a b : Ty} (hs : sideOK s) (ha : right a = true) (hb : right b = true) (h : leafB a b = true) : sb s a b = true := by
  obtain ⟨h1, h2, h3⟩ := leaf_facts h
  rw [sb_eq ha hb]
  by_cases b5 : b.kind = 5
  · have a5 : a.kind = 5 := by omega
    simp [a5, b5, h3, kidF]
  · have a5 : a.kind ≠ 5 := by omega
    simp [a5, b5, h2, h3, kidF_leaf ha h1]
theorem sb_nolike {s : Int} {a b : Ty} (ha : right a = true) (hb : right b = true) (b5 : b.kind ≠ 5) (h1 : s = 1 → a.kind ≠ 5) (h : leafB a b = false) (h' : likeB a b = false) : sb s a b = false := by
  have := nolike h h'
  rw [sb_eq ha hb]
  have c1 : ¬ ((s = 0 ∧ b.kind = 5) ∨ (s = 1 ∧ a.kind = 5)) := by
    rintro (⟨_, h⟩ | ⟨h, h2⟩)
    · exact b5 h
    · exact h1 h h2
  rw [if_neg c1, if_neg (fun h => b5 h.1), if_pos this]
theorem sb_like {s : Int} {a b : Ty} (ha : right a = true) (hb : right b = true) (h : likeB a b = true) : sb s a b = kidF sb s a (b.kid 0) (b.kid 1) := by
  obtain ⟨h1, h2, h3⟩ := like_facts ha hb h
  have h0 : 0 < a.kids.length := by simp only [likeB, Bool.and_eq_true, decide_eq_true_eq] at h; exact h.1
  have a5 : a.kind ≠ 5 := by intro h5; rw [dyn_eq ha h5] at h0; exact absurd h0 (by decide)
  rw [sb_eq ha hb]
  have c1 : ¬ ((s = 0 ∧ b.kind = 5) ∨ (s = 1 ∧ a.kind = 5)) := by rintro (⟨_, h⟩ | ⟨_, h⟩) <;> omega
  rw [if_neg c1, if_neg (fun h => a5 (by omega)), if_neg (by rintro (h | h) <;> exact h (by assumption))]
theorem sb_dyn {s : Int} {a b : Ty} (hs : s ≠ 0) (ha : right a = true) (hb : right b = true) (b5 : b.kind = 5) (a5 : a.kind ≠ 5) : sb s a b = (decide (a.kind ≠ 6) && kidF sb s a dynT dynT) := by
  rw [sb_eq ha hb]
  have c1 : ¬ ((s = 0 ∧ b.kind = 5) ∨ (s = 1 ∧ a.kind = 5)) := by rintro (⟨h, _⟩ | ⟨_, h⟩); exact hs h; exact a5 h
  rw [if_neg c1, if_pos ⟨b5, a5⟩]

theorem sd_side (neg : Bool) : sideOK (if neg then 1 else 0) := by cases neg; exact .inl rfl; exact .inr (.inl rfl)

theorem side_step (a b : Ty) (neg : Bool) (ha : right a = true) (hb : right b = true)
    (ih : ∀ x y, nodes x + nodes y < nodes a + nodes b → ∀ neg : Bool, right x = true → right y = true → PCalls Try.prog 40 [emb x, emb y, .bool neg] (.bool (sb (if neg then 1 else 0) x y))) :
    PCalls Try.prog 40 [emb a, emb b, .bool neg] (.bool (sb (if neg then 1 else 0) a b)) := by
  have hpb := nodes_pos b
  have ho : ∀ neg : Bool, other (if neg then 1 else 0) = if (!neg) then 1 else 0 := fun neg => by cases neg <;> rfl
  by_cases hlike : likeB a b = true
  · obtain ⟨h1, h2, h3⟩ := like_facts ha hb hlike
    have h0 : 0 < a.kids.length := by simp only [likeB, Bool.and_eq_true, decide_eq_true_eq] at hlike; exact hlike.1
    rw [sb_like ha hb hlike]
    refine side_core a b neg _ rfl ha hb h1 h0 fun i hi => ?_
    have e1 := nodes_kid' hi
    have e2 := nodes_kid' (t := b) (i := i) (by omega)
    rw [ho]
    exact ⟨ih _ _ (by omega) _ (right_kid ha hi) (right_kid hb (by omega)), ih _ _ (by omega) _ (right_kid hb (by omega)) (right_kid ha hi)⟩
  · have hl : likeB a b = false := by simpa using hlike
    by_cases hleaf : leafB a b = true
    · have hsb := sb_leaf (sd_side neg) ha hb hleaf
      rw [hsb]
      cases neg
      all_goals
        refine pcalls_text C_ok Try.func40 rfl (by decide) (Nat.le_of_ble_eq_true rfl) (by decide) rfl fun ok H => ?_
        rw [Try.results40]
        try simp only [↓upd_eq, ↓envL_cons, Go.Ab.W0, guardOf, eff, effBuiltin, abin, abinInt, cellsAt, shift, AState.ev, AState.put, AState.new, ofVal, ofVal1, setRange, inplOf, if_true, if_false, reduceIte, Nat.reduceEqDiff, Nat.reduceAdd, Nat.reduceLT, Nat.reduceLeDiff, reduceCtorEq, Nat.reduceMul, implies_true, fillA, placeSt, fillE, elemsOf, effAppend, effSlice, optInt, reCells, forall_eq_or_imp, forall_eq, isAl, retP, AV.norm, AV.normL, Nat.reducePow, W1, hleaf]
        repeat' ((first
          | with_reducible refine goIf_b (fun h => ?_) (fun h => ?_)
          | with_reducible refine goIf_n (fun h => ?_) (fun h => ?_)
          | with_reducible refine goIf_d (fun h => ?_) (fun h => ?_)
          | with_reducible refine goIf_split (fun h => ?_) (fun h => ?_)
          | with_reducible refine goGb_b (fun h => ?_) (fun h => ?_)
          | with_reducible refine goGb_n (fun h => ?_) (fun h => ?_)
          | with_reducible refine goGb_d (fun h => ?_) (fun h => ?_)
          | with_reducible refine goGb_split (fun h => ?_) (fun h => ?_)
          | with_reducible refine goDGb_b (fun h => ?_) (fun h => ?_)
          | with_reducible refine goDGb_n (fun h => ?_) (fun h => ?_)
          | with_reducible refine goDGb_d (fun h => ?_) (fun h => ?_)
          | with_reducible refine goDGb_split (fun h => ?_) (fun h => ?_)
          | (refine goCall_norm ?_; simp only [AV.norm, AV.normL, W2, hleaf]; first | refine goCall_p (leafB_ok _ _) (.inl rfl) ?_ | refine goCall_p (likeB_ok _ _) (.inl rfl) ?_)
          | (refine goDCall_norm ?_; simp only [AV.norm, AV.normL, W2, hleaf]; first | refine goDCall_p (leafB_ok _ _) (.inl rfl) ?_ | refine goDCall_p (likeB_ok _ _) (.inl rfl) ?_)
          | refine go_draw (id := 9) C_ok mixed 0 Try.f40.ntmps rfl (by kernel_rfl) (by decide) ?_
          | refine go_draw (id := 13) C_ok mixed 0 Try.f40.ntmps rfl (by kernel_rfl) (by decide) ?_) <;> first | simp only [h, ↓upd_eq, ↓envL_cons, Go.Ab.W0, guardOf, eff, effBuiltin, abin, abinInt, cellsAt, shift, AState.ev, AState.put, AState.new, ofVal, ofVal1, setRange, inplOf, if_true, if_false, reduceIte, Nat.reduceEqDiff, Nat.reduceAdd, Nat.reduceLT, Nat.reduceLeDiff, reduceCtorEq, Nat.reduceMul, implies_true, fillA, placeSt, fillE, elemsOf, effAppend, effSlice, optInt, reCells, forall_eq_or_imp, forall_eq, isAl, retP, AV.norm, AV.normL, Nat.reducePow, W1, hleaf] | simp only [↓upd_eq, ↓envL_cons, Go.Ab.W0, guardOf, eff, effBuiltin, abin, abinInt, cellsAt, shift, AState.ev, AState.put, AState.new, ofVal, ofVal1, setRange, inplOf, if_true, if_false, reduceIte, Nat.reduceEqDiff, Nat.reduceAdd, Nat.reduceLT, Nat.reduceLeDiff, reduceCtorEq, Nat.reduceMul, implies_true, fillA, placeSt, fillE, elemsOf, effAppend, effSlice, optInt, reCells, forall_eq_or_imp, forall_eq, isAl, retP, AV.norm, AV.normL, Nat.reducePow, W1, hleaf] | skip)
    · have hlf : leafB a b = false := by simpa using hleaf
      by_cases b5 : b.kind = 5
      · have b5' : (b.kind == 5) = true := by simp [b5]
        cases neg with
        | false =>
          have hsb : sb 0 a b = true := by rw [sb_eq ha hb]; simp [b5]
          simp only [Bool.false_eq_true, if_false]
          rw [hsb]
          refine pcalls_text C_ok Try.func40 rfl (by decide) (Nat.le_of_ble_eq_true rfl) (by decide) rfl fun ok H => ?_
          rw [Try.results40]
          try simp only [↓upd_eq, ↓envL_cons, Go.Ab.W0, guardOf, eff, effBuiltin, abin, abinInt, cellsAt, shift, AState.ev, AState.put, AState.new, ofVal, ofVal1, setRange, inplOf, if_true, if_false, reduceIte, Nat.reduceEqDiff, Nat.reduceAdd, Nat.reduceLT, Nat.reduceLeDiff, reduceCtorEq, Nat.reduceMul, implies_true, fillA, placeSt, fillE, elemsOf, effAppend, effSlice, optInt, reCells, forall_eq_or_imp, forall_eq, isAl, retP, AV.norm, AV.normL, Nat.reducePow, W1, b5', hlf]
          repeat' ((first
            | with_reducible refine goIf_b (fun h => ?_) (fun h => ?_)
            | with_reducible refine goIf_n (fun h => ?_) (fun h => ?_)
            | with_reducible refine goIf_d (fun h => ?_) (fun h => ?_)
            | with_reducible refine goIf_split (fun h => ?_) (fun h => ?_)
            | with_reducible refine goGb_b (fun h => ?_) (fun h => ?_)
            | with_reducible refine goGb_n (fun h => ?_) (fun h => ?_)
            | with_reducible refine goGb_d (fun h => ?_) (fun h => ?_)
            | with_reducible refine goGb_split (fun h => ?_) (fun h => ?_)
            | with_reducible refine goDGb_b (fun h => ?_) (fun h => ?_)
            | with_reducible refine goDGb_n (fun h => ?_) (fun h => ?_)
            | with_reducible refine goDGb_d (fun h => ?_) (fun h => ?_)
            | with_reducible refine goDGb_split (fun h => ?_) (fun h => ?_)
            | (refine goCall_norm ?_; simp only [AV.norm, AV.normL, W2, b5', hlf]; first | refine goCall_p (leafB_ok _ _) (.inl rfl) ?_ | refine goCall_p (likeB_ok _ _) (.inl rfl) ?_)
            | (refine goDCall_norm ?_; simp only [AV.norm, AV.normL, W2, b5', hlf]; first | refine goDCall_p (leafB_ok _ _) (.inl rfl) ?_ | refine goDCall_p (likeB_ok _ _) (.inl rfl) ?_)
            | refine go_draw (id := 9) C_ok mixed 0 Try.f40.ntmps rfl (by kernel_rfl) (by decide) ?_
            | refine go_draw (id := 13) C_ok mixed 0 Try.f40.ntmps rfl (by kernel_rfl) (by decide) ?_) <;> first | simp only [h, ↓upd_eq, ↓envL_cons, Go.Ab.W0, guardOf, eff, effBuiltin, abin, abinInt, cellsAt, shift, AState.ev, AState.put, AState.new, ofVal, ofVal1, setRange, inplOf, if_true, if_false, reduceIte, Nat.reduceEqDiff, Nat.reduceAdd, Nat.reduceLT, Nat.reduceLeDiff, reduceCtorEq, Nat.reduceMul, implies_true, fillA, placeSt, fillE, elemsOf, effAppend, effSlice, optInt, reCells, forall_eq_or_imp, forall_eq, isAl, retP, AV.norm, AV.normL, Nat.reducePow, W1, b5', hlf] | simp only [↓upd_eq, ↓envL_cons, Go.Ab.W0, guardOf, eff, effBuiltin, abin, abinInt, cellsAt, shift, AState.ev, AState.put, AState.new, ofVal, ofVal1, setRange, inplOf, if_true, if_false, reduceIte, Nat.reduceEqDiff, Nat.reduceAdd, Nat.reduceLT, Nat.reduceLeDiff, reduceCtorEq, Nat.reduceMul, implies_true, fillA, placeSt, fillE, elemsOf, effAppend, effSlice, optInt, reCells, forall_eq_or_imp, forall_eq, isAl, retP, AV.norm, AV.normL, Nat.reducePow, W1, b5', hlf] | skip)
        | true =>
          by_cases a5 : a.kind = 5
          · exact absurd (show leafB a b = true by rw [dyn_eq ha a5, dyn_eq hb b5]; rfl) hleaf
          · have a5' : (a.kind == 5) = false := by simp [a5]
            simp only [if_true]
            rw [sb_dyn (by decide) ha hb b5 a5]
            by_cases hh : headK a.kind = true
            · have h6 := (head_ne hh).2
              have eg := groundT_eq ha hh
              have eh : hasGround a = true := by simp [hasGround, ha, hh]
              by_cases h0 : 0 < a.kids.length
              · have cg : PCalls Try.prog 40 [emb a, emb (ground a), .bool true] (.bool (kidF sb 1 a dynT dynT)) := by
                  rw [← kidF_ground ha]
                  refine side_core a (ground a) true 1 rfl ha (ground_right ha hh) rfl h0 fun i hi => ?_
                  rw [ground_kid hi]
                  have e1 := nodes_kid' hi
                  exact ⟨ih _ _ (by rw [nodes_dyn]; omega) true (right_kid ha hi) right_dyn, ih _ _ (by rw [nodes_dyn]; omega) false right_dyn (right_kid ha hi)⟩
                have hz : ((a.kids.length : Int) == 0) = false := by simp only [beq_eq_false_iff_ne]; omega
                refine pcalls_text C_ok Try.func40 rfl (by decide) (Nat.le_of_ble_eq_true rfl) (by decide) rfl fun ok H => ?_
                rw [Try.results40]
                try simp only [↓upd_eq, ↓envL_cons, Go.Ab.W0, guardOf, eff, effBuiltin, abin, abinInt, cellsAt, shift, AState.ev, AState.put, AState.new, ofVal, ofVal1, setRange, inplOf, if_true, if_false, reduceIte, Nat.reduceEqDiff, Nat.reduceAdd, Nat.reduceLT, Nat.reduceLeDiff, reduceCtorEq, Nat.reduceMul, implies_true, fillA, placeSt, fillE, elemsOf, effAppend, effSlice, optInt, reCells, forall_eq_or_imp, forall_eq, isAl, retP, AV.norm, AV.normL, Nat.reducePow, W1, a5', b5', hlf, eg, eh, hz]
                repeat' ((first
                  | with_reducible refine goIf_b (fun h => ?_) (fun h => ?_)
                  | with_reducible refine goIf_n (fun h => ?_) (fun h => ?_)
                  | with_reducible refine goIf_d (fun h => ?_) (fun h => ?_)
                  | with_reducible refine goIf_split (fun h => ?_) (fun h => ?_)
                  | with_reducible refine goGb_b (fun h => ?_) (fun h => ?_)
                  | with_reducible refine goGb_n (fun h => ?_) (fun h => ?_)
                  | with_reducible refine goGb_d (fun h => ?_) (fun h => ?_)
                  | with_reducible refine goGb_split (fun h => ?_) (fun h => ?_)
                  | with_reducible refine goDGb_b (fun h => ?_) (fun h => ?_)
                  | with_reducible refine goDGb_n (fun h => ?_) (fun h => ?_)
                  | with_reducible refine goDGb_d (fun h => ?_) (fun h => ?_)
                  | with_reducible refine goDGb_split (fun h => ?_) (fun h => ?_)
                  | (refine goCall_norm ?_; simp only [AV.norm, AV.normL, W2, a5', b5', hlf, eg, eh, hz]; first | refine goCall_p (leafB_ok _ _) (.inl rfl) ?_ | refine goCall_p (likeB_ok _ _) (.inl rfl) ?_ | refine goCall_p (rground_ok _ ha) (.inl rfl) ?_ | refine goCall_p (cg) (.inl rfl) ?_)
                  | (refine goDCall_norm ?_; simp only [AV.norm, AV.normL, W2, a5', b5', hlf, eg, eh, hz]; first | refine goDCall_p (leafB_ok _ _) (.inl rfl) ?_ | refine goDCall_p (likeB_ok _ _) (.inl rfl) ?_ | refine goDCall_p (rground_ok _ ha) (.inl rfl) ?_ | refine goDCall_p (cg) (.inl rfl) ?_)
                  | refine go_draw (id := 9) C_ok mixed 0 Try.f40.ntmps rfl (by kernel_rfl) (by decide) ?_
                  | refine go_draw (id := 13) C_ok mixed 0 Try.f40.ntmps rfl (by kernel_rfl) (by decide) ?_) <;> first | simp only [h, ↓upd_eq, ↓envL_cons, Go.Ab.W0, guardOf, eff, effBuiltin, abin, abinInt, cellsAt, shift, AState.ev, AState.put, AState.new, ofVal, ofVal1, setRange, inplOf, if_true, if_false, reduceIte, Nat.reduceEqDiff, Nat.reduceAdd, Nat.reduceLT, Nat.reduceLeDiff, reduceCtorEq, Nat.reduceMul, implies_true, fillA, placeSt, fillE, elemsOf, effAppend, effSlice, optInt, reCells, forall_eq_or_imp, forall_eq, isAl, retP, AV.norm, AV.normL, Nat.reducePow, W1, a5', b5', hlf, eg, eh, hz] | simp only [↓upd_eq, ↓envL_cons, Go.Ab.W0, guardOf, eff, effBuiltin, abin, abinInt, cellsAt, shift, AState.ev, AState.put, AState.new, ofVal, ofVal1, setRange, inplOf, if_true, if_false, reduceIte, Nat.reduceEqDiff, Nat.reduceAdd, Nat.reduceLT, Nat.reduceLeDiff, reduceCtorEq, Nat.reduceMul, implies_true, fillA, placeSt, fillE, elemsOf, effAppend, effSlice, optInt, reCells, forall_eq_or_imp, forall_eq, isAl, retP, AV.norm, AV.normL, Nat.reducePow, W1, a5', b5', hlf, eg, eh, hz] | skip)
                all_goals simp_all
              · have hz : ((a.kids.length : Int) == 0) = true := by simp only [beq_iff_eq]; omega
                have hk := kidF_leaf (r := sb) (s := 1) (x := dynT) (y := dynT) ha (by omega)
                refine pcalls_text C_ok Try.func40 rfl (by decide) (Nat.le_of_ble_eq_true rfl) (by decide) rfl fun ok H => ?_
                rw [Try.results40]
                try simp only [↓upd_eq, ↓envL_cons, Go.Ab.W0, guardOf, eff, effBuiltin, abin, abinInt, cellsAt, shift, AState.ev, AState.put, AState.new, ofVal, ofVal1, setRange, inplOf, if_true, if_false, reduceIte, Nat.reduceEqDiff, Nat.reduceAdd, Nat.reduceLT, Nat.reduceLeDiff, reduceCtorEq, Nat.reduceMul, implies_true, fillA, placeSt, fillE, elemsOf, effAppend, effSlice, optInt, reCells, forall_eq_or_imp, forall_eq, isAl, retP, AV.norm, AV.normL, Nat.reducePow, W1, a5', b5', hlf, eg, eh, hz]
                repeat' ((first
                  | with_reducible refine goIf_b (fun h => ?_) (fun h => ?_)
                  | with_reducible refine goIf_n (fun h => ?_) (fun h => ?_)
                  | with_reducible refine goIf_d (fun h => ?_) (fun h => ?_)
                  | with_reducible refine goIf_split (fun h => ?_) (fun h => ?_)
                  | with_reducible refine goGb_b (fun h => ?_) (fun h => ?_)
                  | with_reducible refine goGb_n (fun h => ?_) (fun h => ?_)
                  | with_reducible refine goGb_d (fun h => ?_) (fun h => ?_)
                  | with_reducible refine goGb_split (fun h => ?_) (fun h => ?_)
                  | with_reducible refine goDGb_b (fun h => ?_) (fun h => ?_)
                  | with_reducible refine goDGb_n (fun h => ?_) (fun h => ?_)
                  | with_reducible refine goDGb_d (fun h => ?_) (fun h => ?_)
                  | with_reducible refine goDGb_split (fun h => ?_) (fun h => ?_)
                  | (refine goCall_norm ?_; simp only [AV.norm, AV.normL, W2, a5', b5', hlf, eg, eh, hz]; first | refine goCall_p (leafB_ok _ _) (.inl rfl) ?_ | refine goCall_p (likeB_ok _ _) (.inl rfl) ?_ | refine goCall_p (rground_ok _ ha) (.inl rfl) ?_)
                  | (refine goDCall_norm ?_; simp only [AV.norm, AV.normL, W2, a5', b5', hlf, eg, eh, hz]; first | refine goDCall_p (leafB_ok _ _) (.inl rfl) ?_ | refine goDCall_p (likeB_ok _ _) (.inl rfl) ?_ | refine goDCall_p (rground_ok _ ha) (.inl rfl) ?_)
                  | refine go_draw (id := 9) C_ok mixed 0 Try.f40.ntmps rfl (by kernel_rfl) (by decide) ?_
                  | refine go_draw (id := 13) C_ok mixed 0 Try.f40.ntmps rfl (by kernel_rfl) (by decide) ?_) <;> first | simp only [h, ↓upd_eq, ↓envL_cons, Go.Ab.W0, guardOf, eff, effBuiltin, abin, abinInt, cellsAt, shift, AState.ev, AState.put, AState.new, ofVal, ofVal1, setRange, inplOf, if_true, if_false, reduceIte, Nat.reduceEqDiff, Nat.reduceAdd, Nat.reduceLT, Nat.reduceLeDiff, reduceCtorEq, Nat.reduceMul, implies_true, fillA, placeSt, fillE, elemsOf, effAppend, effSlice, optInt, reCells, forall_eq_or_imp, forall_eq, isAl, retP, AV.norm, AV.normL, Nat.reducePow, W1, a5', b5', hlf, eg, eh, hz] | simp only [↓upd_eq, ↓envL_cons, Go.Ab.W0, guardOf, eff, effBuiltin, abin, abinInt, cellsAt, shift, AState.ev, AState.put, AState.new, ofVal, ofVal1, setRange, inplOf, if_true, if_false, reduceIte, Nat.reduceEqDiff, Nat.reduceAdd, Nat.reduceLT, Nat.reduceLeDiff, reduceCtorEq, Nat.reduceMul, implies_true, fillA, placeSt, fillE, elemsOf, effAppend, effSlice, optInt, reCells, forall_eq_or_imp, forall_eq, isAl, retP, AV.norm, AV.normL, Nat.reducePow, W1, a5', b5', hlf, eg, eh, hz] | skip)
                all_goals simp_all
            · have h6 : a.kind = 6 := by rcases headK_ne' ha hh with h | h; exact absurd h a5; exact h
              have eh : hasGround a = false := by simp [hasGround, hh]
              refine pcalls_text C_ok Try.func40 rfl (by decide) (Nat.le_of_ble_eq_true rfl) (by decide) rfl fun ok H => ?_
              rw [Try.results40]
              try simp only [↓upd_eq, ↓envL_cons, Go.Ab.W0, guardOf, eff, effBuiltin, abin, abinInt, cellsAt, shift, AState.ev, AState.put, AState.new, ofVal, ofVal1, setRange, inplOf, if_true, if_false, reduceIte, Nat.reduceEqDiff, Nat.reduceAdd, Nat.reduceLT, Nat.reduceLeDiff, reduceCtorEq, Nat.reduceMul, implies_true, fillA, placeSt, fillE, elemsOf, effAppend, effSlice, optInt, reCells, forall_eq_or_imp, forall_eq, isAl, retP, AV.norm, AV.normL, Nat.reducePow, W1, a5', b5', hlf, eh]
              repeat' ((first
                | with_reducible refine goIf_b (fun h => ?_) (fun h => ?_)
                | with_reducible refine goIf_n (fun h => ?_) (fun h => ?_)
                | with_reducible refine goIf_d (fun h => ?_) (fun h => ?_)
                | with_reducible refine goIf_split (fun h => ?_) (fun h => ?_)
                | with_reducible refine goGb_b (fun h => ?_) (fun h => ?_)
                | with_reducible refine goGb_n (fun h => ?_) (fun h => ?_)
                | with_reducible refine goGb_d (fun h => ?_) (fun h => ?_)
                | with_reducible refine goGb_split (fun h => ?_) (fun h => ?_)
                | with_reducible refine goDGb_b (fun h => ?_) (fun h => ?_)
                | with_reducible refine goDGb_n (fun h => ?_) (fun h => ?_)
                | with_reducible refine goDGb_d (fun h => ?_) (fun h => ?_)
                | with_reducible refine goDGb_split (fun h => ?_) (fun h => ?_)
                | (refine goCall_norm ?_; simp only [AV.norm, AV.normL, W2, a5', b5', hlf, eh]; first | refine goCall_p (leafB_ok _ _) (.inl rfl) ?_ | refine goCall_p (likeB_ok _ _) (.inl rfl) ?_ | refine goCall_p (rground_ok _ ha) (.inl rfl) ?_)
                | (refine goDCall_norm ?_; simp only [AV.norm, AV.normL, W2, a5', b5', hlf, eh]; first | refine goDCall_p (leafB_ok _ _) (.inl rfl) ?_ | refine goDCall_p (likeB_ok _ _) (.inl rfl) ?_ | refine goDCall_p (rground_ok _ ha) (.inl rfl) ?_)
                | refine go_draw (id := 9) C_ok mixed 0 Try.f40.ntmps rfl (by kernel_rfl) (by decide) ?_
                | refine go_draw (id := 13) C_ok mixed 0 Try.f40.ntmps rfl (by kernel_rfl) (by decide) ?_) <;> first | simp only [h, ↓upd_eq, ↓envL_cons, Go.Ab.W0, guardOf, eff, effBuiltin, abin, abinInt, cellsAt, shift, AState.ev, AState.put, AState.new, ofVal, ofVal1, setRange, inplOf, if_true, if_false, reduceIte, Nat.reduceEqDiff, Nat.reduceAdd, Nat.reduceLT, Nat.reduceLeDiff, reduceCtorEq, Nat.reduceMul, implies_true, fillA, placeSt, fillE, elemsOf, effAppend, effSlice, optInt, reCells, forall_eq_or_imp, forall_eq, isAl, retP, AV.norm, AV.normL, Nat.reducePow, W1, a5', b5', hlf, eh] | simp only [↓upd_eq, ↓envL_cons, Go.Ab.W0, guardOf, eff, effBuiltin, abin, abinInt, cellsAt, shift, AState.ev, AState.put, AState.new, ofVal, ofVal1, setRange, inplOf, if_true, if_false, reduceIte, Nat.reduceEqDiff, Nat.reduceAdd, Nat.reduceLT, Nat.reduceLeDiff, reduceCtorEq, Nat.reduceMul, implies_true, fillA, placeSt, fillE, elemsOf, effAppend, effSlice, optInt, reCells, forall_eq_or_imp, forall_eq, isAl, retP, AV.norm, AV.normL, Nat.reducePow, W1, a5', b5', hlf, eh] | skip)
              all_goals simp_all
      · have b5' : (b.kind == 5) = false := by simp [b5]
        cases neg with
        | false =>
          simp only [Bool.false_eq_true, if_false]
          rw [sb_nolike ha hb b5 (fun h => absurd h (by decide)) hlf hl]
          refine pcalls_text C_ok Try.func40 rfl (by decide) (Nat.le_of_ble_eq_true rfl) (by decide) rfl fun ok H => ?_
          rw [Try.results40]
          try simp only [↓upd_eq, ↓envL_cons, Go.Ab.W0, guardOf, eff, effBuiltin, abin, abinInt, cellsAt, shift, AState.ev, AState.put, AState.new, ofVal, ofVal1, setRange, inplOf, if_true, if_false, reduceIte, Nat.reduceEqDiff, Nat.reduceAdd, Nat.reduceLT, Nat.reduceLeDiff, reduceCtorEq, Nat.reduceMul, implies_true, fillA, placeSt, fillE, elemsOf, effAppend, effSlice, optInt, reCells, forall_eq_or_imp, forall_eq, isAl, retP, AV.norm, AV.normL, Nat.reducePow, W1, b5', hlf, hl]
          repeat' ((first
            | with_reducible refine goIf_b (fun h => ?_) (fun h => ?_)
            | with_reducible refine goIf_n (fun h => ?_) (fun h => ?_)
            | with_reducible refine goIf_d (fun h => ?_) (fun h => ?_)
            | with_reducible refine goIf_split (fun h => ?_) (fun h => ?_)
            | with_reducible refine goGb_b (fun h => ?_) (fun h => ?_)
            | with_reducible refine goGb_n (fun h => ?_) (fun h => ?_)
            | with_reducible refine goGb_d (fun h => ?_) (fun h => ?_)
            | with_reducible refine goGb_split (fun h => ?_) (fun h => ?_)
            | with_reducible refine goDGb_b (fun h => ?_) (fun h => ?_)
            | with_reducible refine goDGb_n (fun h => ?_) (fun h => ?_)
            | with_reducible refine goDGb_d (fun h => ?_) (fun h => ?_)
            | with_reducible refine goDGb_split (fun h => ?_) (fun h => ?_)
            | (refine goCall_norm ?_; simp only [AV.norm, AV.normL, W2, b5', hlf, hl]; first | refine goCall_p (leafB_ok _ _) (.inl rfl) ?_ | refine goCall_p (likeB_ok _ _) (.inl rfl) ?_)
            | (refine goDCall_norm ?_; simp only [AV.norm, AV.normL, W2, b5', hlf, hl]; first | refine goDCall_p (leafB_ok _ _) (.inl rfl) ?_ | refine goDCall_p (likeB_ok _ _) (.inl rfl) ?_)
            | refine go_draw (id := 9) C_ok mixed 0 Try.f40.ntmps rfl (by kernel_rfl) (by decide) ?_
            | refine go_draw (id := 13) C_ok mixed 0 Try.f40.ntmps rfl (by kernel_rfl) (by decide) ?_) <;> first | simp only [h, ↓upd_eq, ↓envL_cons, Go.Ab.W0, guardOf, eff, effBuiltin, abin, abinInt, cellsAt, shift, AState.ev, AState.put, AState.new, ofVal, ofVal1, setRange, inplOf, if_true, if_false, reduceIte, Nat.reduceEqDiff, Nat.reduceAdd, Nat.reduceLT, Nat.reduceLeDiff, reduceCtorEq, Nat.reduceMul, implies_true, fillA, placeSt, fillE, elemsOf, effAppend, effSlice, optInt, reCells, forall_eq_or_imp, forall_eq, isAl, retP, AV.norm, AV.normL, Nat.reducePow, W1, b5', hlf, hl] | simp only [↓upd_eq, ↓envL_cons, Go.Ab.W0, guardOf, eff, effBuiltin, abin, abinInt, cellsAt, shift, AState.ev, AState.put, AState.new, ofVal, ofVal1, setRange, inplOf, if_true, if_false, reduceIte, Nat.reduceEqDiff, Nat.reduceAdd, Nat.reduceLT, Nat.reduceLeDiff, reduceCtorEq, Nat.reduceMul, implies_true, fillA, placeSt, fillE, elemsOf, effAppend, effSlice, optInt, reCells, forall_eq_or_imp, forall_eq, isAl, retP, AV.norm, AV.normL, Nat.reducePow, W1, b5', hlf, hl] | skip)
        | true =>
          simp only [if_true]
          by_cases a5 : a.kind = 5
          · have a5' : (a.kind == 5) = true := by simp [a5]
            have hsb : sb 1 a b = true := by rw [sb_eq ha hb]; simp [a5]
            rw [hsb]
            refine pcalls_text C_ok Try.func40 rfl (by decide) (Nat.le_of_ble_eq_true rfl) (by decide) rfl fun ok H => ?_
            rw [Try.results40]
            try simp only [↓upd_eq, ↓envL_cons, Go.Ab.W0, guardOf, eff, effBuiltin, abin, abinInt, cellsAt, shift, AState.ev, AState.put, AState.new, ofVal, ofVal1, setRange, inplOf, if_true, if_false, reduceIte, Nat.reduceEqDiff, Nat.reduceAdd, Nat.reduceLT, Nat.reduceLeDiff, reduceCtorEq, Nat.reduceMul, implies_true, fillA, placeSt, fillE, elemsOf, effAppend, effSlice, optInt, reCells, forall_eq_or_imp, forall_eq, isAl, retP, AV.norm, AV.normL, Nat.reducePow, W1, a5', hlf]
            repeat' ((first
              | with_reducible refine goIf_b (fun h => ?_) (fun h => ?_)
              | with_reducible refine goIf_n (fun h => ?_) (fun h => ?_)
              | with_reducible refine goIf_d (fun h => ?_) (fun h => ?_)
              | with_reducible refine goIf_split (fun h => ?_) (fun h => ?_)
              | with_reducible refine goGb_b (fun h => ?_) (fun h => ?_)
              | with_reducible refine goGb_n (fun h => ?_) (fun h => ?_)
              | with_reducible refine goGb_d (fun h => ?_) (fun h => ?_)
              | with_reducible refine goGb_split (fun h => ?_) (fun h => ?_)
              | with_reducible refine goDGb_b (fun h => ?_) (fun h => ?_)
              | with_reducible refine goDGb_n (fun h => ?_) (fun h => ?_)
              | with_reducible refine goDGb_d (fun h => ?_) (fun h => ?_)
              | with_reducible refine goDGb_split (fun h => ?_) (fun h => ?_)
              | (refine goCall_norm ?_; simp only [AV.norm, AV.normL, W2, a5', hlf]; first | refine goCall_p (leafB_ok _ _) (.inl rfl) ?_ | refine goCall_p (likeB_ok _ _) (.inl rfl) ?_)
              | (refine goDCall_norm ?_; simp only [AV.norm, AV.normL, W2, a5', hlf]; first | refine goDCall_p (leafB_ok _ _) (.inl rfl) ?_ | refine goDCall_p (likeB_ok _ _) (.inl rfl) ?_)
              | refine go_draw (id := 9) C_ok mixed 0 Try.f40.ntmps rfl (by kernel_rfl) (by decide) ?_
              | refine go_draw (id := 13) C_ok mixed 0 Try.f40.ntmps rfl (by kernel_rfl) (by decide) ?_) <;> first | simp only [h, ↓upd_eq, ↓envL_cons, Go.Ab.W0, guardOf, eff, effBuiltin, abin, abinInt, cellsAt, shift, AState.ev, AState.put, AState.new, ofVal, ofVal1, setRange, inplOf, if_true, if_false, reduceIte, Nat.reduceEqDiff, Nat.reduceAdd, Nat.reduceLT, Nat.reduceLeDiff, reduceCtorEq, Nat.reduceMul, implies_true, fillA, placeSt, fillE, elemsOf, effAppend, effSlice, optInt, reCells, forall_eq_or_imp, forall_eq, isAl, retP, AV.norm, AV.normL, Nat.reducePow, W1, a5', hlf] | simp only [↓upd_eq, ↓envL_cons, Go.Ab.W0, guardOf, eff, effBuiltin, abin, abinInt, cellsAt, shift, AState.ev, AState.put, AState.new, ofVal, ofVal1, setRange, inplOf, if_true, if_false, reduceIte, Nat.reduceEqDiff, Nat.reduceAdd, Nat.reduceLT, Nat.reduceLeDiff, reduceCtorEq, Nat.reduceMul, implies_true, fillA, placeSt, fillE, elemsOf, effAppend, effSlice, optInt, reCells, forall_eq_or_imp, forall_eq, isAl, retP, AV.norm, AV.normL, Nat.reducePow, W1, a5', hlf] | skip)
          · have a5' : (a.kind == 5) = false := by simp [a5]
            rw [sb_nolike ha hb b5 (fun _ => a5) hlf hl]
            refine pcalls_text C_ok Try.func40 rfl (by decide) (Nat.le_of_ble_eq_true rfl) (by decide) rfl fun ok H => ?_
            rw [Try.results40]
            try simp only [↓upd_eq, ↓envL_cons, Go.Ab.W0, guardOf, eff, effBuiltin, abin, abinInt, cellsAt, shift, AState.ev, AState.put, AState.new, ofVal, ofVal1, setRange, inplOf, if_true, if_false, reduceIte, Nat.reduceEqDiff, Nat.reduceAdd, Nat.reduceLT, Nat.reduceLeDiff, reduceCtorEq, Nat.reduceMul, implies_true, fillA, placeSt, fillE, elemsOf, effAppend, effSlice, optInt, reCells, forall_eq_or_imp, forall_eq, isAl, retP, AV.norm, AV.normL, Nat.reducePow, W1, a5', b5', hlf, hl]
            repeat' ((first
              | with_reducible refine goIf_b (fun h => ?_) (fun h => ?_)
              | with_reducible refine goIf_n (fun h => ?_) (fun h => ?_)
              | with_reducible refine goIf_d (fun h => ?_) (fun h => ?_)
              | with_reducible refine goIf_split (fun h => ?_) (fun h => ?_)
              | with_reducible refine goGb_b (fun h => ?_) (fun h => ?_)
              | with_reducible refine goGb_n (fun h => ?_) (fun h => ?_)
              | with_reducible refine goGb_d (fun h => ?_) (fun h => ?_)
              | with_reducible refine goGb_split (fun h => ?_) (fun h => ?_)
              | with_reducible refine goDGb_b (fun h => ?_) (fun h => ?_)
              | with_reducible refine goDGb_n (fun h => ?_) (fun h => ?_)
              | with_reducible refine goDGb_d (fun h => ?_) (fun h => ?_)
              | with_reducible refine goDGb_split (fun h => ?_) (fun h => ?_)
              | (refine goCall_norm ?_; simp only [AV.norm, AV.normL, W2, a5', b5', hlf, hl]; first | refine goCall_p (leafB_ok _ _) (.inl rfl) ?_ | refine goCall_p (likeB_ok _ _) (.inl rfl) ?_)
              | (refine goDCall_norm ?_; simp only [AV.norm, AV.normL, W2, a5', b5', hlf, hl]; first | refine goDCall_p (leafB_ok _ _) (.inl rfl) ?_ | refine goDCall_p (likeB_ok _ _) (.inl rfl) ?_)
              | refine go_draw (id := 9) C_ok mixed 0 Try.f40.ntmps rfl (by kernel_rfl) (by decide) ?_
              | refine go_draw (id := 13) C_ok mixed 0 Try.f40.ntmps rfl (by kernel_rfl) (by decide) ?_) <;> first | simp only [h, ↓upd_eq, ↓envL_cons, Go.Ab.W0, guardOf, eff, effBuiltin, abin, abinInt, cellsAt, shift, AState.ev, AState.put, AState.new, ofVal, ofVal1, setRange, inplOf, if_true, if_false, reduceIte, Nat.reduceEqDiff, Nat.reduceAdd, Nat.reduceLT, Nat.reduceLeDiff, reduceCtorEq, Nat.reduceMul, implies_true, fillA, placeSt, fillE, elemsOf, effAppend, effSlice, optInt, reCells, forall_eq_or_imp, forall_eq, isAl, retP, AV.norm, AV.normL, Nat.reducePow, W1, a5', b5', hlf, hl] | simp only [↓upd_eq, ↓envL_cons, Go.Ab.W0, guardOf, eff, effBuiltin, abin, abinInt, cellsAt, shift, AState.ev, AState.put, AState.new, ofVal, ofVal1, setRange, inplOf, if_true, if_false, reduceIte, Nat.reduceEqDiff, Nat.reduceAdd, Nat.reduceLT, Nat.reduceLeDiff, reduceCtorEq, Nat.reduceMul, implies_true, fillA, placeSt, fillE, elemsOf, effAppend, effSlice, optInt, reCells, forall_eq_or_imp, forall_eq, isAl, retP, AV.norm, AV.normL, Nat.reducePow, W1, a5', b5', hlf, hl] | skip)
theorem side_ok (a b : Ty) (neg : Bool) (ha : right a = true) (hb : right b = true) : PCalls Try.prog 40 [emb a, emb b, .bool neg] (.bool (sb (if neg then 1 else 0) a b)) :=
  Ty.ind2 (p := fun a b => ∀ neg : Bool, right a = true → right b = true → PCalls Try.prog 40 [emb a, emb b, .bool neg] (.bool (sb (if neg then 1 else 0) a b))) (fun a b ih neg ha hb => side_step a b neg ha hb ih) a b neg ha hb

end Go.Proofs.Ytcpfjabjonpdaaa
