/- The law CompBack answers true, whatever the input. No condition. -/
import Derived.Test.YtajdipeebpmifaaPKa
import Derived.Test.YtajdipeebpmifaaPCa
import Derived.Test.YtajdipeebpmifaaPFa
set_option linter.unusedSimpArgs false
set_option linter.unusedVariables false
set_option maxHeartbeats 4000000
set_option maxRecDepth 100000
namespace Go.Proofs.Ytajdipeebpmifaa
open Go Go.Ab
attribute [local irreducible] PCalls ACalls CallK GoCall GoDCall GoIf GoGb GoDGb GoO GoD GoX GoDX GoG GoDG GoGv GoDGv Go ALoop

theorem chain2_iff {a b : Ty} (h : chainT [a, b] = true) : (∃ x : T, a = x.ty ∧ x.ok = true ∧ x.closed = true ∧ x.size ≤ 80) ∧ ∃ x : T, b = x.ty ∧ x.ok = true ∧ x.closed = true ∧ x.size ≤ 80 :=
  ⟨chain1_iff (chainT_mem h (by simp)), chain1_iff (chainT_mem h (by simp))⟩
theorem compBack_ok (a b : Ty) (l1 l2 : Int) : PCalls Try.prog 19 [emb a, emb b, .int .i64 l1, .int .i64 l2] (.bool true) := by
  cases hs : chainT [a, b] with
  | false =>
    refine pcalls_text C_ok Try.func19 rfl (by decide) (Nat.le_of_ble_eq_true rfl) (by decide) rfl fun ok H => ?_
    rw [Try.results19]
    have h := True.intro
    repeat' (first
     | (with_reducible first | refine goIf_b ?_ ?_ | refine goIf_n ?_ ?_ | refine goIf_d ?_ ?_ | refine goIf_split ?_ ?_ | refine goGb_b ?_ ?_ | refine goGb_n ?_ ?_ | refine goGb_d ?_ ?_ | refine goGb_split ?_ ?_ | refine goDGb_b ?_ ?_ | refine goDGb_n ?_ ?_ | refine goDGb_d ?_ ?_ | refine goDGb_split ?_ ?_) <;> intro h
     | ((first | refine goCall_norm ?_ | refine goDCall_norm ?_); simp only [AV.norm, AV.normL, W2, W2C, Go.Ab.W3, Int.reduceAdd, Int.reduceLT, Int.reduceToNat, Int.reduceBEq, Int.reduceBNe, Int.reduceLE, hs]; first | refine goCall_p (chain2_ok _ _) (.inl rfl) ?_ | refine goDCall_p (chain2_ok _ _) (.inl rfl) ?_)
     | refine goRound ?_ C_ok Try.f19.ntmps rfl (by decide)
     | skip) <;> simp only [h, ↓upd_eq, ↓envL_cons, Go.Ab.W0, Go.Ab.WD, Go.Ab.WE, if_true, if_false, reduceIte, Nat.reduceEqDiff, Nat.reduceAdd, Nat.reduceLT, Nat.reduceLeDiff, reduceCtorEq, Nat.reduceMul, implies_true, forall_eq_or_imp, forall_eq, Nat.reducePow, W1, W1C, Go.Ab.W3, Int.reduceAdd, Int.reduceLT, Int.reduceToNat, Int.reduceBEq, Int.reduceBNe, Int.reduceLE, hs, cutNormal_normal]
  | true =>
    obtain ⟨⟨x, rfl, hx, hcx, nx⟩, ⟨y, rfl, hy, hcy, ny⟩⟩ := chain2_iff hs
    have hw := labM_w l1
    have hw' := labM_w l2
    have hz : ((1048576 : Int) ≠ 0) = True := by simp
    obtain ⟨hl, _, _⟩ := labM_ok l1
    obtain ⟨hl', _, _⟩ := labM_ok l2
    have ra : right x.ty = true := by rw [T.right_ty]; exact hx
    have rb : right y.ty = true := by rw [T.right_ty]; exact hy
    have q1 := tCastC_ok x.ty y.ty (labM l1) false
    have q2 := tCastC_ok y.ty x.ty (labM l2) false
    have p := pbelow_ok x.ty y.ty
    rw [ra, rb, T.below_ty] at p
    simp only [Bool.and_self, Bool.true_and] at p
    rw [castE_co hx hy hl] at q1
    rw [castE_co hy hx hl', agreeT_comm y x] at q2
    cases hb : belowT x y with
    | false =>
      rw [hb] at p
      generalize castC x.ty y.ty (labM l1) false = k1 at q1
      generalize castC y.ty x.ty (labM l2) false = k2 at q2
      generalize (if agreeT x y = true then (0 : Int) else 4) = e at q1 q2
      generalize labM l1 = m1 at hw q1
      generalize labM l2 = m2 at hw' q2
      refine pcalls_text C_ok Try.func19 rfl (by decide) (Nat.le_of_ble_eq_true rfl) (by decide) rfl fun ok H => ?_
      rw [Try.results19]
      have h := True.intro
      repeat' (first
       | (with_reducible first | refine goIf_b ?_ ?_ | refine goIf_n ?_ ?_ | refine goIf_d ?_ ?_ | refine goIf_split ?_ ?_ | refine goGb_b ?_ ?_ | refine goGb_n ?_ ?_ | refine goGb_d ?_ ?_ | refine goGb_split ?_ ?_ | refine goDGb_b ?_ ?_ | refine goDGb_n ?_ ?_ | refine goDGb_d ?_ ?_ | refine goDGb_split ?_ ?_) <;> intro h
       | ((first | refine goCall_norm ?_ | refine goDCall_norm ?_); simp only [AV.norm, AV.normL, W2, W2C, Go.Ab.W3, Int.reduceAdd, Int.reduceLT, Int.reduceToNat, Int.reduceBEq, Int.reduceBNe, Int.reduceLE, hs, hw, hw', hz, beq_self_eq_true]; first | refine goCall_p (chain2_ok _ _) (.inl rfl) ?_ | refine goCall_p (p) (.inl rfl) ?_ | refine goCall_p (q1) (.inl rfl) ?_ | refine goCall_p (q2) (.inl rfl) ?_ | refine goCall_p (wakes22_ok) (.inl rfl) ?_ | refine goDCall_p (chain2_ok _ _) (.inl rfl) ?_ | refine goDCall_p (p) (.inl rfl) ?_ | refine goDCall_p (q1) (.inl rfl) ?_ | refine goDCall_p (q2) (.inl rfl) ?_ | refine goDCall_p (wakes22_ok) (.inl rfl) ?_)
       | refine goRound ?_ C_ok Try.f19.ntmps rfl (by decide)
       | skip) <;> simp only [h, ↓upd_eq, ↓envL_cons, Go.Ab.W0, Go.Ab.WD, Go.Ab.WE, if_true, if_false, reduceIte, Nat.reduceEqDiff, Nat.reduceAdd, Nat.reduceLT, Nat.reduceLeDiff, reduceCtorEq, Nat.reduceMul, implies_true, forall_eq_or_imp, forall_eq, Nat.reducePow, W1, W1C, Go.Ab.W3, Int.reduceAdd, Int.reduceLT, Int.reduceToNat, Int.reduceBEq, Int.reduceBNe, Int.reduceLE, hs, hw, hw', hz, beq_self_eq_true, cutNormal_normal]
    | true =>
      have ag := below_agreeT y x hcx hcy hb
      have ag' := agreeT_symm x y ag
      have k1 := (cast_okk hl x y ag false).1
      have k2 := (cast_okk hl' y x ag' false).1
      have f1 := (cast_fits (l := labM l1) x y ag false).1
      have f2 := (cast_fits (l := labM l2) y x ag' false).1
      obtain ⟨j1, k, j2, hf⟩ := back_law y x hb (labM l1) (labM l2) false false
      obtain ⟨k', j3, hk, fk⟩ := joinK_fits k2 k1 f2 f1
      rw [j2] at j3; cases j3
      have g1 := joinE_of k1 k2 j1 rfl
      have g2 := joinE_of k2 k1 j2 hk
      have q3 := cJoinC_ok (castT (labM l1) x y false).co (castT (labM l2) y x false).co
      have q4 := cJoinC_ok (castT (labM l2) y x false).co (castT (labM l1) x y false).co
      have q5 := cFitsC_ok k.co y.ty y.ty
      have q6 := fails_ok k.co
      rw [g1.1, g1.2] at q3
      rw [g2.1, g2.2] at q4
      rw [fitsC_co hk hy hy, fk] at q5
      rw [K.fails_co, hf] at q6
      rw [ag, if_pos rfl, castC_co hx hy hl ag] at q1
      rw [ag, if_pos rfl, castC_co hy hx hl' ag'] at q2
      rw [hb] at p
      simp only [K.co] at q3
      clear g1 g2 k1 k2 f1 f2 j1 j2
      generalize (castT (labM l1) x y false).co = c1 at *
      generalize (castT (labM l2) y x false).co = c2 at *
      generalize k.co = c3 at *
      generalize labM l1 = m1 at hw q1
      generalize labM l2 = m2 at hw' q2
      refine pcalls_text C_ok Try.func19 rfl (by decide) (Nat.le_of_ble_eq_true rfl) (by decide) rfl fun ok H => ?_
      rw [Try.results19]
      repeat' first
       | (apply goGb_op (fun _ _ => rfl); (· intro hb; (try simp only [Bool.and_eq_true, Bool.not_eq_true', Bool.or_eq_false_iff, Bool.not_eq_false'] at hb); simp only [hb, ↓upd_eq, ↓envL_cons, Go.Ab.W0, Go.Ab.WD, Go.Ab.WE, if_true, if_false, reduceIte, Nat.reduceEqDiff, Nat.reduceAdd, Nat.reduceLT, Nat.reduceLeDiff, reduceCtorEq, Nat.reduceMul, implies_true, forall_eq_or_imp, forall_eq, Nat.reducePow, W1, W1C, ite_tt, ite_tf, ite_and, ite_or, Bool.false_or, Bool.or_false, Bool.true_or, Bool.or_true, goG_tt, goG_tf, goG_ft, goG_ff, goDG_tt, goDG_tf, goDG_ft, goDG_ff, hs, hw, hw', hz, beq_self_eq_true]; exact ⟨rfl, trivial⟩))
       | (apply goGb_call (chain2_ok _ _); (· intro hb; (try simp only [Bool.and_eq_true, Bool.not_eq_true', Bool.or_eq_false_iff, Bool.not_eq_false'] at hb); simp only [hb, AV.norm, AV.normL, W2, W2C, ↓upd_eq, ↓envL_cons, Go.Ab.W0, Go.Ab.WD, Go.Ab.WE, if_true, if_false, reduceIte, Nat.reduceEqDiff, Nat.reduceAdd, Nat.reduceLT, Nat.reduceLeDiff, reduceCtorEq, Nat.reduceMul, implies_true, forall_eq_or_imp, forall_eq, Nat.reducePow, W1, W1C, ite_tt, ite_tf, ite_and, ite_or, Bool.false_or, Bool.or_false, Bool.true_or, Bool.or_true, goG_tt, goG_tf, goG_ft, goG_ff, goDG_tt, goDG_tf, goDG_ft, goDG_ff, hs, hw, hw', hz, beq_self_eq_true]; rfl))
       | (apply goGb_call (p); (· intro hb; (try simp only [Bool.and_eq_true, Bool.not_eq_true', Bool.or_eq_false_iff, Bool.not_eq_false'] at hb); simp only [hb, AV.norm, AV.normL, W2, W2C, ↓upd_eq, ↓envL_cons, Go.Ab.W0, Go.Ab.WD, Go.Ab.WE, if_true, if_false, reduceIte, Nat.reduceEqDiff, Nat.reduceAdd, Nat.reduceLT, Nat.reduceLeDiff, reduceCtorEq, Nat.reduceMul, implies_true, forall_eq_or_imp, forall_eq, Nat.reducePow, W1, W1C, ite_tt, ite_tf, ite_and, ite_or, Bool.false_or, Bool.or_false, Bool.true_or, Bool.or_true, goG_tt, goG_tf, goG_ft, goG_ff, goDG_tt, goDG_tf, goDG_ft, goDG_ff, hs, hw, hw', hz, beq_self_eq_true]; rfl))
       | (apply goGb_call (q1); (· intro hb; (try simp only [Bool.and_eq_true, Bool.not_eq_true', Bool.or_eq_false_iff, Bool.not_eq_false'] at hb); simp only [hb, AV.norm, AV.normL, W2, W2C, ↓upd_eq, ↓envL_cons, Go.Ab.W0, Go.Ab.WD, Go.Ab.WE, if_true, if_false, reduceIte, Nat.reduceEqDiff, Nat.reduceAdd, Nat.reduceLT, Nat.reduceLeDiff, reduceCtorEq, Nat.reduceMul, implies_true, forall_eq_or_imp, forall_eq, Nat.reducePow, W1, W1C, ite_tt, ite_tf, ite_and, ite_or, Bool.false_or, Bool.or_false, Bool.true_or, Bool.or_true, goG_tt, goG_tf, goG_ft, goG_ff, goDG_tt, goDG_tf, goDG_ft, goDG_ff, hs, hw, hw', hz, beq_self_eq_true]; rfl))
       | (apply goGb_call (q2); (· intro hb; (try simp only [Bool.and_eq_true, Bool.not_eq_true', Bool.or_eq_false_iff, Bool.not_eq_false'] at hb); simp only [hb, AV.norm, AV.normL, W2, W2C, ↓upd_eq, ↓envL_cons, Go.Ab.W0, Go.Ab.WD, Go.Ab.WE, if_true, if_false, reduceIte, Nat.reduceEqDiff, Nat.reduceAdd, Nat.reduceLT, Nat.reduceLeDiff, reduceCtorEq, Nat.reduceMul, implies_true, forall_eq_or_imp, forall_eq, Nat.reducePow, W1, W1C, ite_tt, ite_tf, ite_and, ite_or, Bool.false_or, Bool.or_false, Bool.true_or, Bool.or_true, goG_tt, goG_tf, goG_ft, goG_ff, goDG_tt, goDG_tf, goDG_ft, goDG_ff, hs, hw, hw', hz, beq_self_eq_true]; rfl))
       | (apply goGb_call (q3); (· intro hb; (try simp only [Bool.and_eq_true, Bool.not_eq_true', Bool.or_eq_false_iff, Bool.not_eq_false'] at hb); simp only [hb, AV.norm, AV.normL, W2, W2C, ↓upd_eq, ↓envL_cons, Go.Ab.W0, Go.Ab.WD, Go.Ab.WE, if_true, if_false, reduceIte, Nat.reduceEqDiff, Nat.reduceAdd, Nat.reduceLT, Nat.reduceLeDiff, reduceCtorEq, Nat.reduceMul, implies_true, forall_eq_or_imp, forall_eq, Nat.reducePow, W1, W1C, ite_tt, ite_tf, ite_and, ite_or, Bool.false_or, Bool.or_false, Bool.true_or, Bool.or_true, goG_tt, goG_tf, goG_ft, goG_ff, goDG_tt, goDG_tf, goDG_ft, goDG_ff, hs, hw, hw', hz, beq_self_eq_true]; rfl))
       | (apply goGb_call (q4); (· intro hb; (try simp only [Bool.and_eq_true, Bool.not_eq_true', Bool.or_eq_false_iff, Bool.not_eq_false'] at hb); simp only [hb, AV.norm, AV.normL, W2, W2C, ↓upd_eq, ↓envL_cons, Go.Ab.W0, Go.Ab.WD, Go.Ab.WE, if_true, if_false, reduceIte, Nat.reduceEqDiff, Nat.reduceAdd, Nat.reduceLT, Nat.reduceLeDiff, reduceCtorEq, Nat.reduceMul, implies_true, forall_eq_or_imp, forall_eq, Nat.reducePow, W1, W1C, ite_tt, ite_tf, ite_and, ite_or, Bool.false_or, Bool.or_false, Bool.true_or, Bool.or_true, goG_tt, goG_tf, goG_ft, goG_ff, goDG_tt, goDG_tf, goDG_ft, goDG_ff, hs, hw, hw', hz, beq_self_eq_true]; rfl))
       | (apply goGb_call (q5); (· intro hb; (try simp only [Bool.and_eq_true, Bool.not_eq_true', Bool.or_eq_false_iff, Bool.not_eq_false'] at hb); simp only [hb, AV.norm, AV.normL, W2, W2C, ↓upd_eq, ↓envL_cons, Go.Ab.W0, Go.Ab.WD, Go.Ab.WE, if_true, if_false, reduceIte, Nat.reduceEqDiff, Nat.reduceAdd, Nat.reduceLT, Nat.reduceLeDiff, reduceCtorEq, Nat.reduceMul, implies_true, forall_eq_or_imp, forall_eq, Nat.reducePow, W1, W1C, ite_tt, ite_tf, ite_and, ite_or, Bool.false_or, Bool.or_false, Bool.true_or, Bool.or_true, goG_tt, goG_tf, goG_ft, goG_ff, goDG_tt, goDG_tf, goDG_ft, goDG_ff, hs, hw, hw', hz, beq_self_eq_true]; rfl))
       | (apply goGb_call (q6); (· intro hb; (try simp only [Bool.and_eq_true, Bool.not_eq_true', Bool.or_eq_false_iff, Bool.not_eq_false'] at hb); simp only [hb, AV.norm, AV.normL, W2, W2C, ↓upd_eq, ↓envL_cons, Go.Ab.W0, Go.Ab.WD, Go.Ab.WE, if_true, if_false, reduceIte, Nat.reduceEqDiff, Nat.reduceAdd, Nat.reduceLT, Nat.reduceLeDiff, reduceCtorEq, Nat.reduceMul, implies_true, forall_eq_or_imp, forall_eq, Nat.reducePow, W1, W1C, ite_tt, ite_tf, ite_and, ite_or, Bool.false_or, Bool.or_false, Bool.true_or, Bool.or_true, goG_tt, goG_tf, goG_ft, goG_ff, goDG_tt, goDG_tf, goDG_ft, goDG_ff, hs, hw, hw', hz, beq_self_eq_true]; rfl))
       | (apply goGb_call (wakes22_ok); (· intro hb; (try simp only [Bool.and_eq_true, Bool.not_eq_true', Bool.or_eq_false_iff, Bool.not_eq_false'] at hb); simp only [hb, AV.norm, AV.normL, W2, W2C, ↓upd_eq, ↓envL_cons, Go.Ab.W0, Go.Ab.WD, Go.Ab.WE, if_true, if_false, reduceIte, Nat.reduceEqDiff, Nat.reduceAdd, Nat.reduceLT, Nat.reduceLeDiff, reduceCtorEq, Nat.reduceMul, implies_true, forall_eq_or_imp, forall_eq, Nat.reducePow, W1, W1C, ite_tt, ite_tf, ite_and, ite_or, Bool.false_or, Bool.or_false, Bool.true_or, Bool.or_true, goG_tt, goG_tf, goG_ft, goG_ff, goDG_tt, goDG_tf, goDG_ft, goDG_ff, hs, hw, hw', hz, beq_self_eq_true]; rfl))
       | (apply goDGb_op (fun _ _ => rfl); (· intro hb; (try simp only [Bool.and_eq_true, Bool.not_eq_true', Bool.or_eq_false_iff, Bool.not_eq_false'] at hb); simp only [hb, ↓upd_eq, ↓envL_cons, Go.Ab.W0, Go.Ab.WD, Go.Ab.WE, if_true, if_false, reduceIte, Nat.reduceEqDiff, Nat.reduceAdd, Nat.reduceLT, Nat.reduceLeDiff, reduceCtorEq, Nat.reduceMul, implies_true, forall_eq_or_imp, forall_eq, Nat.reducePow, W1, W1C, ite_tt, ite_tf, ite_and, ite_or, Bool.false_or, Bool.or_false, Bool.true_or, Bool.or_true, goG_tt, goG_tf, goG_ft, goG_ff, goDG_tt, goDG_tf, goDG_ft, goDG_ff, hs, hw, hw', hz, beq_self_eq_true]; exact ⟨rfl, trivial⟩))
       | (apply goDGb_call (chain2_ok _ _); (· intro hb; (try simp only [Bool.and_eq_true, Bool.not_eq_true', Bool.or_eq_false_iff, Bool.not_eq_false'] at hb); simp only [hb, AV.norm, AV.normL, W2, W2C, ↓upd_eq, ↓envL_cons, Go.Ab.W0, Go.Ab.WD, Go.Ab.WE, if_true, if_false, reduceIte, Nat.reduceEqDiff, Nat.reduceAdd, Nat.reduceLT, Nat.reduceLeDiff, reduceCtorEq, Nat.reduceMul, implies_true, forall_eq_or_imp, forall_eq, Nat.reducePow, W1, W1C, ite_tt, ite_tf, ite_and, ite_or, Bool.false_or, Bool.or_false, Bool.true_or, Bool.or_true, goG_tt, goG_tf, goG_ft, goG_ff, goDG_tt, goDG_tf, goDG_ft, goDG_ff, hs, hw, hw', hz, beq_self_eq_true]; rfl))
       | (apply goDGb_call (p); (· intro hb; (try simp only [Bool.and_eq_true, Bool.not_eq_true', Bool.or_eq_false_iff, Bool.not_eq_false'] at hb); simp only [hb, AV.norm, AV.normL, W2, W2C, ↓upd_eq, ↓envL_cons, Go.Ab.W0, Go.Ab.WD, Go.Ab.WE, if_true, if_false, reduceIte, Nat.reduceEqDiff, Nat.reduceAdd, Nat.reduceLT, Nat.reduceLeDiff, reduceCtorEq, Nat.reduceMul, implies_true, forall_eq_or_imp, forall_eq, Nat.reducePow, W1, W1C, ite_tt, ite_tf, ite_and, ite_or, Bool.false_or, Bool.or_false, Bool.true_or, Bool.or_true, goG_tt, goG_tf, goG_ft, goG_ff, goDG_tt, goDG_tf, goDG_ft, goDG_ff, hs, hw, hw', hz, beq_self_eq_true]; rfl))
       | (apply goDGb_call (q1); (· intro hb; (try simp only [Bool.and_eq_true, Bool.not_eq_true', Bool.or_eq_false_iff, Bool.not_eq_false'] at hb); simp only [hb, AV.norm, AV.normL, W2, W2C, ↓upd_eq, ↓envL_cons, Go.Ab.W0, Go.Ab.WD, Go.Ab.WE, if_true, if_false, reduceIte, Nat.reduceEqDiff, Nat.reduceAdd, Nat.reduceLT, Nat.reduceLeDiff, reduceCtorEq, Nat.reduceMul, implies_true, forall_eq_or_imp, forall_eq, Nat.reducePow, W1, W1C, ite_tt, ite_tf, ite_and, ite_or, Bool.false_or, Bool.or_false, Bool.true_or, Bool.or_true, goG_tt, goG_tf, goG_ft, goG_ff, goDG_tt, goDG_tf, goDG_ft, goDG_ff, hs, hw, hw', hz, beq_self_eq_true]; rfl))
       | (apply goDGb_call (q2); (· intro hb; (try simp only [Bool.and_eq_true, Bool.not_eq_true', Bool.or_eq_false_iff, Bool.not_eq_false'] at hb); simp only [hb, AV.norm, AV.normL, W2, W2C, ↓upd_eq, ↓envL_cons, Go.Ab.W0, Go.Ab.WD, Go.Ab.WE, if_true, if_false, reduceIte, Nat.reduceEqDiff, Nat.reduceAdd, Nat.reduceLT, Nat.reduceLeDiff, reduceCtorEq, Nat.reduceMul, implies_true, forall_eq_or_imp, forall_eq, Nat.reducePow, W1, W1C, ite_tt, ite_tf, ite_and, ite_or, Bool.false_or, Bool.or_false, Bool.true_or, Bool.or_true, goG_tt, goG_tf, goG_ft, goG_ff, goDG_tt, goDG_tf, goDG_ft, goDG_ff, hs, hw, hw', hz, beq_self_eq_true]; rfl))
       | (apply goDGb_call (q3); (· intro hb; (try simp only [Bool.and_eq_true, Bool.not_eq_true', Bool.or_eq_false_iff, Bool.not_eq_false'] at hb); simp only [hb, AV.norm, AV.normL, W2, W2C, ↓upd_eq, ↓envL_cons, Go.Ab.W0, Go.Ab.WD, Go.Ab.WE, if_true, if_false, reduceIte, Nat.reduceEqDiff, Nat.reduceAdd, Nat.reduceLT, Nat.reduceLeDiff, reduceCtorEq, Nat.reduceMul, implies_true, forall_eq_or_imp, forall_eq, Nat.reducePow, W1, W1C, ite_tt, ite_tf, ite_and, ite_or, Bool.false_or, Bool.or_false, Bool.true_or, Bool.or_true, goG_tt, goG_tf, goG_ft, goG_ff, goDG_tt, goDG_tf, goDG_ft, goDG_ff, hs, hw, hw', hz, beq_self_eq_true]; rfl))
       | (apply goDGb_call (q4); (· intro hb; (try simp only [Bool.and_eq_true, Bool.not_eq_true', Bool.or_eq_false_iff, Bool.not_eq_false'] at hb); simp only [hb, AV.norm, AV.normL, W2, W2C, ↓upd_eq, ↓envL_cons, Go.Ab.W0, Go.Ab.WD, Go.Ab.WE, if_true, if_false, reduceIte, Nat.reduceEqDiff, Nat.reduceAdd, Nat.reduceLT, Nat.reduceLeDiff, reduceCtorEq, Nat.reduceMul, implies_true, forall_eq_or_imp, forall_eq, Nat.reducePow, W1, W1C, ite_tt, ite_tf, ite_and, ite_or, Bool.false_or, Bool.or_false, Bool.true_or, Bool.or_true, goG_tt, goG_tf, goG_ft, goG_ff, goDG_tt, goDG_tf, goDG_ft, goDG_ff, hs, hw, hw', hz, beq_self_eq_true]; rfl))
       | (apply goDGb_call (q5); (· intro hb; (try simp only [Bool.and_eq_true, Bool.not_eq_true', Bool.or_eq_false_iff, Bool.not_eq_false'] at hb); simp only [hb, AV.norm, AV.normL, W2, W2C, ↓upd_eq, ↓envL_cons, Go.Ab.W0, Go.Ab.WD, Go.Ab.WE, if_true, if_false, reduceIte, Nat.reduceEqDiff, Nat.reduceAdd, Nat.reduceLT, Nat.reduceLeDiff, reduceCtorEq, Nat.reduceMul, implies_true, forall_eq_or_imp, forall_eq, Nat.reducePow, W1, W1C, ite_tt, ite_tf, ite_and, ite_or, Bool.false_or, Bool.or_false, Bool.true_or, Bool.or_true, goG_tt, goG_tf, goG_ft, goG_ff, goDG_tt, goDG_tf, goDG_ft, goDG_ff, hs, hw, hw', hz, beq_self_eq_true]; rfl))
       | (apply goDGb_call (q6); (· intro hb; (try simp only [Bool.and_eq_true, Bool.not_eq_true', Bool.or_eq_false_iff, Bool.not_eq_false'] at hb); simp only [hb, AV.norm, AV.normL, W2, W2C, ↓upd_eq, ↓envL_cons, Go.Ab.W0, Go.Ab.WD, Go.Ab.WE, if_true, if_false, reduceIte, Nat.reduceEqDiff, Nat.reduceAdd, Nat.reduceLT, Nat.reduceLeDiff, reduceCtorEq, Nat.reduceMul, implies_true, forall_eq_or_imp, forall_eq, Nat.reducePow, W1, W1C, ite_tt, ite_tf, ite_and, ite_or, Bool.false_or, Bool.or_false, Bool.true_or, Bool.or_true, goG_tt, goG_tf, goG_ft, goG_ff, goDG_tt, goDG_tf, goDG_ft, goDG_ff, hs, hw, hw', hz, beq_self_eq_true]; rfl))
       | (apply goDGb_call (wakes22_ok); (· intro hb; (try simp only [Bool.and_eq_true, Bool.not_eq_true', Bool.or_eq_false_iff, Bool.not_eq_false'] at hb); simp only [hb, AV.norm, AV.normL, W2, W2C, ↓upd_eq, ↓envL_cons, Go.Ab.W0, Go.Ab.WD, Go.Ab.WE, if_true, if_false, reduceIte, Nat.reduceEqDiff, Nat.reduceAdd, Nat.reduceLT, Nat.reduceLeDiff, reduceCtorEq, Nat.reduceMul, implies_true, forall_eq_or_imp, forall_eq, Nat.reducePow, W1, W1C, ite_tt, ite_tf, ite_and, ite_or, Bool.false_or, Bool.or_false, Bool.true_or, Bool.or_true, goG_tt, goG_tf, goG_ft, goG_ff, goDG_tt, goDG_tf, goDG_ft, goDG_ff, hs, hw, hw', hz, beq_self_eq_true]; rfl))
       | (with_reducible first | refine goIf_b ?_ ?_ | refine goIf_n ?_ ?_ | refine goIf_d ?_ ?_ | refine goIf_split ?_ ?_ | refine goGb_b ?_ ?_ | refine goGb_n ?_ ?_ | refine goGb_d ?_ ?_ | refine goGb_split ?_ ?_ | refine goDGb_b ?_ ?_ | refine goDGb_n ?_ ?_ | refine goDGb_d ?_ ?_ | refine goDGb_split ?_ ?_) <;> intro h <;> try simp only [h, ↓upd_eq, ↓envL_cons, Go.Ab.W0, Go.Ab.WD, Go.Ab.WE, if_true, if_false, reduceIte, Nat.reduceEqDiff, Nat.reduceAdd, Nat.reduceLT, Nat.reduceLeDiff, reduceCtorEq, Nat.reduceMul, implies_true, forall_eq_or_imp, forall_eq, Nat.reducePow, W1, W1C, ite_tt, ite_tf, ite_and, ite_or, Bool.false_or, Bool.or_false, Bool.true_or, Bool.or_true, goG_tt, goG_tf, goG_ft, goG_ff, goDG_tt, goDG_tf, goDG_ft, goDG_ff, hs, hw, hw', hz, beq_self_eq_true]
       | ((first | refine goCall_norm ?_ | refine goDCall_norm ?_); simp only [AV.norm, AV.normL, W2, W2C, hs, hw, hw', hz, beq_self_eq_true]; first | refine goCall_p (chain2_ok _ _) (.inl rfl) ?_ | refine goCall_p (p) (.inl rfl) ?_ | refine goCall_p (q1) (.inl rfl) ?_ | refine goCall_p (q2) (.inl rfl) ?_ | refine goCall_p (q3) (.inl rfl) ?_ | refine goCall_p (q4) (.inl rfl) ?_ | refine goCall_p (q5) (.inl rfl) ?_ | refine goCall_p (q6) (.inl rfl) ?_ | refine goCall_p (wakes22_ok) (.inl rfl) ?_ | refine goDCall_p (chain2_ok _ _) (.inl rfl) ?_ | refine goDCall_p (p) (.inl rfl) ?_ | refine goDCall_p (q1) (.inl rfl) ?_ | refine goDCall_p (q2) (.inl rfl) ?_ | refine goDCall_p (q3) (.inl rfl) ?_ | refine goDCall_p (q4) (.inl rfl) ?_ | refine goDCall_p (q5) (.inl rfl) ?_ | refine goDCall_p (q6) (.inl rfl) ?_ | refine goDCall_p (wakes22_ok) (.inl rfl) ?_)
       | simp only [↓upd_eq, ↓envL_cons, Go.Ab.W0, Go.Ab.WD, Go.Ab.WE, if_true, if_false, reduceIte, Nat.reduceEqDiff, Nat.reduceAdd, Nat.reduceLT, Nat.reduceLeDiff, reduceCtorEq, Nat.reduceMul, implies_true, forall_eq_or_imp, forall_eq, Nat.reducePow, W1, W1C, ite_tt, ite_tf, ite_and, ite_or, Bool.false_or, Bool.or_false, Bool.true_or, Bool.or_true, goG_tt, goG_tf, goG_ft, goG_ff, goDG_tt, goDG_tf, goDG_ft, goDG_ff, hs, hw, hw', hz, beq_self_eq_true]

end Go.Proofs.Ytajdipeebpmifaa
