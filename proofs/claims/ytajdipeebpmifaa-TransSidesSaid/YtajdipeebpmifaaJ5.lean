/- The law TransSides answers true, whatever the input. No condition. -/
import Derived.Test.YtajdipeebpmifaaPJa
import Derived.Test.YtajdipeebpmifaaPCa
import Derived.Test.YtajdipeebpmifaaPFb
set_option linter.unusedSimpArgs false
set_option linter.unusedVariables false
set_option maxHeartbeats 4000000
set_option maxRecDepth 100000
namespace Go.Proofs.Ytajdipeebpmifaa
open Go Go.Ab
attribute [local irreducible] PCalls ACalls CallK GoCall GoDCall GoIf GoGb GoDGb GoO GoD GoX GoDX GoG GoDG GoGv GoDGv Go ALoop

theorem transSides_ok (a b : Ty) (l : Int) (n : Bool) : PCalls Try.prog 15 [emb a, emb b, .int .i64 l, .bool n] (.bool true) := by
  cases hs : pairT a b with
  | false =>
    refine pcalls_text C_ok Try.func15 rfl (by decide) (Nat.le_of_ble_eq_true rfl) (by decide) rfl fun ok H => ?_
    rw [Try.results15]
    have h := True.intro
    repeat' (first
     | (with_reducible first | refine goIf_b ?_ ?_ | refine goIf_n ?_ ?_ | refine goIf_d ?_ ?_ | refine goIf_split ?_ ?_ | refine goGb_b ?_ ?_ | refine goGb_n ?_ ?_ | refine goGb_d ?_ ?_ | refine goGb_split ?_ ?_ | refine goDGb_b ?_ ?_ | refine goDGb_n ?_ ?_ | refine goDGb_d ?_ ?_ | refine goDGb_split ?_ ?_) <;> intro h
     | ((first | refine goCall_norm ?_ | refine goDCall_norm ?_); simp only [AV.norm, AV.normL, W2, W2C, Go.Ab.W3, Int.reduceAdd, Int.reduceLT, Int.reduceToNat, Int.reduceBEq, Int.reduceBNe, Int.reduceLE, hs]; first | refine goCall_p (pair21_ok _ _) (.inl rfl) ?_ | refine goDCall_p (pair21_ok _ _) (.inl rfl) ?_)
     | refine goRound ?_ C_ok Try.f15.ntmps rfl (by decide)
     | skip) <;> simp only [h, ↓upd_eq, ↓envL_cons, Go.Ab.W0, Go.Ab.WD, Go.Ab.WE, if_true, if_false, reduceIte, Nat.reduceEqDiff, Nat.reduceAdd, Nat.reduceLT, Nat.reduceLeDiff, reduceCtorEq, Nat.reduceMul, implies_true, forall_eq_or_imp, forall_eq, Nat.reducePow, W1, W1C, Go.Ab.W3, Int.reduceAdd, Int.reduceLT, Int.reduceToNat, Int.reduceBEq, Int.reduceBNe, Int.reduceLE, hs, cutNormal_normal]
  | true =>
    obtain ⟨⟨x, rfl, hx⟩, ⟨y, rfl, hy⟩, n1, n2⟩ := pairT_iff hs
    have hw := labM_w l
    have hz : ((1048576 : Int) ≠ 0) = True := by simp
    obtain ⟨hl, _, _⟩ := labM_ok l
    have ra : right x.ty = true := by rw [T.right_ty]; exact hx
    have rb : right y.ty = true := by rw [T.right_ty]; exact hy
    have q := tCastC_ok x.ty y.ty (labM l) n
    cases hg : agreeT x y with
    | false =>
      have e1 : castE x.ty y.ty (labM l) = 4 := by rw [castE_co hx hy hl, hg]; rfl
      have e2 : castC x.ty y.ty (labM l) n = .mk 0 0 0 false [] := castC_no (by rw [e1]; decide)
      rw [e1, e2] at q
      generalize labM l = m at hw q
      refine pcalls_text C_ok Try.func15 rfl (by decide) (Nat.le_of_ble_eq_true rfl) (by decide) rfl fun ok H => ?_
      rw [Try.results15]
      have h := True.intro
      repeat' (first
       | (with_reducible first | refine goIf_b ?_ ?_ | refine goIf_n ?_ ?_ | refine goIf_d ?_ ?_ | refine goIf_split ?_ ?_ | refine goGb_b ?_ ?_ | refine goGb_n ?_ ?_ | refine goGb_d ?_ ?_ | refine goGb_split ?_ ?_ | refine goDGb_b ?_ ?_ | refine goDGb_n ?_ ?_ | refine goDGb_d ?_ ?_ | refine goDGb_split ?_ ?_) <;> intro h
       | ((first | refine goCall_norm ?_ | refine goDCall_norm ?_); simp only [AV.norm, AV.normL, W2, W2C, Go.Ab.W3, Int.reduceAdd, Int.reduceLT, Int.reduceToNat, Int.reduceBEq, Int.reduceBNe, Int.reduceLE, hs, hw, hz]; first | refine goCall_p (pair21_ok _ _) (.inl rfl) ?_ | refine goCall_p (q) (.inl rfl) ?_ | refine goCall_p (wakes21_ok) (.inl rfl) ?_ | refine goDCall_p (pair21_ok _ _) (.inl rfl) ?_ | refine goDCall_p (q) (.inl rfl) ?_ | refine goDCall_p (wakes21_ok) (.inl rfl) ?_)
       | refine goRound ?_ C_ok Try.f15.ntmps rfl (by decide)
       | skip) <;> simp only [h, ↓upd_eq, ↓envL_cons, Go.Ab.W0, Go.Ab.WD, Go.Ab.WE, if_true, if_false, reduceIte, Nat.reduceEqDiff, Nat.reduceAdd, Nat.reduceLT, Nat.reduceLeDiff, reduceCtorEq, Nat.reduceMul, implies_true, forall_eq_or_imp, forall_eq, Nat.reducePow, W1, W1C, Go.Ab.W3, Int.reduceAdd, Int.reduceLT, Int.reduceToNat, Int.reduceBEq, Int.reduceBNe, Int.reduceLE, hs, hw, hz, cutNormal_normal]
    | true =>
      have e1 : castE x.ty y.ty (labM l) = 0 := by rw [castE_co hx hy hl, hg]; rfl
      have e2 := castC_co (n := n) hx hy hl hg
      have lb := (cast_lab (l := labM l) x y hg n).1
      obtain ⟨s0, s1, _, _⟩ := cast_sides (l := labM l) x y hg hx hy n
      have s2 := sb_both x.ty y.ty ra rb
      have n3 : (castT (labM l) x y n).size ≤ 1000000 := by
        have := (cast_s (l := labM l) x y hg n).1
        rw [T.nodes_ty] at n1 n2; omega
      have sd := sides_ok (labM l) n _ n3
      unfold SidesOK at sd
      rw [lb] at sd
      have b1 := cnt_le n (castT (labM l) x y n)
      have b2 := cnt_le (!n) (castT (labM l) x y n)
      rw [e1, e2] at q
      generalize (castT (labM l) x y n).cnt n = c0 at *
      generalize (castT (labM l) x y n).cnt (!n) = c1 at *
      have w1 : IntKind.wrap .i64 ((c0 : Int) + c1) = ((c0 + c1 : Nat) : Int) := wrap_nat2 (by omega)
      generalize (castT (labM l) x y n).co = k at q sd
      generalize labM l = m at hw q sd
      have p0 := spos_ok x.ty y.ty
      have p1 := sneg_ok x.ty y.ty
      have p2 := ssub_ok x.ty y.ty
      rw [ra, rb] at p0 p1 p2
      simp only [Bool.true_and] at p0 p1 p2
      have z0 : sb 0 x.ty y.ty = true → ((c0 : Int) == 0) = true := fun h => by simp [s0 h]
      have z1 : sb 1 x.ty y.ty = true → ((c1 : Int) == 0) = true := fun h => by simp [s1 h]
      have z2 : sb 2 x.ty y.ty = true → (((c0 + c1 : Nat) : Int) == 0) = true := fun h => by
        rw [s2, Bool.and_eq_true] at h; simp [s0 h.1, s1 h.2]
      generalize sb 0 x.ty y.ty = g0 at *
      generalize sb 1 x.ty y.ty = g1 at *
      generalize sb 2 x.ty y.ty = g2 at *
      have f0 : (!g0 || ((c0 : Int) == 0)) = true := by cases g0 with | false => rfl | true => exact z0 rfl
      have f1 : (!g1 || ((c1 : Int) == 0)) = true := by cases g1 with | false => rfl | true => exact z1 rfl
      have f2 : (!g2 || (((c0 + c1 : Nat) : Int) == 0)) = true := by cases g2 with | false => rfl | true => exact z2 rfl
      refine pcalls_text C_ok Try.func15 rfl (by decide) (Nat.le_of_ble_eq_true rfl) (by decide) rfl fun ok H => ?_
      rw [Try.results15]
      repeat' first
       | (apply goGb_op (fun _ _ => rfl); (· intro hb; (try simp only [Bool.and_eq_true, Bool.not_eq_true', Bool.or_eq_false_iff, Bool.not_eq_false'] at hb); simp only [hb, ↓upd_eq, ↓envL_cons, Go.Ab.W0, Go.Ab.WD, Go.Ab.WE, if_true, if_false, reduceIte, Nat.reduceEqDiff, Nat.reduceAdd, Nat.reduceLT, Nat.reduceLeDiff, reduceCtorEq, Nat.reduceMul, implies_true, forall_eq_or_imp, forall_eq, Nat.reducePow, W1, W1C, ite_tt, ite_tf, ite_and, ite_or, Bool.false_or, Bool.or_false, Bool.true_or, Bool.or_true, goG_tt, goG_tf, goG_ft, goG_ff, goDG_tt, goDG_tf, goDG_ft, goDG_ff, hs, hw, hz, w1, f0, f1, f2, beq_self_eq_true, bne_self_eq_false]; exact ⟨rfl, trivial⟩))
       | (apply goGb_call (pair21_ok _ _); (· intro hb; (try simp only [Bool.and_eq_true, Bool.not_eq_true', Bool.or_eq_false_iff, Bool.not_eq_false'] at hb); simp only [hb, AV.norm, AV.normL, W2, W2C, ↓upd_eq, ↓envL_cons, Go.Ab.W0, Go.Ab.WD, Go.Ab.WE, if_true, if_false, reduceIte, Nat.reduceEqDiff, Nat.reduceAdd, Nat.reduceLT, Nat.reduceLeDiff, reduceCtorEq, Nat.reduceMul, implies_true, forall_eq_or_imp, forall_eq, Nat.reducePow, W1, W1C, ite_tt, ite_tf, ite_and, ite_or, Bool.false_or, Bool.or_false, Bool.true_or, Bool.or_true, goG_tt, goG_tf, goG_ft, goG_ff, goDG_tt, goDG_tf, goDG_ft, goDG_ff, hs, hw, hz, w1, f0, f1, f2, beq_self_eq_true, bne_self_eq_false]; rfl))
       | (apply goGb_call (q); (· intro hb; (try simp only [Bool.and_eq_true, Bool.not_eq_true', Bool.or_eq_false_iff, Bool.not_eq_false'] at hb); simp only [hb, AV.norm, AV.normL, W2, W2C, ↓upd_eq, ↓envL_cons, Go.Ab.W0, Go.Ab.WD, Go.Ab.WE, if_true, if_false, reduceIte, Nat.reduceEqDiff, Nat.reduceAdd, Nat.reduceLT, Nat.reduceLeDiff, reduceCtorEq, Nat.reduceMul, implies_true, forall_eq_or_imp, forall_eq, Nat.reducePow, W1, W1C, ite_tt, ite_tf, ite_and, ite_or, Bool.false_or, Bool.or_false, Bool.true_or, Bool.or_true, goG_tt, goG_tf, goG_ft, goG_ff, goDG_tt, goDG_tf, goDG_ft, goDG_ff, hs, hw, hz, w1, f0, f1, f2, beq_self_eq_true, bne_self_eq_false]; rfl))
       | (apply goGb_call (sd); (· intro hb; (try simp only [Bool.and_eq_true, Bool.not_eq_true', Bool.or_eq_false_iff, Bool.not_eq_false'] at hb); simp only [hb, AV.norm, AV.normL, W2, W2C, ↓upd_eq, ↓envL_cons, Go.Ab.W0, Go.Ab.WD, Go.Ab.WE, if_true, if_false, reduceIte, Nat.reduceEqDiff, Nat.reduceAdd, Nat.reduceLT, Nat.reduceLeDiff, reduceCtorEq, Nat.reduceMul, implies_true, forall_eq_or_imp, forall_eq, Nat.reducePow, W1, W1C, ite_tt, ite_tf, ite_and, ite_or, Bool.false_or, Bool.or_false, Bool.true_or, Bool.or_true, goG_tt, goG_tf, goG_ft, goG_ff, goDG_tt, goDG_tf, goDG_ft, goDG_ff, hs, hw, hz, w1, f0, f1, f2, beq_self_eq_true, bne_self_eq_false]; rfl))
       | (apply goGb_call (p0); (· intro hb; (try simp only [Bool.and_eq_true, Bool.not_eq_true', Bool.or_eq_false_iff, Bool.not_eq_false'] at hb); simp only [hb, AV.norm, AV.normL, W2, W2C, ↓upd_eq, ↓envL_cons, Go.Ab.W0, Go.Ab.WD, Go.Ab.WE, if_true, if_false, reduceIte, Nat.reduceEqDiff, Nat.reduceAdd, Nat.reduceLT, Nat.reduceLeDiff, reduceCtorEq, Nat.reduceMul, implies_true, forall_eq_or_imp, forall_eq, Nat.reducePow, W1, W1C, ite_tt, ite_tf, ite_and, ite_or, Bool.false_or, Bool.or_false, Bool.true_or, Bool.or_true, goG_tt, goG_tf, goG_ft, goG_ff, goDG_tt, goDG_tf, goDG_ft, goDG_ff, hs, hw, hz, w1, f0, f1, f2, beq_self_eq_true, bne_self_eq_false]; rfl))
       | (apply goGb_call (p1); (· intro hb; (try simp only [Bool.and_eq_true, Bool.not_eq_true', Bool.or_eq_false_iff, Bool.not_eq_false'] at hb); simp only [hb, AV.norm, AV.normL, W2, W2C, ↓upd_eq, ↓envL_cons, Go.Ab.W0, Go.Ab.WD, Go.Ab.WE, if_true, if_false, reduceIte, Nat.reduceEqDiff, Nat.reduceAdd, Nat.reduceLT, Nat.reduceLeDiff, reduceCtorEq, Nat.reduceMul, implies_true, forall_eq_or_imp, forall_eq, Nat.reducePow, W1, W1C, ite_tt, ite_tf, ite_and, ite_or, Bool.false_or, Bool.or_false, Bool.true_or, Bool.or_true, goG_tt, goG_tf, goG_ft, goG_ff, goDG_tt, goDG_tf, goDG_ft, goDG_ff, hs, hw, hz, w1, f0, f1, f2, beq_self_eq_true, bne_self_eq_false]; rfl))
       | (apply goGb_call (p2); (· intro hb; (try simp only [Bool.and_eq_true, Bool.not_eq_true', Bool.or_eq_false_iff, Bool.not_eq_false'] at hb); simp only [hb, AV.norm, AV.normL, W2, W2C, ↓upd_eq, ↓envL_cons, Go.Ab.W0, Go.Ab.WD, Go.Ab.WE, if_true, if_false, reduceIte, Nat.reduceEqDiff, Nat.reduceAdd, Nat.reduceLT, Nat.reduceLeDiff, reduceCtorEq, Nat.reduceMul, implies_true, forall_eq_or_imp, forall_eq, Nat.reducePow, W1, W1C, ite_tt, ite_tf, ite_and, ite_or, Bool.false_or, Bool.or_false, Bool.true_or, Bool.or_true, goG_tt, goG_tf, goG_ft, goG_ff, goDG_tt, goDG_tf, goDG_ft, goDG_ff, hs, hw, hz, w1, f0, f1, f2, beq_self_eq_true, bne_self_eq_false]; rfl))
       | (apply goGb_call (wakes21_ok); (· intro hb; (try simp only [Bool.and_eq_true, Bool.not_eq_true', Bool.or_eq_false_iff, Bool.not_eq_false'] at hb); simp only [hb, AV.norm, AV.normL, W2, W2C, ↓upd_eq, ↓envL_cons, Go.Ab.W0, Go.Ab.WD, Go.Ab.WE, if_true, if_false, reduceIte, Nat.reduceEqDiff, Nat.reduceAdd, Nat.reduceLT, Nat.reduceLeDiff, reduceCtorEq, Nat.reduceMul, implies_true, forall_eq_or_imp, forall_eq, Nat.reducePow, W1, W1C, ite_tt, ite_tf, ite_and, ite_or, Bool.false_or, Bool.or_false, Bool.true_or, Bool.or_true, goG_tt, goG_tf, goG_ft, goG_ff, goDG_tt, goDG_tf, goDG_ft, goDG_ff, hs, hw, hz, w1, f0, f1, f2, beq_self_eq_true, bne_self_eq_false]; rfl))
       | (apply goDGb_op (fun _ _ => rfl); (· intro hb; (try simp only [Bool.and_eq_true, Bool.not_eq_true', Bool.or_eq_false_iff, Bool.not_eq_false'] at hb); simp only [hb, ↓upd_eq, ↓envL_cons, Go.Ab.W0, Go.Ab.WD, Go.Ab.WE, if_true, if_false, reduceIte, Nat.reduceEqDiff, Nat.reduceAdd, Nat.reduceLT, Nat.reduceLeDiff, reduceCtorEq, Nat.reduceMul, implies_true, forall_eq_or_imp, forall_eq, Nat.reducePow, W1, W1C, ite_tt, ite_tf, ite_and, ite_or, Bool.false_or, Bool.or_false, Bool.true_or, Bool.or_true, goG_tt, goG_tf, goG_ft, goG_ff, goDG_tt, goDG_tf, goDG_ft, goDG_ff, hs, hw, hz, w1, f0, f1, f2, beq_self_eq_true, bne_self_eq_false]; exact ⟨rfl, trivial⟩))
       | (apply goDGb_call (pair21_ok _ _); (· intro hb; (try simp only [Bool.and_eq_true, Bool.not_eq_true', Bool.or_eq_false_iff, Bool.not_eq_false'] at hb); simp only [hb, AV.norm, AV.normL, W2, W2C, ↓upd_eq, ↓envL_cons, Go.Ab.W0, Go.Ab.WD, Go.Ab.WE, if_true, if_false, reduceIte, Nat.reduceEqDiff, Nat.reduceAdd, Nat.reduceLT, Nat.reduceLeDiff, reduceCtorEq, Nat.reduceMul, implies_true, forall_eq_or_imp, forall_eq, Nat.reducePow, W1, W1C, ite_tt, ite_tf, ite_and, ite_or, Bool.false_or, Bool.or_false, Bool.true_or, Bool.or_true, goG_tt, goG_tf, goG_ft, goG_ff, goDG_tt, goDG_tf, goDG_ft, goDG_ff, hs, hw, hz, w1, f0, f1, f2, beq_self_eq_true, bne_self_eq_false]; rfl))
       | (apply goDGb_call (q); (· intro hb; (try simp only [Bool.and_eq_true, Bool.not_eq_true', Bool.or_eq_false_iff, Bool.not_eq_false'] at hb); simp only [hb, AV.norm, AV.normL, W2, W2C, ↓upd_eq, ↓envL_cons, Go.Ab.W0, Go.Ab.WD, Go.Ab.WE, if_true, if_false, reduceIte, Nat.reduceEqDiff, Nat.reduceAdd, Nat.reduceLT, Nat.reduceLeDiff, reduceCtorEq, Nat.reduceMul, implies_true, forall_eq_or_imp, forall_eq, Nat.reducePow, W1, W1C, ite_tt, ite_tf, ite_and, ite_or, Bool.false_or, Bool.or_false, Bool.true_or, Bool.or_true, goG_tt, goG_tf, goG_ft, goG_ff, goDG_tt, goDG_tf, goDG_ft, goDG_ff, hs, hw, hz, w1, f0, f1, f2, beq_self_eq_true, bne_self_eq_false]; rfl))
       | (apply goDGb_call (sd); (· intro hb; (try simp only [Bool.and_eq_true, Bool.not_eq_true', Bool.or_eq_false_iff, Bool.not_eq_false'] at hb); simp only [hb, AV.norm, AV.normL, W2, W2C, ↓upd_eq, ↓envL_cons, Go.Ab.W0, Go.Ab.WD, Go.Ab.WE, if_true, if_false, reduceIte, Nat.reduceEqDiff, Nat.reduceAdd, Nat.reduceLT, Nat.reduceLeDiff, reduceCtorEq, Nat.reduceMul, implies_true, forall_eq_or_imp, forall_eq, Nat.reducePow, W1, W1C, ite_tt, ite_tf, ite_and, ite_or, Bool.false_or, Bool.or_false, Bool.true_or, Bool.or_true, goG_tt, goG_tf, goG_ft, goG_ff, goDG_tt, goDG_tf, goDG_ft, goDG_ff, hs, hw, hz, w1, f0, f1, f2, beq_self_eq_true, bne_self_eq_false]; rfl))
       | (apply goDGb_call (p0); (· intro hb; (try simp only [Bool.and_eq_true, Bool.not_eq_true', Bool.or_eq_false_iff, Bool.not_eq_false'] at hb); simp only [hb, AV.norm, AV.normL, W2, W2C, ↓upd_eq, ↓envL_cons, Go.Ab.W0, Go.Ab.WD, Go.Ab.WE, if_true, if_false, reduceIte, Nat.reduceEqDiff, Nat.reduceAdd, Nat.reduceLT, Nat.reduceLeDiff, reduceCtorEq, Nat.reduceMul, implies_true, forall_eq_or_imp, forall_eq, Nat.reducePow, W1, W1C, ite_tt, ite_tf, ite_and, ite_or, Bool.false_or, Bool.or_false, Bool.true_or, Bool.or_true, goG_tt, goG_tf, goG_ft, goG_ff, goDG_tt, goDG_tf, goDG_ft, goDG_ff, hs, hw, hz, w1, f0, f1, f2, beq_self_eq_true, bne_self_eq_false]; rfl))
       | (apply goDGb_call (p1); (· intro hb; (try simp only [Bool.and_eq_true, Bool.not_eq_true', Bool.or_eq_false_iff, Bool.not_eq_false'] at hb); simp only [hb, AV.norm, AV.normL, W2, W2C, ↓upd_eq, ↓envL_cons, Go.Ab.W0, Go.Ab.WD, Go.Ab.WE, if_true, if_false, reduceIte, Nat.reduceEqDiff, Nat.reduceAdd, Nat.reduceLT, Nat.reduceLeDiff, reduceCtorEq, Nat.reduceMul, implies_true, forall_eq_or_imp, forall_eq, Nat.reducePow, W1, W1C, ite_tt, ite_tf, ite_and, ite_or, Bool.false_or, Bool.or_false, Bool.true_or, Bool.or_true, goG_tt, goG_tf, goG_ft, goG_ff, goDG_tt, goDG_tf, goDG_ft, goDG_ff, hs, hw, hz, w1, f0, f1, f2, beq_self_eq_true, bne_self_eq_false]; rfl))
       | (apply goDGb_call (p2); (· intro hb; (try simp only [Bool.and_eq_true, Bool.not_eq_true', Bool.or_eq_false_iff, Bool.not_eq_false'] at hb); simp only [hb, AV.norm, AV.normL, W2, W2C, ↓upd_eq, ↓envL_cons, Go.Ab.W0, Go.Ab.WD, Go.Ab.WE, if_true, if_false, reduceIte, Nat.reduceEqDiff, Nat.reduceAdd, Nat.reduceLT, Nat.reduceLeDiff, reduceCtorEq, Nat.reduceMul, implies_true, forall_eq_or_imp, forall_eq, Nat.reducePow, W1, W1C, ite_tt, ite_tf, ite_and, ite_or, Bool.false_or, Bool.or_false, Bool.true_or, Bool.or_true, goG_tt, goG_tf, goG_ft, goG_ff, goDG_tt, goDG_tf, goDG_ft, goDG_ff, hs, hw, hz, w1, f0, f1, f2, beq_self_eq_true, bne_self_eq_false]; rfl))
       | (apply goDGb_call (wakes21_ok); (· intro hb; (try simp only [Bool.and_eq_true, Bool.not_eq_true', Bool.or_eq_false_iff, Bool.not_eq_false'] at hb); simp only [hb, AV.norm, AV.normL, W2, W2C, ↓upd_eq, ↓envL_cons, Go.Ab.W0, Go.Ab.WD, Go.Ab.WE, if_true, if_false, reduceIte, Nat.reduceEqDiff, Nat.reduceAdd, Nat.reduceLT, Nat.reduceLeDiff, reduceCtorEq, Nat.reduceMul, implies_true, forall_eq_or_imp, forall_eq, Nat.reducePow, W1, W1C, ite_tt, ite_tf, ite_and, ite_or, Bool.false_or, Bool.or_false, Bool.true_or, Bool.or_true, goG_tt, goG_tf, goG_ft, goG_ff, goDG_tt, goDG_tf, goDG_ft, goDG_ff, hs, hw, hz, w1, f0, f1, f2, beq_self_eq_true, bne_self_eq_false]; rfl))
       | (with_reducible first | refine goIf_b ?_ ?_ | refine goIf_n ?_ ?_ | refine goIf_d ?_ ?_ | refine goIf_split ?_ ?_ | refine goGb_b ?_ ?_ | refine goGb_n ?_ ?_ | refine goGb_d ?_ ?_ | refine goGb_split ?_ ?_ | refine goDGb_b ?_ ?_ | refine goDGb_n ?_ ?_ | refine goDGb_d ?_ ?_ | refine goDGb_split ?_ ?_) <;> intro h <;> try simp only [h, ↓upd_eq, ↓envL_cons, Go.Ab.W0, Go.Ab.WD, Go.Ab.WE, if_true, if_false, reduceIte, Nat.reduceEqDiff, Nat.reduceAdd, Nat.reduceLT, Nat.reduceLeDiff, reduceCtorEq, Nat.reduceMul, implies_true, forall_eq_or_imp, forall_eq, Nat.reducePow, W1, W1C, ite_tt, ite_tf, ite_and, ite_or, Bool.false_or, Bool.or_false, Bool.true_or, Bool.or_true, goG_tt, goG_tf, goG_ft, goG_ff, goDG_tt, goDG_tf, goDG_ft, goDG_ff, hs, hw, hz, w1, f0, f1, f2, beq_self_eq_true, bne_self_eq_false]
       | ((first | refine goCall_norm ?_ | refine goDCall_norm ?_); simp only [AV.norm, AV.normL, W2, W2C, hs, hw, hz, w1, f0, f1, f2, beq_self_eq_true, bne_self_eq_false]; first | refine goCall_p (pair21_ok _ _) (.inl rfl) ?_ | refine goCall_p (q) (.inl rfl) ?_ | refine goCall_p (sd) (.inl rfl) ?_ | refine goCall_p (p0) (.inl rfl) ?_ | refine goCall_p (p1) (.inl rfl) ?_ | refine goCall_p (p2) (.inl rfl) ?_ | refine goCall_p (wakes21_ok) (.inl rfl) ?_ | refine goDCall_p (pair21_ok _ _) (.inl rfl) ?_ | refine goDCall_p (q) (.inl rfl) ?_ | refine goDCall_p (sd) (.inl rfl) ?_ | refine goDCall_p (p0) (.inl rfl) ?_ | refine goDCall_p (p1) (.inl rfl) ?_ | refine goDCall_p (p2) (.inl rfl) ?_ | refine goDCall_p (wakes21_ok) (.inl rfl) ?_)
       | simp only [↓upd_eq, ↓envL_cons, Go.Ab.W0, Go.Ab.WD, Go.Ab.WE, if_true, if_false, reduceIte, Nat.reduceEqDiff, Nat.reduceAdd, Nat.reduceLT, Nat.reduceLeDiff, reduceCtorEq, Nat.reduceMul, implies_true, forall_eq_or_imp, forall_eq, Nat.reducePow, W1, W1C, ite_tt, ite_tf, ite_and, ite_or, Bool.false_or, Bool.or_false, Bool.true_or, Bool.or_true, goG_tt, goG_tf, goG_ft, goG_ff, goDG_tt, goDG_tf, goDG_ft, goDG_ff, hs, hw, hz, w1, f0, f1, f2, beq_self_eq_true, bne_self_eq_false]

end Go.Proofs.Ytajdipeebpmifaa
