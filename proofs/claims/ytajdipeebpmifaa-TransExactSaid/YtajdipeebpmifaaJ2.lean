/- The law TransExact answers true, whatever the input. No condition. -/
import Derived.Test.YtajdipeebpmifaaJ1
import Derived.Test.YtajdipeebpmifaaPFa
set_option linter.unusedSimpArgs false
set_option linter.unusedVariables false
set_option maxHeartbeats 4000000
set_option maxRecDepth 100000
namespace Go.Proofs.Ytajdipeebpmifaa
open Go Go.Ab
attribute [local irreducible] PCalls ACalls CallK GoCall GoDCall GoIf GoGb GoDGb GoO GoD GoX GoDX GoG GoDG GoGv GoDGv Go ALoop

theorem transExact_ok (a b : Ty) (l : Int) (n : Bool) : PCalls Try.prog 10 [emb a, emb b, .int .i64 l, .bool n] (.bool true) := by
  cases hs : small [a, b] with
  | false =>
    refine pcalls_text C_ok Try.func10 rfl (by decide) (Nat.le_of_ble_eq_true rfl) (by decide) rfl fun ok H => ?_
    rw [Try.results10]
    have h := True.intro
    repeat' (first
     | (with_reducible first | refine goIf_b ?_ ?_ | refine goIf_n ?_ ?_ | refine goIf_d ?_ ?_ | refine goIf_split ?_ ?_ | refine goGb_b ?_ ?_ | refine goGb_n ?_ ?_ | refine goGb_d ?_ ?_ | refine goGb_split ?_ ?_ | refine goDGb_b ?_ ?_ | refine goDGb_n ?_ ?_ | refine goDGb_d ?_ ?_ | refine goDGb_split ?_ ?_) <;> intro h
     | ((first | refine goCall_norm ?_ | refine goDCall_norm ?_); simp only [AV.norm, AV.normL, W2, W2C, Go.Ab.W3, Int.reduceAdd, Int.reduceLT, Int.reduceToNat, Int.reduceBEq, Int.reduceBNe, Int.reduceLE, hs]; first | refine goCall_p (small2_ok _ _) (.inl rfl) ?_ | refine goDCall_p (small2_ok _ _) (.inl rfl) ?_)
     | refine go_draw (id := 8) C_ok mixed 0 Try.f10.ntmps rfl (by kernel_rfl) (by decide) ?_
     | refine goRound ?_ C_ok Try.f10.ntmps rfl (by decide)
     | skip) <;> simp only [h, ↓upd_eq, ↓envL_cons, Go.Ab.W0, Go.Ab.WD, Go.Ab.WE, if_true, if_false, reduceIte, Nat.reduceEqDiff, Nat.reduceAdd, Nat.reduceLT, Nat.reduceLeDiff, reduceCtorEq, Nat.reduceMul, implies_true, forall_eq_or_imp, forall_eq, Nat.reducePow, W1, W1C, Go.Ab.W3, Int.reduceAdd, Int.reduceLT, Int.reduceToNat, Int.reduceBEq, Int.reduceBNe, Int.reduceLE, hs, cutNormal_normal]
  | true =>
    have q := tCastC_ok a b l n
    have bad : (right a && right b && labelOK l) = false → castE a b l = 1 ∧ castC a b l n = .mk 0 0 0 false [] := fun h => by
      have e : castE a b l = 1 := by rw [castE, h]; rfl
      exact ⟨e, castC_no (by rw [e]; decide)⟩
    cases ha : right a with
    | false =>
      obtain ⟨e1, e2⟩ := bad (by rw [ha]; rfl)
      rw [e1, e2] at q
      refine pcalls_text C_ok Try.func10 rfl (by decide) (Nat.le_of_ble_eq_true rfl) (by decide) rfl fun ok H => ?_
      rw [Try.results10]
      have h := True.intro
      repeat' (first
       | (with_reducible first | refine goIf_b ?_ ?_ | refine goIf_n ?_ ?_ | refine goIf_d ?_ ?_ | refine goIf_split ?_ ?_ | refine goGb_b ?_ ?_ | refine goGb_n ?_ ?_ | refine goGb_d ?_ ?_ | refine goGb_split ?_ ?_ | refine goDGb_b ?_ ?_ | refine goDGb_n ?_ ?_ | refine goDGb_d ?_ ?_ | refine goDGb_split ?_ ?_) <;> intro h
       | ((first | refine goCall_norm ?_ | refine goDCall_norm ?_); simp only [AV.norm, AV.normL, W2, W2C, Go.Ab.W3, Int.reduceAdd, Int.reduceLT, Int.reduceToNat, Int.reduceBEq, Int.reduceBNe, Int.reduceLE, hs, ha]; first | refine goCall_p (small2_ok _ _) (.inl rfl) ?_ | refine goCall_p (rright_ok _) (.inl rfl) ?_ | refine goCall_p (q) (.inl rfl) ?_ | refine goCall_p (wakes21_ok) (.inl rfl) ?_ | refine goDCall_p (small2_ok _ _) (.inl rfl) ?_ | refine goDCall_p (rright_ok _) (.inl rfl) ?_ | refine goDCall_p (q) (.inl rfl) ?_ | refine goDCall_p (wakes21_ok) (.inl rfl) ?_)
       | refine go_draw (id := 8) C_ok mixed 0 Try.f10.ntmps rfl (by kernel_rfl) (by decide) ?_
       | refine goRound ?_ C_ok Try.f10.ntmps rfl (by decide)
       | skip) <;> simp only [h, ↓upd_eq, ↓envL_cons, Go.Ab.W0, Go.Ab.WD, Go.Ab.WE, if_true, if_false, reduceIte, Nat.reduceEqDiff, Nat.reduceAdd, Nat.reduceLT, Nat.reduceLeDiff, reduceCtorEq, Nat.reduceMul, implies_true, forall_eq_or_imp, forall_eq, Nat.reducePow, W1, W1C, Go.Ab.W3, Int.reduceAdd, Int.reduceLT, Int.reduceToNat, Int.reduceBEq, Int.reduceBNe, Int.reduceLE, hs, ha, cutNormal_normal]
    | true =>
      cases hb : right b with
      | false =>
        obtain ⟨e1, e2⟩ := bad (by rw [ha, hb]; rfl)
        rw [e1, e2] at q
        refine pcalls_text C_ok Try.func10 rfl (by decide) (Nat.le_of_ble_eq_true rfl) (by decide) rfl fun ok H => ?_
        rw [Try.results10]
        have h := True.intro
        repeat' (first
         | (with_reducible first | refine goIf_b ?_ ?_ | refine goIf_n ?_ ?_ | refine goIf_d ?_ ?_ | refine goIf_split ?_ ?_ | refine goGb_b ?_ ?_ | refine goGb_n ?_ ?_ | refine goGb_d ?_ ?_ | refine goGb_split ?_ ?_ | refine goDGb_b ?_ ?_ | refine goDGb_n ?_ ?_ | refine goDGb_d ?_ ?_ | refine goDGb_split ?_ ?_) <;> intro h
         | ((first | refine goCall_norm ?_ | refine goDCall_norm ?_); simp only [AV.norm, AV.normL, W2, W2C, Go.Ab.W3, Int.reduceAdd, Int.reduceLT, Int.reduceToNat, Int.reduceBEq, Int.reduceBNe, Int.reduceLE, hs, ha, hb]; first | refine goCall_p (small2_ok _ _) (.inl rfl) ?_ | refine goCall_p (rright_ok _) (.inl rfl) ?_ | refine goCall_p (q) (.inl rfl) ?_ | refine goCall_p (wakes21_ok) (.inl rfl) ?_ | refine goDCall_p (small2_ok _ _) (.inl rfl) ?_ | refine goDCall_p (rright_ok _) (.inl rfl) ?_ | refine goDCall_p (q) (.inl rfl) ?_ | refine goDCall_p (wakes21_ok) (.inl rfl) ?_)
         | refine go_draw (id := 8) C_ok mixed 0 Try.f10.ntmps rfl (by kernel_rfl) (by decide) ?_
         | refine goRound ?_ C_ok Try.f10.ntmps rfl (by decide)
         | skip) <;> simp only [h, ↓upd_eq, ↓envL_cons, Go.Ab.W0, Go.Ab.WD, Go.Ab.WE, if_true, if_false, reduceIte, Nat.reduceEqDiff, Nat.reduceAdd, Nat.reduceLT, Nat.reduceLeDiff, reduceCtorEq, Nat.reduceMul, implies_true, forall_eq_or_imp, forall_eq, Nat.reducePow, W1, W1C, Go.Ab.W3, Int.reduceAdd, Int.reduceLT, Int.reduceToNat, Int.reduceBEq, Int.reduceBNe, Int.reduceLE, hs, ha, hb, cutNormal_normal]
      | true =>
        by_cases l1 : l < 0
        · obtain ⟨e1, e2⟩ := bad (by rw [ha, hb, labelOK, decide_eq_false (by omega : ¬ 0 ≤ l)]; rfl)
          rw [e1, e2] at q
          refine pcalls_text C_ok Try.func10 rfl (by decide) (Nat.le_of_ble_eq_true rfl) (by decide) rfl fun ok H => ?_
          rw [Try.results10]
          have h := True.intro
          repeat' (first
           | (with_reducible first | refine goIf_b ?_ ?_ | refine goIf_n ?_ ?_ | refine goIf_d ?_ ?_ | refine goIf_split ?_ ?_ | refine goGb_b ?_ ?_ | refine goGb_n ?_ ?_ | refine goGb_d ?_ ?_ | refine goGb_split ?_ ?_ | refine goDGb_b ?_ ?_ | refine goDGb_n ?_ ?_ | refine goDGb_d ?_ ?_ | refine goDGb_split ?_ ?_) <;> intro h
           | ((first | refine goCall_norm ?_ | refine goDCall_norm ?_); simp only [AV.norm, AV.normL, W2, W2C, Go.Ab.W3, Int.reduceAdd, Int.reduceLT, Int.reduceToNat, Int.reduceBEq, Int.reduceBNe, Int.reduceLE, hs, ha, hb, l1]; first | refine goCall_p (small2_ok _ _) (.inl rfl) ?_ | refine goCall_p (rright_ok _) (.inl rfl) ?_ | refine goCall_p (q) (.inl rfl) ?_ | refine goCall_p (wakes21_ok) (.inl rfl) ?_ | refine goDCall_p (small2_ok _ _) (.inl rfl) ?_ | refine goDCall_p (rright_ok _) (.inl rfl) ?_ | refine goDCall_p (q) (.inl rfl) ?_ | refine goDCall_p (wakes21_ok) (.inl rfl) ?_)
           | refine go_draw (id := 8) C_ok mixed 0 Try.f10.ntmps rfl (by kernel_rfl) (by decide) ?_
           | refine goRound ?_ C_ok Try.f10.ntmps rfl (by decide)
           | skip) <;> simp only [h, ↓upd_eq, ↓envL_cons, Go.Ab.W0, Go.Ab.WD, Go.Ab.WE, if_true, if_false, reduceIte, Nat.reduceEqDiff, Nat.reduceAdd, Nat.reduceLT, Nat.reduceLeDiff, reduceCtorEq, Nat.reduceMul, implies_true, forall_eq_or_imp, forall_eq, Nat.reducePow, W1, W1C, Go.Ab.W3, Int.reduceAdd, Int.reduceLT, Int.reduceToNat, Int.reduceBEq, Int.reduceBNe, Int.reduceLE, hs, ha, hb, l1, cutNormal_normal]
        · by_cases l2 : l > 1048576
          · obtain ⟨e1, e2⟩ := bad (by rw [ha, hb, labelOK, decide_eq_false (by omega : ¬ l ≤ 1048576)]; simp)
            rw [e1, e2] at q
            refine pcalls_text C_ok Try.func10 rfl (by decide) (Nat.le_of_ble_eq_true rfl) (by decide) rfl fun ok H => ?_
            rw [Try.results10]
            have h := True.intro
            repeat' (first
             | (with_reducible first | refine goIf_b ?_ ?_ | refine goIf_n ?_ ?_ | refine goIf_d ?_ ?_ | refine goIf_split ?_ ?_ | refine goGb_b ?_ ?_ | refine goGb_n ?_ ?_ | refine goGb_d ?_ ?_ | refine goGb_split ?_ ?_ | refine goDGb_b ?_ ?_ | refine goDGb_n ?_ ?_ | refine goDGb_d ?_ ?_ | refine goDGb_split ?_ ?_) <;> intro h
             | ((first | refine goCall_norm ?_ | refine goDCall_norm ?_); simp only [AV.norm, AV.normL, W2, W2C, Go.Ab.W3, Int.reduceAdd, Int.reduceLT, Int.reduceToNat, Int.reduceBEq, Int.reduceBNe, Int.reduceLE, hs, ha, hb, l1, l2]; first | refine goCall_p (small2_ok _ _) (.inl rfl) ?_ | refine goCall_p (rright_ok _) (.inl rfl) ?_ | refine goCall_p (q) (.inl rfl) ?_ | refine goCall_p (wakes21_ok) (.inl rfl) ?_ | refine goDCall_p (small2_ok _ _) (.inl rfl) ?_ | refine goDCall_p (rright_ok _) (.inl rfl) ?_ | refine goDCall_p (q) (.inl rfl) ?_ | refine goDCall_p (wakes21_ok) (.inl rfl) ?_)
             | refine go_draw (id := 8) C_ok mixed 0 Try.f10.ntmps rfl (by kernel_rfl) (by decide) ?_
             | refine goRound ?_ C_ok Try.f10.ntmps rfl (by decide)
             | skip) <;> simp only [h, ↓upd_eq, ↓envL_cons, Go.Ab.W0, Go.Ab.WD, Go.Ab.WE, if_true, if_false, reduceIte, Nat.reduceEqDiff, Nat.reduceAdd, Nat.reduceLT, Nat.reduceLeDiff, reduceCtorEq, Nat.reduceMul, implies_true, forall_eq_or_imp, forall_eq, Nat.reducePow, W1, W1C, Go.Ab.W3, Int.reduceAdd, Int.reduceLT, Int.reduceToNat, Int.reduceBEq, Int.reduceBNe, Int.reduceLE, hs, ha, hb, l1, l2, cutNormal_normal]
          · have hl : labelOK l = true := by rw [labelOK, decide_eq_true (by omega : 0 ≤ l), decide_eq_true (by omega : l ≤ 1048576)]; rfl
            cases hg : agree a b with
            | false =>
              have e1 : castE a b l = 4 := by rw [castE, ha, hb, hl, hg]; rfl
              have e2 : castC a b l n = .mk 0 0 0 false [] := castC_no (by rw [e1]; decide)
              rw [e1, e2] at q
              refine pcalls_text C_ok Try.func10 rfl (by decide) (Nat.le_of_ble_eq_true rfl) (by decide) rfl fun ok H => ?_
              rw [Try.results10]
              have h := True.intro
              repeat' (first
               | (with_reducible first | refine goIf_b ?_ ?_ | refine goIf_n ?_ ?_ | refine goIf_d ?_ ?_ | refine goIf_split ?_ ?_ | refine goGb_b ?_ ?_ | refine goGb_n ?_ ?_ | refine goGb_d ?_ ?_ | refine goGb_split ?_ ?_ | refine goDGb_b ?_ ?_ | refine goDGb_n ?_ ?_ | refine goDGb_d ?_ ?_ | refine goDGb_split ?_ ?_) <;> intro h
               | ((first | refine goCall_norm ?_ | refine goDCall_norm ?_); simp only [AV.norm, AV.normL, W2, W2C, Go.Ab.W3, Int.reduceAdd, Int.reduceLT, Int.reduceToNat, Int.reduceBEq, Int.reduceBNe, Int.reduceLE, hs, ha, hb, l1, l2, hg]; first | refine goCall_p (small2_ok _ _) (.inl rfl) ?_ | refine goCall_p (rright_ok _) (.inl rfl) ?_ | refine goCall_p (ragree_ok _ _ ha hb) (.inl rfl) ?_ | refine goCall_p (q) (.inl rfl) ?_ | refine goCall_p (wakes21_ok) (.inl rfl) ?_ | refine goDCall_p (small2_ok _ _) (.inl rfl) ?_ | refine goDCall_p (rright_ok _) (.inl rfl) ?_ | refine goDCall_p (ragree_ok _ _ ha hb) (.inl rfl) ?_ | refine goDCall_p (q) (.inl rfl) ?_ | refine goDCall_p (wakes21_ok) (.inl rfl) ?_)
               | refine go_draw (id := 8) C_ok mixed 0 Try.f10.ntmps rfl (by kernel_rfl) (by decide) ?_
               | refine goRound ?_ C_ok Try.f10.ntmps rfl (by decide)
               | skip) <;> simp only [h, ↓upd_eq, ↓envL_cons, Go.Ab.W0, Go.Ab.WD, Go.Ab.WE, if_true, if_false, reduceIte, Nat.reduceEqDiff, Nat.reduceAdd, Nat.reduceLT, Nat.reduceLeDiff, reduceCtorEq, Nat.reduceMul, implies_true, forall_eq_or_imp, forall_eq, Nat.reducePow, W1, W1C, Go.Ab.W3, Int.reduceAdd, Int.reduceLT, Int.reduceToNat, Int.reduceBEq, Int.reduceBNe, Int.reduceLE, hs, ha, hb, l1, l2, hg, cutNormal_normal]
            | true =>
              have e1 : castE a b l = 0 := by rw [castE, ha, hb, hl, hg]; rfl
              have r := rCastC_ok a b l n e1
              rw [e1] at q
              have hr := sameC_refl (castC a b l n)
              generalize castC a b l n = x at q r hr
              refine pcalls_text C_ok Try.func10 rfl (by decide) (Nat.le_of_ble_eq_true rfl) (by decide) rfl fun ok H => ?_
              rw [Try.results10]
              have h := True.intro
              repeat' (first
               | (with_reducible first | refine goIf_b ?_ ?_ | refine goIf_n ?_ ?_ | refine goIf_d ?_ ?_ | refine goIf_split ?_ ?_ | refine goGb_b ?_ ?_ | refine goGb_n ?_ ?_ | refine goGb_d ?_ ?_ | refine goGb_split ?_ ?_ | refine goDGb_b ?_ ?_ | refine goDGb_n ?_ ?_ | refine goDGb_d ?_ ?_ | refine goDGb_split ?_ ?_) <;> intro h
               | ((first | refine goCall_norm ?_ | refine goDCall_norm ?_); simp only [AV.norm, AV.normL, W2, W2C, Go.Ab.W3, Int.reduceAdd, Int.reduceLT, Int.reduceToNat, Int.reduceBEq, Int.reduceBNe, Int.reduceLE, hs, ha, hb, l1, l2, hg, hr]; first | refine goCall_p (small2_ok _ _) (.inl rfl) ?_ | refine goCall_p (rright_ok _) (.inl rfl) ?_ | refine goCall_p (ragree_ok _ _ ha hb) (.inl rfl) ?_ | refine goCall_p (q) (.inl rfl) ?_ | refine goCall_p (r) (.inl rfl) ?_ | refine goCall_p (rsameC_ok _ _) (.inl rfl) ?_ | refine goCall_p (wakes21_ok) (.inl rfl) ?_ | refine goDCall_p (small2_ok _ _) (.inl rfl) ?_ | refine goDCall_p (rright_ok _) (.inl rfl) ?_ | refine goDCall_p (ragree_ok _ _ ha hb) (.inl rfl) ?_ | refine goDCall_p (q) (.inl rfl) ?_ | refine goDCall_p (r) (.inl rfl) ?_ | refine goDCall_p (rsameC_ok _ _) (.inl rfl) ?_ | refine goDCall_p (wakes21_ok) (.inl rfl) ?_)
               | refine go_draw (id := 8) C_ok mixed 0 Try.f10.ntmps rfl (by kernel_rfl) (by decide) ?_
               | refine goRound ?_ C_ok Try.f10.ntmps rfl (by decide)
               | skip) <;> simp only [h, ↓upd_eq, ↓envL_cons, Go.Ab.W0, Go.Ab.WD, Go.Ab.WE, if_true, if_false, reduceIte, Nat.reduceEqDiff, Nat.reduceAdd, Nat.reduceLT, Nat.reduceLeDiff, reduceCtorEq, Nat.reduceMul, implies_true, forall_eq_or_imp, forall_eq, Nat.reducePow, W1, W1C, Go.Ab.W3, Int.reduceAdd, Int.reduceLT, Int.reduceToNat, Int.reduceBEq, Int.reduceBNe, Int.reduceLE, hs, ha, hb, l1, l2, hg, hr, cutNormal_normal]

end Go.Proofs.Ytajdipeebpmifaa
