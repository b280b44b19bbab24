/- The law CompHeight answers true, whatever the input. No condition. -/
import Derived.Test.YtajdipeebpmifaaPKa
set_option linter.unusedSimpArgs false
set_option linter.unusedVariables false
set_option maxHeartbeats 4000000
set_option maxRecDepth 100000
namespace Go.Proofs.Ytajdipeebpmifaa
open Go Go.Ab
attribute [local irreducible] PCalls ACalls CallK GoCall GoDCall GoIf GoGb GoDGb GoO GoD GoX GoDX GoG GoDG GoGv GoDGv Go ALoop

theorem compHeight_ok (c d : Co) (l : Int) : PCalls Try.prog 5 [embC c, embC d, .int .i64 l] (.bool true) := by
  cases hv : heavyC [c, d] with
  | true =>
    refine pcalls_text C_ok Try.func5 rfl (by decide) (Nat.le_of_ble_eq_true rfl) (by decide) rfl fun ok H => ?_
    rw [Try.results5]
    have h := True.intro
    repeat' (first
     | (with_reducible first | refine goIf_b ?_ ?_ | refine goIf_n ?_ ?_ | refine goIf_d ?_ ?_ | refine goIf_split ?_ ?_ | refine goGb_b ?_ ?_ | refine goGb_n ?_ ?_ | refine goGb_d ?_ ?_ | refine goGb_split ?_ ?_ | refine goDGb_b ?_ ?_ | refine goDGb_n ?_ ?_ | refine goDGb_d ?_ ?_ | refine goDGb_split ?_ ?_) <;> intro h
     | ((first | refine goCall_norm ?_ | refine goDCall_norm ?_); simp only [AV.norm, AV.normL, W2, W2C, Go.Ab.W3, Int.reduceAdd, Int.reduceLT, Int.reduceToNat, Int.reduceBEq, Int.reduceBNe, Int.reduceLE, hv]; first | refine goCall_p (heavyC2_ok _ _) (.inl rfl) ?_ | refine goDCall_p (heavyC2_ok _ _) (.inl rfl) ?_)
     | refine go_draw (id := 13) C_ok mixed 0 Try.f5.ntmps rfl (by kernel_rfl) (by decide) ?_
     | refine goRound ?_ C_ok Try.f5.ntmps rfl (by decide)
     | skip) <;> simp only [h, ↓upd_eq, ↓envL_cons, Go.Ab.W0, Go.Ab.WD, Go.Ab.WE, if_true, if_false, reduceIte, Nat.reduceEqDiff, Nat.reduceAdd, Nat.reduceLT, Nat.reduceLeDiff, reduceCtorEq, Nat.reduceMul, implies_true, forall_eq_or_imp, forall_eq, Nat.reducePow, W1, W1C, Go.Ab.W3, Int.reduceAdd, Int.reduceLT, Int.reduceToNat, Int.reduceBEq, Int.reduceBNe, Int.reduceLE, hv, cutNormal_normal]
  | false =>
  cases hc : rightC c with
  | false =>
    refine pcalls_text C_ok Try.func5 rfl (by decide) (Nat.le_of_ble_eq_true rfl) (by decide) rfl fun ok H => ?_
    rw [Try.results5]
    have h := True.intro
    repeat' (first
     | (with_reducible first | refine goIf_b ?_ ?_ | refine goIf_n ?_ ?_ | refine goIf_d ?_ ?_ | refine goIf_split ?_ ?_ | refine goGb_b ?_ ?_ | refine goGb_n ?_ ?_ | refine goGb_d ?_ ?_ | refine goGb_split ?_ ?_ | refine goDGb_b ?_ ?_ | refine goDGb_n ?_ ?_ | refine goDGb_d ?_ ?_ | refine goDGb_split ?_ ?_) <;> intro h
     | ((first | refine goCall_norm ?_ | refine goDCall_norm ?_); simp only [AV.norm, AV.normL, W2, W2C, Go.Ab.W3, Int.reduceAdd, Int.reduceLT, Int.reduceToNat, Int.reduceBEq, Int.reduceBNe, Int.reduceLE, hv, hc]; first | refine goCall_p (heavyC2_ok _ _) (.inl rfl) ?_ | refine goCall_p (rrightC_ok _) (.inl rfl) ?_ | refine goDCall_p (heavyC2_ok _ _) (.inl rfl) ?_ | refine goDCall_p (rrightC_ok _) (.inl rfl) ?_)
     | refine go_draw (id := 13) C_ok mixed 0 Try.f5.ntmps rfl (by kernel_rfl) (by decide) ?_
     | refine goRound ?_ C_ok Try.f5.ntmps rfl (by decide)
     | skip) <;> simp only [h, ↓upd_eq, ↓envL_cons, Go.Ab.W0, Go.Ab.WD, Go.Ab.WE, if_true, if_false, reduceIte, Nat.reduceEqDiff, Nat.reduceAdd, Nat.reduceLT, Nat.reduceLeDiff, reduceCtorEq, Nat.reduceMul, implies_true, forall_eq_or_imp, forall_eq, Nat.reducePow, W1, W1C, Go.Ab.W3, Int.reduceAdd, Int.reduceLT, Int.reduceToNat, Int.reduceBEq, Int.reduceBNe, Int.reduceLE, hv, hc, cutNormal_normal]
  | true =>
  cases hd : rightC d with
  | false =>
    refine pcalls_text C_ok Try.func5 rfl (by decide) (Nat.le_of_ble_eq_true rfl) (by decide) rfl fun ok H => ?_
    rw [Try.results5]
    have h := True.intro
    repeat' (first
     | (with_reducible first | refine goIf_b ?_ ?_ | refine goIf_n ?_ ?_ | refine goIf_d ?_ ?_ | refine goIf_split ?_ ?_ | refine goGb_b ?_ ?_ | refine goGb_n ?_ ?_ | refine goGb_d ?_ ?_ | refine goGb_split ?_ ?_ | refine goDGb_b ?_ ?_ | refine goDGb_n ?_ ?_ | refine goDGb_d ?_ ?_ | refine goDGb_split ?_ ?_) <;> intro h
     | ((first | refine goCall_norm ?_ | refine goDCall_norm ?_); simp only [AV.norm, AV.normL, W2, W2C, Go.Ab.W3, Int.reduceAdd, Int.reduceLT, Int.reduceToNat, Int.reduceBEq, Int.reduceBNe, Int.reduceLE, hv, hc, hd]; first | refine goCall_p (heavyC2_ok _ _) (.inl rfl) ?_ | refine goCall_p (rrightC_ok _) (.inl rfl) ?_ | refine goDCall_p (heavyC2_ok _ _) (.inl rfl) ?_ | refine goDCall_p (rrightC_ok _) (.inl rfl) ?_)
     | refine go_draw (id := 13) C_ok mixed 0 Try.f5.ntmps rfl (by kernel_rfl) (by decide) ?_
     | refine goRound ?_ C_ok Try.f5.ntmps rfl (by decide)
     | skip) <;> simp only [h, ↓upd_eq, ↓envL_cons, Go.Ab.W0, Go.Ab.WD, Go.Ab.WE, if_true, if_false, reduceIte, Nat.reduceEqDiff, Nat.reduceAdd, Nat.reduceLT, Nat.reduceLeDiff, reduceCtorEq, Nat.reduceMul, implies_true, forall_eq_or_imp, forall_eq, Nat.reducePow, W1, W1C, Go.Ab.W3, Int.reduceAdd, Int.reduceLT, Int.reduceToNat, Int.reduceBEq, Int.reduceBNe, Int.reduceLE, hv, hc, hd, cutNormal_normal]
  | true =>
    have n1 : nodesC c ≤ 400 := heavyC_nodes (l := [c, d]) (by rw [hv]; decide) (by simp)
    have n2 : nodesC d ≤ 400 := heavyC_nodes (l := [c, d]) (by rw [hv]; decide) (by simp)
    have hw := labM_w l
    have hz : ((1048576 : Int) ≠ 0) = True := by simp
    obtain ⟨hl, _, _⟩ := labM_ok l
    have q1 := cJoinC_ok idC c
    have q2 := cJoinC_ok c idC
    have q3 := cJoinC_ok (.mk 7 0 (labM l) false []) c
    have e3 : joinE (.mk 7 0 (labM l) false []) c = 0 ∧ joinC (.mk 7 0 (labM l) false []) c = .mk 7 0 (labM l) false [] := by
      obtain ⟨k, rfl, hk⟩ := K.of_right' hc
      exact joinE_of (k := .fail (labM l) false) (m := k) (by simpa [K.ok] using hl) hk (joinK_fail _ _ _) (by simpa [K.ok] using hl)
    rw [(joinE_id hc).1, (joinE_id hc).2] at q1
    rw [(joinE_id_r hc).1, (joinE_id_r hc).2] at q2
    rw [e3.1, e3.2] at q3
    unfold idC at q1 q2
    have s1 := sameC_refl c
    have s2 := sameC_refl (.mk 7 0 (labM l) false [])
    have q4 := cJoinC_ok c d
    clear e3
    generalize labM l = m at *
    by_cases e : joinE c d = 0
    · have r1 := ccheck_ok (joinC c d)
      have n3 := joinE_nodes e
      have r2 := cHeight_ok (joinC c d) (by omega)
      have r3 := cHeight_ok c (by omega)
      have r4 := cHeight_ok d (by omega)
      rw [joinC_right e, if_pos rfl] at r1 r2
      rw [hc, if_pos rfl] at r3
      rw [hd, if_pos rfl] at r4
      have hle : ((heightC (joinC c d) : Int) ≤ ((max (heightC c) (heightC d) : Nat) : Int)) = True := by simpa using joinE_height e
      rw [e] at q4
      generalize joinC c d = j at q4 r1 r2 hle
      generalize heightC j = hj at r2 hle
      refine pcalls_text C_ok Try.func5 rfl (by decide) (Nat.le_of_ble_eq_true rfl) (by decide) rfl fun ok H => ?_
      rw [Try.results5]
      have h := True.intro
      repeat' (first
       | (with_reducible first | refine goIf_b ?_ ?_ | refine goIf_n ?_ ?_ | refine goIf_d ?_ ?_ | refine goIf_split ?_ ?_ | refine goGb_b ?_ ?_ | refine goGb_n ?_ ?_ | refine goGb_d ?_ ?_ | refine goGb_split ?_ ?_ | refine goDGb_b ?_ ?_ | refine goDGb_n ?_ ?_ | refine goDGb_d ?_ ?_ | refine goDGb_split ?_ ?_) <;> intro h
       | ((first | refine goCall_norm ?_ | refine goDCall_norm ?_); simp only [AV.norm, AV.normL, W2, W2C, Go.Ab.W3, Int.reduceAdd, Int.reduceLT, Int.reduceToNat, Int.reduceBEq, Int.reduceBNe, Int.reduceLE, hv, hc, hd, hw, hz, s1, s2, hle, wrap_max]; first | refine goCall_p (heavyC2_ok _ _) (.inl rfl) ?_ | refine goCall_p (rrightC_ok _) (.inl rfl) ?_ | refine goCall_p (q1) (.inl rfl) ?_ | refine goCall_p (q2) (.inl rfl) ?_ | refine goCall_p (q3) (.inl rfl) ?_ | refine goCall_p (q4) (.inl rfl) ?_ | refine goCall_p (r1) (.inl rfl) ?_ | refine goCall_p (r2) (.inl rfl) ?_ | refine goCall_p (r3) (.inl rfl) ?_ | refine goCall_p (r4) (.inl rfl) ?_ | refine goCall_p (sameC_ok _ _) (.inl rfl) ?_ | refine goCall_p (wakes22_ok) (.inl rfl) ?_ | refine goDCall_p (heavyC2_ok _ _) (.inl rfl) ?_ | refine goDCall_p (rrightC_ok _) (.inl rfl) ?_ | refine goDCall_p (q1) (.inl rfl) ?_ | refine goDCall_p (q2) (.inl rfl) ?_ | refine goDCall_p (q3) (.inl rfl) ?_ | refine goDCall_p (q4) (.inl rfl) ?_ | refine goDCall_p (r1) (.inl rfl) ?_ | refine goDCall_p (r2) (.inl rfl) ?_ | refine goDCall_p (r3) (.inl rfl) ?_ | refine goDCall_p (r4) (.inl rfl) ?_ | refine goDCall_p (sameC_ok _ _) (.inl rfl) ?_ | refine goDCall_p (wakes22_ok) (.inl rfl) ?_)
       | refine go_draw (id := 13) C_ok mixed 0 Try.f5.ntmps rfl (by kernel_rfl) (by decide) ?_
       | refine goRound ?_ C_ok Try.f5.ntmps rfl (by decide)
       | skip) <;> simp only [h, ↓upd_eq, ↓envL_cons, Go.Ab.W0, Go.Ab.WD, Go.Ab.WE, if_true, if_false, reduceIte, Nat.reduceEqDiff, Nat.reduceAdd, Nat.reduceLT, Nat.reduceLeDiff, reduceCtorEq, Nat.reduceMul, implies_true, forall_eq_or_imp, forall_eq, Nat.reducePow, W1, W1C, Go.Ab.W3, Int.reduceAdd, Int.reduceLT, Int.reduceToNat, Int.reduceBEq, Int.reduceBNe, Int.reduceLE, hv, hc, hd, hw, hz, s1, s2, hle, wrap_max, cutNormal_normal]
    · have e8 : joinE c d = 8 := by
        rcases joinE_good (c := c) (d := d) (by rw [hc, hd]; rfl) with h | h
        · exact absurd h e
        · exact h
      rw [e8, joinC_none e] at q4
      unfold coNone at q4
      refine pcalls_text C_ok Try.func5 rfl (by decide) (Nat.le_of_ble_eq_true rfl) (by decide) rfl fun ok H => ?_
      rw [Try.results5]
      have h := True.intro
      repeat' (first
       | (with_reducible first | refine goIf_b ?_ ?_ | refine goIf_n ?_ ?_ | refine goIf_d ?_ ?_ | refine goIf_split ?_ ?_ | refine goGb_b ?_ ?_ | refine goGb_n ?_ ?_ | refine goGb_d ?_ ?_ | refine goGb_split ?_ ?_ | refine goDGb_b ?_ ?_ | refine goDGb_n ?_ ?_ | refine goDGb_d ?_ ?_ | refine goDGb_split ?_ ?_) <;> intro h
       | ((first | refine goCall_norm ?_ | refine goDCall_norm ?_); simp only [AV.norm, AV.normL, W2, W2C, Go.Ab.W3, Int.reduceAdd, Int.reduceLT, Int.reduceToNat, Int.reduceBEq, Int.reduceBNe, Int.reduceLE, hv, hc, hd, hw, hz, s1, s2]; first | refine goCall_p (heavyC2_ok _ _) (.inl rfl) ?_ | refine goCall_p (rrightC_ok _) (.inl rfl) ?_ | refine goCall_p (q1) (.inl rfl) ?_ | refine goCall_p (q2) (.inl rfl) ?_ | refine goCall_p (q3) (.inl rfl) ?_ | refine goCall_p (q4) (.inl rfl) ?_ | refine goCall_p (sameC_ok _ _) (.inl rfl) ?_ | refine goCall_p (wakes22_ok) (.inl rfl) ?_ | refine goDCall_p (heavyC2_ok _ _) (.inl rfl) ?_ | refine goDCall_p (rrightC_ok _) (.inl rfl) ?_ | refine goDCall_p (q1) (.inl rfl) ?_ | refine goDCall_p (q2) (.inl rfl) ?_ | refine goDCall_p (q3) (.inl rfl) ?_ | refine goDCall_p (q4) (.inl rfl) ?_ | refine goDCall_p (sameC_ok _ _) (.inl rfl) ?_ | refine goDCall_p (wakes22_ok) (.inl rfl) ?_)
       | refine go_draw (id := 13) C_ok mixed 0 Try.f5.ntmps rfl (by kernel_rfl) (by decide) ?_
       | refine goRound ?_ C_ok Try.f5.ntmps rfl (by decide)
       | skip) <;> simp only [h, ↓upd_eq, ↓envL_cons, Go.Ab.W0, Go.Ab.WD, Go.Ab.WE, if_true, if_false, reduceIte, Nat.reduceEqDiff, Nat.reduceAdd, Nat.reduceLT, Nat.reduceLeDiff, reduceCtorEq, Nat.reduceMul, implies_true, forall_eq_or_imp, forall_eq, Nat.reducePow, W1, W1C, Go.Ab.W3, Int.reduceAdd, Int.reduceLT, Int.reduceToNat, Int.reduceBEq, Int.reduceBNe, Int.reduceLE, hv, hc, hd, hw, hz, s1, s2, cutNormal_normal]

end Go.Proofs.Ytajdipeebpmifaa
