/- The law CompAll answers true, whatever the input. No condition. -/
import Derived.Test.YtajdipeebpmifaaPKa
import Derived.Test.YtajdipeebpmifaaPMa
import Derived.Test.YtajdipeebpmifaaPFb
set_option linter.unusedSimpArgs false
set_option linter.unusedVariables false
set_option maxHeartbeats 4000000
set_option maxRecDepth 100000
namespace Go.Proofs.Ytajdipeebpmifaa
open Go Go.Ab
attribute [local irreducible] PCalls ACalls CallK GoCall GoDCall GoIf GoGb GoDGb GoO GoD GoX GoDX GoG GoDG GoGv GoDGv Go ALoop

theorem compAll_ok (l : List Co) (x : Int) : PCalls Try.prog 4 [.sl (l.map embC) .no, .int .i64 x] (.bool true) := by
  by_cases h10 : (l.length : Int) > 10
  · refine pcalls_text C_ok Try.func4 rfl (by decide) (Nat.le_of_ble_eq_true rfl) (by decide) rfl fun ok H => ?_
    rw [Try.results4]
    have h := True.intro
    repeat' (first
     | (with_reducible first | refine goIf_b ?_ ?_ | refine goIf_n ?_ ?_ | refine goIf_d ?_ ?_ | refine goIf_split ?_ ?_ | refine goGb_b ?_ ?_ | refine goGb_n ?_ ?_ | refine goGb_d ?_ ?_ | refine goGb_split ?_ ?_ | refine goDGb_b ?_ ?_ | refine goDGb_n ?_ ?_ | refine goDGb_d ?_ ?_ | refine goDGb_split ?_ ?_) <;> intro h
     | refine go_draw (id := 11) C_ok mixed 1 Try.f4.ntmps rfl (by kernel_rfl) (by decide) ?_
     | refine goRound ?_ C_ok Try.f4.ntmps rfl (by decide)
     | skip) <;> simp only [h, ↓upd_eq, ↓envL_cons, Go.Ab.W0, Go.Ab.WD, Go.Ab.WE, if_true, if_false, reduceIte, Nat.reduceEqDiff, Nat.reduceAdd, Nat.reduceLT, Nat.reduceLeDiff, reduceCtorEq, Nat.reduceMul, implies_true, forall_eq_or_imp, forall_eq, Nat.reducePow, W1, W1C, Go.Ab.W3, Int.reduceAdd, Int.reduceLT, Int.reduceToNat, Int.reduceBEq, Int.reduceBNe, Int.reduceLE, h10, List.length_map, cutNormal_normal]
  have hl : l.length ≤ 10 := by omega
  have hh := heavyC_ok l (by omega)
  cases hv : heavyC l with
  | true =>
    rw [hv] at hh
    refine pcalls_text C_ok Try.func4 rfl (by decide) (Nat.le_of_ble_eq_true rfl) (by decide) rfl fun ok H => ?_
    rw [Try.results4]
    have h := True.intro
    repeat' (first
     | (with_reducible first | refine goIf_b ?_ ?_ | refine goIf_n ?_ ?_ | refine goIf_d ?_ ?_ | refine goIf_split ?_ ?_ | refine goGb_b ?_ ?_ | refine goGb_n ?_ ?_ | refine goGb_d ?_ ?_ | refine goGb_split ?_ ?_ | refine goDGb_b ?_ ?_ | refine goDGb_n ?_ ?_ | refine goDGb_d ?_ ?_ | refine goDGb_split ?_ ?_) <;> intro h
     | ((first | refine goCall_norm ?_ | refine goDCall_norm ?_); simp only [AV.norm, AV.normL, W2, W2C, Go.Ab.W3, Int.reduceAdd, Int.reduceLT, Int.reduceToNat, Int.reduceBEq, Int.reduceBNe, Int.reduceLE, h10, List.length_map]; first | refine goCall_p (hh) (.inl rfl) ?_ | refine goDCall_p (hh) (.inl rfl) ?_)
     | refine go_draw (id := 11) C_ok mixed 1 Try.f4.ntmps rfl (by kernel_rfl) (by decide) ?_
     | refine goRound ?_ C_ok Try.f4.ntmps rfl (by decide)
     | skip) <;> simp only [h, ↓upd_eq, ↓envL_cons, Go.Ab.W0, Go.Ab.WD, Go.Ab.WE, if_true, if_false, reduceIte, Nat.reduceEqDiff, Nat.reduceAdd, Nat.reduceLT, Nat.reduceLeDiff, reduceCtorEq, Nat.reduceMul, implies_true, forall_eq_or_imp, forall_eq, Nat.reducePow, W1, W1C, Go.Ab.W3, Int.reduceAdd, Int.reduceLT, Int.reduceToNat, Int.reduceBEq, Int.reduceBNe, Int.reduceLE, h10, List.length_map, cutNormal_normal]
  | false =>
    rw [hv] at hh
    obtain ⟨k, hk, hkn⟩ := kint_nat x (n := ((l.length + 1 : Nat) : Int)) (by omega)
    have wl : IntKind.wrap .i64 ((l.length : Int) + 1) = ((l.length + 1 : Nat) : Int) := wrap_nat1 (by omega)
    have hw : IntKind.wrap .i64 ((IntKind.wrap .u64 x).tmod (IntKind.wrap .u64 ((l.length + 1 : Nat) : Int))) = (k : Int) := by
      rw [rem_small x (by omega) (by omega)]; exact hk
    have hz : ((IntKind.wrap .u64 ((l.length + 1 : Nat) : Int)) ≠ 0) = True := by
      rw [wrap_u, Int.emod_eq_of_lt (by omega) (by omega)]; simp only [ne_eq, eq_iff_iff, iff_true]; omega
    have hkl : k ≤ l.length := by omega
    have hkl' : ((k : Int) ≤ (l.length : Int)) = True := by simp only [eq_iff_iff, iff_true]; omega
    have t1 : (l.map embC).take k = (l.take k).map embC := List.map_take.symm
    have q1 := all_ok (l.take k) (by simp; omega)
    have q2 := all_ok l (by omega)
    have q3 : PCalls Try.prog 32 [.sl [] .no] (.tup [embC (.mk 1 0 0 false []), .int .i64 0]) := all_ok [] (by decide)
    have happ := allF_app (l.take k) (l.drop k) idC
    rw [List.take_append_drop] at happ
    by_cases e : (allF (l.take k) idC).2 = 0
    · rw [if_pos e] at happ
      have hr := allF_right (l.take k) idC idC_right e
      rw [e] at q1
      generalize (allF (l.take k) idC).1 = a at q1 happ hr
      have q4 := all_ok (a :: l.drop k) (by simp; omega)
      have e4 : allF (a :: l.drop k) idC = allF l idC := by rw [allF, (joinE_id hr).1, if_pos rfl, (joinE_id hr).2, happ]
      rw [e4] at q4
      have s1 := sameC_refl (allF l idC).1
      clear e4 happ e
      generalize (allF l idC).1 = b at *
      generalize (allF l idC).2 = f at *
      have t2 : (l.map embC).drop k = (l.drop k).map embC := List.map_drop.symm
      have hdl : (l.drop k).length ≤ 10 := by simp; omega
      have q4 : PCalls Try.prog 32 [.sl (embC a :: (l.drop k).map embC) .no] (.tup [embC b, .int .i64 f]) := q4
      generalize l.drop k = m at *
      cases m with
      | nil =>
        simp only [List.map_nil] at t2 q4
        refine pcalls_text C_ok Try.func4 rfl (by decide) (Nat.le_of_ble_eq_true rfl) (by decide) rfl fun ok H => ?_
        rw [Try.results4]
        have h := True.intro
        repeat' (first
         | (with_reducible first | refine goIf_b ?_ ?_ | refine goIf_n ?_ ?_ | refine goIf_d ?_ ?_ | refine goIf_split ?_ ?_ | refine goGb_b ?_ ?_ | refine goGb_n ?_ ?_ | refine goGb_d ?_ ?_ | refine goGb_split ?_ ?_ | refine goDGb_b ?_ ?_ | refine goDGb_n ?_ ?_ | refine goDGb_d ?_ ?_ | refine goDGb_split ?_ ?_) <;> intro h
         | ((first | refine goCall_norm ?_ | refine goDCall_norm ?_); simp only [AV.norm, AV.normL, W2, W2C, Go.Ab.W3, Int.reduceAdd, Int.reduceLT, Int.reduceToNat, Int.reduceBEq, Int.reduceBNe, Int.reduceLE, h10, wl, hw, hz, hkl, hkl', t1, t2, s1, take_len, beq_self_eq_true, Int.le_refl, List.length_map]; first | refine goCall_p (hh) (.inl rfl) ?_ | refine goCall_p (q1) (.inl rfl) ?_ | refine goCall_p (q2) (.inl rfl) ?_ | refine goCall_p (q3) (.inl rfl) ?_ | refine goCall_p (q4) (.inl rfl) ?_ | refine goCall_p (sameC_ok _ _) (.inl rfl) ?_ | refine goCall_p (wakes22_ok) (.inl rfl) ?_ | refine goDCall_p (hh) (.inl rfl) ?_ | refine goDCall_p (q1) (.inl rfl) ?_ | refine goDCall_p (q2) (.inl rfl) ?_ | refine goDCall_p (q3) (.inl rfl) ?_ | refine goDCall_p (q4) (.inl rfl) ?_ | refine goDCall_p (sameC_ok _ _) (.inl rfl) ?_ | refine goDCall_p (wakes22_ok) (.inl rfl) ?_)
         | refine go_draw (id := 11) C_ok mixed 1 Try.f4.ntmps rfl (by kernel_rfl) (by decide) ?_
         | refine goRound ?_ C_ok Try.f4.ntmps rfl (by decide)
         | skip) <;> simp only [h, ↓upd_eq, ↓envL_cons, Go.Ab.W0, Go.Ab.WD, Go.Ab.WE, if_true, if_false, reduceIte, Nat.reduceEqDiff, Nat.reduceAdd, Nat.reduceLT, Nat.reduceLeDiff, reduceCtorEq, Nat.reduceMul, implies_true, forall_eq_or_imp, forall_eq, Nat.reducePow, W1, W1C, Go.Ab.W3, Int.reduceAdd, Int.reduceLT, Int.reduceToNat, Int.reduceBEq, Int.reduceBNe, Int.reduceLE, h10, wl, hw, hz, hkl, hkl', t1, t2, s1, take_len, beq_self_eq_true, Int.le_refl, List.length_map, cutNormal_normal]
      | cons d m =>
        simp only [List.map_cons, List.length_cons] at t2 q4 hdl
        have hsol : (∀ y, y ∈ m.map embC → y.solid = true ∧ (cellsOf y).length = 5) = True := by
          simp only [eq_iff_iff, iff_true]; intro y hy; obtain ⟨t, _, rfl⟩ := List.mem_map.1 hy; exact ⟨embC_solid t, by rw [embC_cells]; rfl⟩
        have b1 : (1 + (m.length + 1) ≤ 9223372036854775807) = True := by simp only [eq_iff_iff, iff_true]; omega
        have b2 : ((1 + (m.length + 1)) * 56 ≤ 140737488355328) = True := by simp only [eq_iff_iff, iff_true]; omega
        refine pcalls_text C_ok Try.func4 rfl (by decide) (Nat.le_of_ble_eq_true rfl) (by decide) rfl fun ok H => ?_
        rw [Try.results4]
        have h := True.intro
        repeat' (first
         | (with_reducible first | refine goIf_b ?_ ?_ | refine goIf_n ?_ ?_ | refine goIf_d ?_ ?_ | refine goIf_split ?_ ?_ | refine goGb_b ?_ ?_ | refine goGb_n ?_ ?_ | refine goGb_d ?_ ?_ | refine goGb_split ?_ ?_ | refine goDGb_b ?_ ?_ | refine goDGb_n ?_ ?_ | refine goDGb_d ?_ ?_ | refine goDGb_split ?_ ?_) <;> intro h
         | ((first | refine goCall_norm ?_ | refine goDCall_norm ?_); simp only [AV.norm, AV.normL, W2, W2C, Go.Ab.W3, Int.reduceAdd, Int.reduceLT, Int.reduceToNat, Int.reduceBEq, Int.reduceBNe, Int.reduceLE, h10, wl, hw, hz, hkl, hkl', t1, t2, s1, b1, b2, hsol, mapC_norm, take_len, beq_self_eq_true, Int.le_refl, List.length_map]; first | refine goCall_p (hh) (.inl rfl) ?_ | refine goCall_p (q1) (.inl rfl) ?_ | refine goCall_p (q2) (.inl rfl) ?_ | refine goCall_p (q3) (.inl rfl) ?_ | refine goCall_p (q4) (.inl rfl) ?_ | refine goCall_p (sameC_ok _ _) (.inl rfl) ?_ | refine goCall_p (wakes22_ok) (.inl rfl) ?_ | refine goDCall_p (hh) (.inl rfl) ?_ | refine goDCall_p (q1) (.inl rfl) ?_ | refine goDCall_p (q2) (.inl rfl) ?_ | refine goDCall_p (q3) (.inl rfl) ?_ | refine goDCall_p (q4) (.inl rfl) ?_ | refine goDCall_p (sameC_ok _ _) (.inl rfl) ?_ | refine goDCall_p (wakes22_ok) (.inl rfl) ?_)
         | refine go_draw (id := 11) C_ok mixed 1 Try.f4.ntmps rfl (by kernel_rfl) (by decide) ?_
         | refine goRound ?_ C_ok Try.f4.ntmps rfl (by decide)
         | skip) <;> simp only [h, ↓upd_eq, ↓envL_cons, Go.Ab.W0, Go.Ab.WD, Go.Ab.WE, if_true, if_false, reduceIte, Nat.reduceEqDiff, Nat.reduceAdd, Nat.reduceLT, Nat.reduceLeDiff, reduceCtorEq, Nat.reduceMul, implies_true, forall_eq_or_imp, forall_eq, Nat.reducePow, W1, W1C, Go.Ab.W3, Int.reduceAdd, Int.reduceLT, Int.reduceToNat, Int.reduceBEq, Int.reduceBNe, Int.reduceLE, h10, wl, hw, hz, hkl, hkl', t1, t2, s1, b1, b2, hsol, mapC_norm, take_len, beq_self_eq_true, Int.le_refl, List.length_map, cutNormal_normal]
    · rw [if_neg e] at happ
      rw [happ] at q2
      have e' : ((allF (l.take k) idC).2 != 0) = true := by simpa using e
      generalize (allF (l.take k) idC).1 = a at *
      generalize (allF (l.take k) idC).2 = f at *
      refine pcalls_text C_ok Try.func4 rfl (by decide) (Nat.le_of_ble_eq_true rfl) (by decide) rfl fun ok H => ?_
      rw [Try.results4]
      have h := True.intro
      repeat' (first
       | (with_reducible first | refine goIf_b ?_ ?_ | refine goIf_n ?_ ?_ | refine goIf_d ?_ ?_ | refine goIf_split ?_ ?_ | refine goGb_b ?_ ?_ | refine goGb_n ?_ ?_ | refine goGb_d ?_ ?_ | refine goGb_split ?_ ?_ | refine goDGb_b ?_ ?_ | refine goDGb_n ?_ ?_ | refine goDGb_d ?_ ?_ | refine goDGb_split ?_ ?_) <;> intro h
       | ((first | refine goCall_norm ?_ | refine goDCall_norm ?_); simp only [AV.norm, AV.normL, W2, W2C, Go.Ab.W3, Int.reduceAdd, Int.reduceLT, Int.reduceToNat, Int.reduceBEq, Int.reduceBNe, Int.reduceLE, h10, wl, hw, hz, hkl, hkl', t1, e', take_len, beq_self_eq_true, Int.le_refl, List.length_map]; first | refine goCall_p (hh) (.inl rfl) ?_ | refine goCall_p (q1) (.inl rfl) ?_ | refine goCall_p (q2) (.inl rfl) ?_ | refine goCall_p (q3) (.inl rfl) ?_ | refine goCall_p (wakes22_ok) (.inl rfl) ?_ | refine goDCall_p (hh) (.inl rfl) ?_ | refine goDCall_p (q1) (.inl rfl) ?_ | refine goDCall_p (q2) (.inl rfl) ?_ | refine goDCall_p (q3) (.inl rfl) ?_ | refine goDCall_p (wakes22_ok) (.inl rfl) ?_)
       | refine go_draw (id := 11) C_ok mixed 1 Try.f4.ntmps rfl (by kernel_rfl) (by decide) ?_
       | refine goRound ?_ C_ok Try.f4.ntmps rfl (by decide)
       | skip) <;> simp only [h, ↓upd_eq, ↓envL_cons, Go.Ab.W0, Go.Ab.WD, Go.Ab.WE, if_true, if_false, reduceIte, Nat.reduceEqDiff, Nat.reduceAdd, Nat.reduceLT, Nat.reduceLeDiff, reduceCtorEq, Nat.reduceMul, implies_true, forall_eq_or_imp, forall_eq, Nat.reducePow, W1, W1C, Go.Ab.W3, Int.reduceAdd, Int.reduceLT, Int.reduceToNat, Int.reduceBEq, Int.reduceBNe, Int.reduceLE, h10, wl, hw, hz, hkl, hkl', t1, e', take_len, beq_self_eq_true, Int.le_refl, List.length_map, cutNormal_normal]

end Go.Proofs.Ytajdipeebpmifaa
