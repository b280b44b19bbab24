/- The law CompExact answers true, whatever the input. No condition. -/
import Derived.Test.YtajdipeebpmifaaPKa
set_option linter.unusedSimpArgs false
set_option linter.unusedVariables false
set_option maxHeartbeats 4000000
set_option maxRecDepth 100000
namespace Go.Proofs.Ytajdipeebpmifaa
open Go Go.Ab
attribute [local irreducible] PCalls ACalls CallK GoCall GoDCall GoIf GoGb GoDGb GoO GoD GoX GoDX GoG GoDG GoGv GoDGv Go ALoop

theorem rid_ok : PCalls Try.prog 33 [] (embC (.mk 1 0 0 false [])) := by
  refine pcalls_text C_ok Try.func33 rfl (by decide) (Nat.le_of_ble_eq_true rfl) (by decide) (embC_bel _ _) fun ok H => ?_
  rw [Try.results33]
  have h := True.intro
  repeat' (first
   | (with_reducible first | refine goIf_b ?_ ?_ | refine goIf_n ?_ ?_ | refine goIf_d ?_ ?_ | refine goIf_split ?_ ?_ | refine goGb_b ?_ ?_ | refine goGb_n ?_ ?_ | refine goGb_d ?_ ?_ | refine goGb_split ?_ ?_ | refine goDGb_b ?_ ?_ | refine goDGb_n ?_ ?_ | refine goDGb_d ?_ ?_ | refine goDGb_split ?_ ?_) <;> intro h
   | skip) <;> simp only [h, ↓upd_eq, ↓envL_cons, Go.Ab.W0, Go.Ab.WD, Go.Ab.WE, if_true, if_false, reduceIte, Nat.reduceEqDiff, Nat.reduceAdd, Nat.reduceLT, Nat.reduceLeDiff, reduceCtorEq, Nat.reduceMul, implies_true, forall_eq_or_imp, forall_eq, Nat.reducePow, W1, W1C]
theorem compExact_ok (c d : Co) (l : List Co) : PCalls Try.prog 3 [embC c, embC d, .sl (l.map embC) .no] (.bool true) := by
  cases hv : heavyC [c, d] with
  | true =>
    refine pcalls_text C_ok Try.func3 rfl (by decide) (Nat.le_of_ble_eq_true rfl) (by decide) rfl fun ok H => ?_
    rw [Try.results3]
    have h := True.intro
    repeat' (first
     | (with_reducible first | refine goIf_b ?_ ?_ | refine goIf_n ?_ ?_ | refine goIf_d ?_ ?_ | refine goIf_split ?_ ?_ | refine goGb_b ?_ ?_ | refine goGb_n ?_ ?_ | refine goGb_d ?_ ?_ | refine goGb_split ?_ ?_ | refine goDGb_b ?_ ?_ | refine goDGb_n ?_ ?_ | refine goDGb_d ?_ ?_ | refine goDGb_split ?_ ?_) <;> intro h
     | ((first | refine goCall_norm ?_ | refine goDCall_norm ?_); simp only [AV.norm, AV.normL, W2, W2C, Go.Ab.W3, Int.reduceAdd, Int.reduceLT, Int.reduceToNat, Int.reduceBEq, Int.reduceBNe, Int.reduceLE, hv]; first | refine goCall_p (heavyC2_ok _ _) (.inl rfl) ?_ | refine goDCall_p (heavyC2_ok _ _) (.inl rfl) ?_)
     | refine go_draw (id := 17) C_ok mixed 1 Try.f3.ntmps rfl (by kernel_rfl) (by decide) ?_
     | refine goRound ?_ C_ok Try.f3.ntmps rfl (by decide)
     | skip) <;> simp only [h, ↓upd_eq, ↓envL_cons, Go.Ab.W0, Go.Ab.WD, Go.Ab.WE, if_true, if_false, reduceIte, Nat.reduceEqDiff, Nat.reduceAdd, Nat.reduceLT, Nat.reduceLeDiff, reduceCtorEq, Nat.reduceMul, implies_true, forall_eq_or_imp, forall_eq, Nat.reducePow, W1, W1C, Go.Ab.W3, Int.reduceAdd, Int.reduceLT, Int.reduceToNat, Int.reduceBEq, Int.reduceBNe, Int.reduceLE, hv, cutNormal_normal]
  | false =>
  by_cases h10 : (l.length : Int) > 10
  · refine pcalls_text C_ok Try.func3 rfl (by decide) (Nat.le_of_ble_eq_true rfl) (by decide) rfl fun ok H => ?_
    rw [Try.results3]
    have h := True.intro
    repeat' (first
     | (with_reducible first | refine goIf_b ?_ ?_ | refine goIf_n ?_ ?_ | refine goIf_d ?_ ?_ | refine goIf_split ?_ ?_ | refine goGb_b ?_ ?_ | refine goGb_n ?_ ?_ | refine goGb_d ?_ ?_ | refine goGb_split ?_ ?_ | refine goDGb_b ?_ ?_ | refine goDGb_n ?_ ?_ | refine goDGb_d ?_ ?_ | refine goDGb_split ?_ ?_) <;> intro h
     | ((first | refine goCall_norm ?_ | refine goDCall_norm ?_); simp only [AV.norm, AV.normL, W2, W2C, Go.Ab.W3, Int.reduceAdd, Int.reduceLT, Int.reduceToNat, Int.reduceBEq, Int.reduceBNe, Int.reduceLE, hv, h10, List.length_map]; first | refine goCall_p (heavyC2_ok _ _) (.inl rfl) ?_ | refine goDCall_p (heavyC2_ok _ _) (.inl rfl) ?_)
     | refine go_draw (id := 17) C_ok mixed 1 Try.f3.ntmps rfl (by kernel_rfl) (by decide) ?_
     | refine goRound ?_ C_ok Try.f3.ntmps rfl (by decide)
     | skip) <;> simp only [h, ↓upd_eq, ↓envL_cons, Go.Ab.W0, Go.Ab.WD, Go.Ab.WE, if_true, if_false, reduceIte, Nat.reduceEqDiff, Nat.reduceAdd, Nat.reduceLT, Nat.reduceLeDiff, reduceCtorEq, Nat.reduceMul, implies_true, forall_eq_or_imp, forall_eq, Nat.reducePow, W1, W1C, Go.Ab.W3, Int.reduceAdd, Int.reduceLT, Int.reduceToNat, Int.reduceBEq, Int.reduceBNe, Int.reduceLE, hv, h10, List.length_map, cutNormal_normal]
  have hh := heavyC_ok l (by omega)
  cases hv' : heavyC l with
  | true =>
    rw [hv'] at hh
    refine pcalls_text C_ok Try.func3 rfl (by decide) (Nat.le_of_ble_eq_true rfl) (by decide) rfl fun ok H => ?_
    rw [Try.results3]
    have h := True.intro
    repeat' (first
     | (with_reducible first | refine goIf_b ?_ ?_ | refine goIf_n ?_ ?_ | refine goIf_d ?_ ?_ | refine goIf_split ?_ ?_ | refine goGb_b ?_ ?_ | refine goGb_n ?_ ?_ | refine goGb_d ?_ ?_ | refine goGb_split ?_ ?_ | refine goDGb_b ?_ ?_ | refine goDGb_n ?_ ?_ | refine goDGb_d ?_ ?_ | refine goDGb_split ?_ ?_) <;> intro h
     | ((first | refine goCall_norm ?_ | refine goDCall_norm ?_); simp only [AV.norm, AV.normL, W2, W2C, Go.Ab.W3, Int.reduceAdd, Int.reduceLT, Int.reduceToNat, Int.reduceBEq, Int.reduceBNe, Int.reduceLE, hv, h10, List.length_map]; first | refine goCall_p (heavyC2_ok _ _) (.inl rfl) ?_ | refine goCall_p (hh) (.inl rfl) ?_ | refine goDCall_p (heavyC2_ok _ _) (.inl rfl) ?_ | refine goDCall_p (hh) (.inl rfl) ?_)
     | refine go_draw (id := 17) C_ok mixed 1 Try.f3.ntmps rfl (by kernel_rfl) (by decide) ?_
     | refine goRound ?_ C_ok Try.f3.ntmps rfl (by decide)
     | skip) <;> simp only [h, ↓upd_eq, ↓envL_cons, Go.Ab.W0, Go.Ab.WD, Go.Ab.WE, if_true, if_false, reduceIte, Nat.reduceEqDiff, Nat.reduceAdd, Nat.reduceLT, Nat.reduceLeDiff, reduceCtorEq, Nat.reduceMul, implies_true, forall_eq_or_imp, forall_eq, Nat.reducePow, W1, W1C, Go.Ab.W3, Int.reduceAdd, Int.reduceLT, Int.reduceToNat, Int.reduceBEq, Int.reduceBNe, Int.reduceLE, hv, h10, List.length_map, cutNormal_normal]
  | false =>
    rw [hv'] at hh
    have hmax : l.length ≤ maxLen := by rw [maxLen_val]; omega
    have qa := all_ok l (by omega)
    have q := cJoinC_ok c d
    obtain ⟨A, E, hA⟩ : ∃ A E, allF l idC = (A, E) := ⟨_, _, rfl⟩
    rw [hA] at qa
    simp only at qa
    cases hc : rightC c with
    | false =>
      obtain ⟨e1, e2⟩ := joinE_bad (c := c) (d := d) (by rw [hc]; rfl)
      rw [e1, e2] at q
      unfold coNone at q
      refine pcalls_text C_ok Try.func3 rfl (by decide) (Nat.le_of_ble_eq_true rfl) (by decide) rfl fun ok H => ?_
      rw [Try.results3]
      have h := True.intro
      repeat' (first
       | (with_reducible first | refine goIf_b ?_ ?_ | refine goIf_n ?_ ?_ | refine goIf_d ?_ ?_ | refine goIf_split ?_ ?_ | refine goGb_b ?_ ?_ | refine goGb_n ?_ ?_ | refine goGb_d ?_ ?_ | refine goGb_split ?_ ?_ | refine goDGb_b ?_ ?_ | refine goDGb_n ?_ ?_ | refine goDGb_d ?_ ?_ | refine goDGb_split ?_ ?_) <;> intro h
       | ((first | refine goCall_norm ?_ | refine goDCall_norm ?_); simp only [AV.norm, AV.normL, W2, W2C, hv, h10, hc, List.length_map, beq_self_eq_true, bne_self_eq_false]; first | refine goCall_p (heavyC2_ok _ _) (.inl rfl) ?_ | refine goCall_p (hh) (.inl rfl) ?_ | refine goCall_p (q) (.inl rfl) ?_ | refine goCall_p (rrightC_ok _) (.inl rfl) ?_ | refine goCall_p (qa) (.inl rfl) ?_ | refine goCall_p (rid_ok) (.inl rfl) ?_ | refine goDCall_p (heavyC2_ok _ _) (.inl rfl) ?_ | refine goDCall_p (hh) (.inl rfl) ?_ | refine goDCall_p (q) (.inl rfl) ?_ | refine goDCall_p (rrightC_ok _) (.inl rfl) ?_ | refine goDCall_p (qa) (.inl rfl) ?_ | refine goDCall_p (rid_ok) (.inl rfl) ?_)
       | refine go_draw (id := 17) C_ok mixed 1 Try.f3.ntmps rfl (by kernel_rfl) (by decide) ?_
       | skip) <;> simp only [h, ↓upd_eq, ↓envL_cons, Go.Ab.W0, Go.Ab.WD, Go.Ab.WE, if_true, if_false, reduceIte, Nat.reduceEqDiff, Nat.reduceAdd, Nat.reduceLT, Nat.reduceLeDiff, reduceCtorEq, Nat.reduceMul, implies_true, forall_eq_or_imp, forall_eq, Nat.reducePow, W1, W1C, hv, h10, hc, List.length_map, beq_self_eq_true, bne_self_eq_false]
      refine aloop_trim [14, 15, 2, 11, 12, 13] ?_
      simp only [List.map_cons, List.map_nil, ↓upd_eq, ↓envL_cons, Go.Ab.W0, Go.Ab.WD, Go.Ab.WE, if_true, if_false, reduceIte, Nat.reduceEqDiff, Nat.reduceAdd, Nat.reduceLT, Nat.reduceLeDiff, reduceCtorEq, Nat.reduceMul, implies_true, forall_eq_or_imp, forall_eq, Nat.reducePow, W1, W1C]
      refine goLoopP 2 4 (fun x : Nat × Co × Int => [(14, .int .i64 x.2.2), (15, .int .i64 x.1)]) (fun x => [.box [.int .i64 x.2.1.kind, .int .i64 x.2.1.head, .int .i64 x.2.1.label, .bool x.2.1.neg, .sl (x.2.1.kids.map embC) .no]]) (fun x => x.1 ≤ l.length ∧ (x.2.2 = 0 → rightC x.2.1 = true ∧ allF (l.drop x.1) x.2.1 = (A, E)) ∧ (x.2.2 ≠ 0 → E = x.2.2)) (fun x => if x.2.2 = 0 then l.length - x.1 + 1 else 0) C_ok (0, idC, 0) rfl rfl ⟨Nat.zero_le _, fun _ => ⟨idC_right, hA⟩, fun h => absurd rfl h⟩ (by decide) ?_
      rintro ⟨i, b, wt⟩ ⟨hi, hr, hn⟩
      simp only at hi hr hn
      simp only [List.drop_succ_cons, List.drop_zero, List.cons_append, List.nil_append, List.take_succ_cons, List.take_zero]
      by_cases hw : wt = 0
      · subst hw
        obtain ⟨hb, hr⟩ := hr rfl
        clear hn
        by_cases hlt : i < l.length
        · rw [allF_at l b i hlt] at hr
          cases hd : rightC (l.getD i default) with
          | false =>
            have e1 := (joinE_bad (c := b) (d := l.getD i default) (by rw [hd, Bool.and_false])).1
            rw [e1, if_neg (by decide)] at hr
            obtain ⟨rfl, rfl⟩ := Prod.mk.inj hr
            have h := True.intro
            repeat' (first
             | (with_reducible first | refine goIf_b ?_ ?_ | refine goIf_n ?_ ?_ | refine goIf_d ?_ ?_ | refine goIf_split ?_ ?_ | refine goGb_b ?_ ?_ | refine goGb_n ?_ ?_ | refine goGb_d ?_ ?_ | refine goGb_split ?_ ?_ | refine goDGb_b ?_ ?_ | refine goDGb_n ?_ ?_ | refine goDGb_d ?_ ?_ | refine goDGb_split ?_ ?_) <;> intro h
             | ((first | refine goCall_norm ?_ | refine goDCall_norm ?_); simp only [AV.norm, AV.normL, W2, W2C, Go.Ab.W3, Int.reduceAdd, Int.reduceLT, Int.reduceToNat, Int.reduceBEq, Int.reduceBNe, Int.reduceLE, hlt, hd, mapC_get hlt, List.length_map]; first | refine goCall_p (rrightC_ok _) (.inl rfl) ?_ | refine goCall_p (wakes22_ok) (.inl rfl) ?_ | refine goDCall_p (rrightC_ok _) (.inl rfl) ?_ | refine goDCall_p (wakes22_ok) (.inl rfl) ?_)
             | refine go_draw (id := 17) C_ok mixed 1 Try.f3.ntmps rfl (by kernel_rfl) (by decide) ?_
             | refine goRound ?_ C_ok Try.f3.ntmps rfl (by decide)
             | skip) <;> simp only [h, ↓upd_eq, ↓envL_cons, Go.Ab.W0, Go.Ab.WD, Go.Ab.WE, if_true, if_false, reduceIte, Nat.reduceEqDiff, Nat.reduceAdd, Nat.reduceLT, Nat.reduceLeDiff, reduceCtorEq, Nat.reduceMul, implies_true, forall_eq_or_imp, forall_eq, Nat.reducePow, W1, W1C, Go.Ab.W3, Int.reduceAdd, Int.reduceLT, Int.reduceToNat, Int.reduceBEq, Int.reduceBNe, Int.reduceLE, hlt, hd, mapC_get hlt, List.length_map, cutNormal_normal]
          | true =>
            have q := rJoinC_ok b (l.getD i default) hb hd
            rcases joinE_good (c := b) (d := l.getD i default) (by rw [hb, hd]; rfl) with e | e
            · rw [if_pos e] at hr
              have hj := joinC_right e
              rw [e] at q
              generalize joinC b (l.getD i default) = j at q hr hj
              have h := True.intro
              repeat' (first
               | (with_reducible first | refine goIf_b ?_ ?_ | refine goIf_n ?_ ?_ | refine goIf_d ?_ ?_ | refine goIf_split ?_ ?_ | refine goGb_b ?_ ?_ | refine goGb_n ?_ ?_ | refine goGb_d ?_ ?_ | refine goGb_split ?_ ?_ | refine goDGb_b ?_ ?_ | refine goDGb_n ?_ ?_ | refine goDGb_d ?_ ?_ | refine goDGb_split ?_ ?_) <;> intro h
               | ((first | refine goCall_norm ?_ | refine goDCall_norm ?_); simp only [AV.norm, AV.normL, W2, W2C, Go.Ab.W3, Int.reduceAdd, Int.reduceLT, Int.reduceToNat, Int.reduceBEq, Int.reduceBNe, Int.reduceLE, hlt, hd, mapC_get hlt, List.length_map, beq_self_eq_true]; first | refine goCall_p (rrightC_ok _) (.inl rfl) ?_ | refine goCall_p (q) (.inl rfl) ?_ | refine goDCall_p (rrightC_ok _) (.inl rfl) ?_ | refine goDCall_p (q) (.inl rfl) ?_)
               | refine go_draw (id := 17) C_ok mixed 1 Try.f3.ntmps rfl (by kernel_rfl) (by decide) ?_
               | refine goRound ?_ C_ok Try.f3.ntmps rfl (by decide)
               | skip) <;> simp only [h, ↓upd_eq, ↓envL_cons, Go.Ab.W0, Go.Ab.WD, Go.Ab.WE, if_true, if_false, reduceIte, Nat.reduceEqDiff, Nat.reduceAdd, Nat.reduceLT, Nat.reduceLeDiff, reduceCtorEq, Nat.reduceMul, implies_true, forall_eq_or_imp, forall_eq, Nat.reducePow, W1, W1C, Go.Ab.W3, Int.reduceAdd, Int.reduceLT, Int.reduceToNat, Int.reduceBEq, Int.reduceBNe, Int.reduceLE, hlt, hd, mapC_get hlt, List.length_map, beq_self_eq_true, cutNormal_normal]
              refine ⟨(i + 1, j, 0), ⟨hlt, fun _ => ⟨hj, hr⟩, fun h => absurd rfl h⟩, by simp only [if_true]; omega, weak_drop rfl rfl rfl rfl ?_ ?_ ?_⟩
              all_goals simp only [List.forall_mem_cons, mem_nil_all, frz_app, ↓upd_eq, ↓envL_cons, Nat.reduceEqDiff, if_true, if_false, reduceIte, true_and, and_true, and_self, true_or, or_true, implies_true, List.not_mem_nil, false_implies, AV.bel, AV.belL, AObj.bel, AV.norm, AV.normL, Bool.and_true, Bool.true_and, decide_true, decide_eq_true_eq, List.length_cons, List.length_nil, Nat.zero_add, Nat.reduceAdd, Nat.lt_add_one, Nat.lt_add_right_iff_pos, Nat.zero_lt_succ, Nat.zero_lt_one, Nat.reduceLT, List.take_succ_cons, List.take_zero, wrap_succ hlt hmax, mapC_bel, AV.belL, List.length_map]
              all_goals omega
            · rw [if_neg (by rw [e]; decide), e] at hr
              have e0 : ((8 : Int) == 0) = false := by decide
              rw [e, joinC_none (by rw [e]; decide), e0] at q
              unfold coNone at q
              have hE := (Prod.mk.inj hr).2
              have h := True.intro
              repeat' (first
               | (with_reducible first | refine goIf_b ?_ ?_ | refine goIf_n ?_ ?_ | refine goIf_d ?_ ?_ | refine goIf_split ?_ ?_ | refine goGb_b ?_ ?_ | refine goGb_n ?_ ?_ | refine goGb_d ?_ ?_ | refine goGb_split ?_ ?_ | refine goDGb_b ?_ ?_ | refine goDGb_n ?_ ?_ | refine goDGb_d ?_ ?_ | refine goDGb_split ?_ ?_) <;> intro h
               | ((first | refine goCall_norm ?_ | refine goDCall_norm ?_); simp only [AV.norm, AV.normL, W2, W2C, Go.Ab.W3, Int.reduceAdd, Int.reduceLT, Int.reduceToNat, Int.reduceBEq, Int.reduceBNe, Int.reduceLE, hlt, hd, mapC_get hlt, List.length_map, beq_self_eq_true]; first | refine goCall_p (rrightC_ok _) (.inl rfl) ?_ | refine goCall_p (q) (.inl rfl) ?_ | refine goDCall_p (rrightC_ok _) (.inl rfl) ?_ | refine goDCall_p (q) (.inl rfl) ?_)
               | refine go_draw (id := 17) C_ok mixed 1 Try.f3.ntmps rfl (by kernel_rfl) (by decide) ?_
               | refine goRound ?_ C_ok Try.f3.ntmps rfl (by decide)
               | skip) <;> simp only [h, ↓upd_eq, ↓envL_cons, Go.Ab.W0, Go.Ab.WD, Go.Ab.WE, if_true, if_false, reduceIte, Nat.reduceEqDiff, Nat.reduceAdd, Nat.reduceLT, Nat.reduceLeDiff, reduceCtorEq, Nat.reduceMul, implies_true, forall_eq_or_imp, forall_eq, Nat.reducePow, W1, W1C, Go.Ab.W3, Int.reduceAdd, Int.reduceLT, Int.reduceToNat, Int.reduceBEq, Int.reduceBNe, Int.reduceLE, hlt, hd, mapC_get hlt, List.length_map, beq_self_eq_true, cutNormal_normal]
              refine ⟨(i + 1, .mk 0 0 0 false [], 8), ⟨hlt, fun h => absurd (show (8 : Int) = 0 from h) (by decide), fun _ => hE.symm⟩, by simp only; rw [if_neg (show ¬ (8 : Int) = 0 by decide)]; omega, weak_drop rfl rfl rfl rfl ?_ ?_ ?_⟩
              all_goals simp only [List.forall_mem_cons, mem_nil_all, frz_app, ↓upd_eq, ↓envL_cons, Nat.reduceEqDiff, if_true, if_false, reduceIte, true_and, and_true, and_self, true_or, or_true, implies_true, List.not_mem_nil, false_implies, AV.bel, AV.belL, AObj.bel, AV.norm, AV.normL, Bool.and_true, Bool.true_and, decide_true, decide_eq_true_eq, List.length_cons, List.length_nil, Nat.zero_add, Nat.reduceAdd, Nat.lt_add_one, Nat.lt_add_right_iff_pos, Nat.zero_lt_succ, Nat.zero_lt_one, Nat.reduceLT, List.take_succ_cons, List.take_zero, wrap_succ hlt hmax, mapC_bel, AV.belL, List.length_map, List.map_nil]
              all_goals omega
        · rw [List.drop_of_length_le (by omega), allF] at hr
          obtain ⟨rfl, rfl⟩ := Prod.mk.inj hr
          have hs := sameC_refl b
          have h := True.intro
          repeat' (first
           | (with_reducible first | refine goIf_b ?_ ?_ | refine goIf_n ?_ ?_ | refine goIf_d ?_ ?_ | refine goIf_split ?_ ?_ | refine goGb_b ?_ ?_ | refine goGb_n ?_ ?_ | refine goGb_d ?_ ?_ | refine goGb_split ?_ ?_ | refine goDGb_b ?_ ?_ | refine goDGb_n ?_ ?_ | refine goDGb_d ?_ ?_ | refine goDGb_split ?_ ?_) <;> intro h
           | ((first | refine goCall_norm ?_ | refine goDCall_norm ?_); simp only [AV.norm, AV.normL, W2, W2C, Go.Ab.W3, Int.reduceAdd, Int.reduceLT, Int.reduceToNat, Int.reduceBEq, Int.reduceBNe, Int.reduceLE, hlt, hs, List.length_map, beq_self_eq_true]; first | refine goCall_p (rsameC_ok _ _) (.inl rfl) ?_ | refine goCall_p (wakes22_ok) (.inl rfl) ?_ | refine goDCall_p (rsameC_ok _ _) (.inl rfl) ?_ | refine goDCall_p (wakes22_ok) (.inl rfl) ?_)
           | refine go_draw (id := 17) C_ok mixed 1 Try.f3.ntmps rfl (by kernel_rfl) (by decide) ?_
           | refine goRound ?_ C_ok Try.f3.ntmps rfl (by decide)
           | skip) <;> simp only [h, ↓upd_eq, ↓envL_cons, Go.Ab.W0, Go.Ab.WD, Go.Ab.WE, if_true, if_false, reduceIte, Nat.reduceEqDiff, Nat.reduceAdd, Nat.reduceLT, Nat.reduceLeDiff, reduceCtorEq, Nat.reduceMul, implies_true, forall_eq_or_imp, forall_eq, Nat.reducePow, W1, W1C, Go.Ab.W3, Int.reduceAdd, Int.reduceLT, Int.reduceToNat, Int.reduceBEq, Int.reduceBNe, Int.reduceLE, hlt, hs, List.length_map, beq_self_eq_true, cutNormal_normal]
      · clear hr
        have hE := hn hw
        subst hE
        have e1 : (E == 0) = false := by simpa using hw
        have e2 : (E != 0) = true := by simpa using hw
        by_cases hlt : i < l.length
        · have h := True.intro
          repeat' (first
           | (with_reducible first | refine goIf_b ?_ ?_ | refine goIf_n ?_ ?_ | refine goIf_d ?_ ?_ | refine goIf_split ?_ ?_ | refine goGb_b ?_ ?_ | refine goGb_n ?_ ?_ | refine goGb_d ?_ ?_ | refine goGb_split ?_ ?_ | refine goDGb_b ?_ ?_ | refine goDGb_n ?_ ?_ | refine goDGb_d ?_ ?_ | refine goDGb_split ?_ ?_) <;> intro h
           | ((first | refine goCall_norm ?_ | refine goDCall_norm ?_); simp only [AV.norm, AV.normL, W2, W2C, Go.Ab.W3, Int.reduceAdd, Int.reduceLT, Int.reduceToNat, Int.reduceBEq, Int.reduceBNe, Int.reduceLE, hlt, e1, e2, List.length_map, beq_self_eq_true]; first | refine goCall_p (wakes22_ok) (.inl rfl) ?_ | refine goDCall_p (wakes22_ok) (.inl rfl) ?_)
           | refine go_draw (id := 17) C_ok mixed 1 Try.f3.ntmps rfl (by kernel_rfl) (by decide) ?_
           | refine goRound ?_ C_ok Try.f3.ntmps rfl (by decide)
           | skip) <;> simp only [h, ↓upd_eq, ↓envL_cons, Go.Ab.W0, Go.Ab.WD, Go.Ab.WE, if_true, if_false, reduceIte, Nat.reduceEqDiff, Nat.reduceAdd, Nat.reduceLT, Nat.reduceLeDiff, reduceCtorEq, Nat.reduceMul, implies_true, forall_eq_or_imp, forall_eq, Nat.reducePow, W1, W1C, Go.Ab.W3, Int.reduceAdd, Int.reduceLT, Int.reduceToNat, Int.reduceBEq, Int.reduceBNe, Int.reduceLE, hlt, e1, e2, List.length_map, beq_self_eq_true, cutNormal_normal]
        · have h := True.intro
          repeat' (first
           | (with_reducible first | refine goIf_b ?_ ?_ | refine goIf_n ?_ ?_ | refine goIf_d ?_ ?_ | refine goIf_split ?_ ?_ | refine goGb_b ?_ ?_ | refine goGb_n ?_ ?_ | refine goGb_d ?_ ?_ | refine goGb_split ?_ ?_ | refine goDGb_b ?_ ?_ | refine goDGb_n ?_ ?_ | refine goDGb_d ?_ ?_ | refine goDGb_split ?_ ?_) <;> intro h
           | ((first | refine goCall_norm ?_ | refine goDCall_norm ?_); simp only [AV.norm, AV.normL, W2, W2C, Go.Ab.W3, Int.reduceAdd, Int.reduceLT, Int.reduceToNat, Int.reduceBEq, Int.reduceBNe, Int.reduceLE, hlt, e1, e2, List.length_map, beq_self_eq_true]; first | refine goCall_p (wakes22_ok) (.inl rfl) ?_ | refine goDCall_p (wakes22_ok) (.inl rfl) ?_)
           | refine go_draw (id := 17) C_ok mixed 1 Try.f3.ntmps rfl (by kernel_rfl) (by decide) ?_
           | refine goRound ?_ C_ok Try.f3.ntmps rfl (by decide)
           | skip) <;> simp only [h, ↓upd_eq, ↓envL_cons, Go.Ab.W0, Go.Ab.WD, Go.Ab.WE, if_true, if_false, reduceIte, Nat.reduceEqDiff, Nat.reduceAdd, Nat.reduceLT, Nat.reduceLeDiff, reduceCtorEq, Nat.reduceMul, implies_true, forall_eq_or_imp, forall_eq, Nat.reducePow, W1, W1C, Go.Ab.W3, Int.reduceAdd, Int.reduceLT, Int.reduceToNat, Int.reduceBEq, Int.reduceBNe, Int.reduceLE, hlt, e1, e2, List.length_map, beq_self_eq_true, cutNormal_normal]
    | true =>
      cases hd : rightC d with
      | false =>
        obtain ⟨e1, e2⟩ := joinE_bad (c := c) (d := d) (by rw [hd, Bool.and_false])
        rw [e1, e2] at q
        unfold coNone at q
        refine pcalls_text C_ok Try.func3 rfl (by decide) (Nat.le_of_ble_eq_true rfl) (by decide) rfl fun ok H => ?_
        rw [Try.results3]
        have h := True.intro
        repeat' (first
         | (with_reducible first | refine goIf_b ?_ ?_ | refine goIf_n ?_ ?_ | refine goIf_d ?_ ?_ | refine goIf_split ?_ ?_ | refine goGb_b ?_ ?_ | refine goGb_n ?_ ?_ | refine goGb_d ?_ ?_ | refine goGb_split ?_ ?_ | refine goDGb_b ?_ ?_ | refine goDGb_n ?_ ?_ | refine goDGb_d ?_ ?_ | refine goDGb_split ?_ ?_) <;> intro h
         | ((first | refine goCall_norm ?_ | refine goDCall_norm ?_); simp only [AV.norm, AV.normL, W2, W2C, hv, h10, hc, hd, List.length_map, beq_self_eq_true, bne_self_eq_false]; first | refine goCall_p (heavyC2_ok _ _) (.inl rfl) ?_ | refine goCall_p (hh) (.inl rfl) ?_ | refine goCall_p (q) (.inl rfl) ?_ | refine goCall_p (rrightC_ok _) (.inl rfl) ?_ | refine goCall_p (qa) (.inl rfl) ?_ | refine goCall_p (rid_ok) (.inl rfl) ?_ | refine goDCall_p (heavyC2_ok _ _) (.inl rfl) ?_ | refine goDCall_p (hh) (.inl rfl) ?_ | refine goDCall_p (q) (.inl rfl) ?_ | refine goDCall_p (rrightC_ok _) (.inl rfl) ?_ | refine goDCall_p (qa) (.inl rfl) ?_ | refine goDCall_p (rid_ok) (.inl rfl) ?_)
         | refine go_draw (id := 17) C_ok mixed 1 Try.f3.ntmps rfl (by kernel_rfl) (by decide) ?_
         | skip) <;> simp only [h, ↓upd_eq, ↓envL_cons, Go.Ab.W0, Go.Ab.WD, Go.Ab.WE, if_true, if_false, reduceIte, Nat.reduceEqDiff, Nat.reduceAdd, Nat.reduceLT, Nat.reduceLeDiff, reduceCtorEq, Nat.reduceMul, implies_true, forall_eq_or_imp, forall_eq, Nat.reducePow, W1, W1C, hv, h10, hc, hd, List.length_map, beq_self_eq_true, bne_self_eq_false]
        refine aloop_trim [14, 15, 2, 11, 12, 13] ?_
        simp only [List.map_cons, List.map_nil, ↓upd_eq, ↓envL_cons, Go.Ab.W0, Go.Ab.WD, Go.Ab.WE, if_true, if_false, reduceIte, Nat.reduceEqDiff, Nat.reduceAdd, Nat.reduceLT, Nat.reduceLeDiff, reduceCtorEq, Nat.reduceMul, implies_true, forall_eq_or_imp, forall_eq, Nat.reducePow, W1, W1C]
        refine goLoopP 2 4 (fun x : Nat × Co × Int => [(14, .int .i64 x.2.2), (15, .int .i64 x.1)]) (fun x => [.box [.int .i64 x.2.1.kind, .int .i64 x.2.1.head, .int .i64 x.2.1.label, .bool x.2.1.neg, .sl (x.2.1.kids.map embC) .no]]) (fun x => x.1 ≤ l.length ∧ (x.2.2 = 0 → rightC x.2.1 = true ∧ allF (l.drop x.1) x.2.1 = (A, E)) ∧ (x.2.2 ≠ 0 → E = x.2.2)) (fun x => if x.2.2 = 0 then l.length - x.1 + 1 else 0) C_ok (0, idC, 0) rfl rfl ⟨Nat.zero_le _, fun _ => ⟨idC_right, hA⟩, fun h => absurd rfl h⟩ (by decide) ?_
        rintro ⟨i, b, wt⟩ ⟨hi, hr, hn⟩
        simp only at hi hr hn
        simp only [List.drop_succ_cons, List.drop_zero, List.cons_append, List.nil_append, List.take_succ_cons, List.take_zero]
        by_cases hw : wt = 0
        · subst hw
          obtain ⟨hb, hr⟩ := hr rfl
          clear hn
          by_cases hlt : i < l.length
          · rw [allF_at l b i hlt] at hr
            cases hd : rightC (l.getD i default) with
            | false =>
              have e1 := (joinE_bad (c := b) (d := l.getD i default) (by rw [hd, Bool.and_false])).1
              rw [e1, if_neg (by decide)] at hr
              obtain ⟨rfl, rfl⟩ := Prod.mk.inj hr
              have h := True.intro
              repeat' (first
               | (with_reducible first | refine goIf_b ?_ ?_ | refine goIf_n ?_ ?_ | refine goIf_d ?_ ?_ | refine goIf_split ?_ ?_ | refine goGb_b ?_ ?_ | refine goGb_n ?_ ?_ | refine goGb_d ?_ ?_ | refine goGb_split ?_ ?_ | refine goDGb_b ?_ ?_ | refine goDGb_n ?_ ?_ | refine goDGb_d ?_ ?_ | refine goDGb_split ?_ ?_) <;> intro h
               | ((first | refine goCall_norm ?_ | refine goDCall_norm ?_); simp only [AV.norm, AV.normL, W2, W2C, Go.Ab.W3, Int.reduceAdd, Int.reduceLT, Int.reduceToNat, Int.reduceBEq, Int.reduceBNe, Int.reduceLE, hlt, hd, mapC_get hlt, List.length_map]; first | refine goCall_p (rrightC_ok _) (.inl rfl) ?_ | refine goCall_p (wakes22_ok) (.inl rfl) ?_ | refine goDCall_p (rrightC_ok _) (.inl rfl) ?_ | refine goDCall_p (wakes22_ok) (.inl rfl) ?_)
               | refine go_draw (id := 17) C_ok mixed 1 Try.f3.ntmps rfl (by kernel_rfl) (by decide) ?_
               | refine goRound ?_ C_ok Try.f3.ntmps rfl (by decide)
               | skip) <;> simp only [h, ↓upd_eq, ↓envL_cons, Go.Ab.W0, Go.Ab.WD, Go.Ab.WE, if_true, if_false, reduceIte, Nat.reduceEqDiff, Nat.reduceAdd, Nat.reduceLT, Nat.reduceLeDiff, reduceCtorEq, Nat.reduceMul, implies_true, forall_eq_or_imp, forall_eq, Nat.reducePow, W1, W1C, Go.Ab.W3, Int.reduceAdd, Int.reduceLT, Int.reduceToNat, Int.reduceBEq, Int.reduceBNe, Int.reduceLE, hlt, hd, mapC_get hlt, List.length_map, cutNormal_normal]
            | true =>
              have q := rJoinC_ok b (l.getD i default) hb hd
              rcases joinE_good (c := b) (d := l.getD i default) (by rw [hb, hd]; rfl) with e | e
              · rw [if_pos e] at hr
                have hj := joinC_right e
                rw [e] at q
                generalize joinC b (l.getD i default) = j at q hr hj
                have h := True.intro
                repeat' (first
                 | (with_reducible first | refine goIf_b ?_ ?_ | refine goIf_n ?_ ?_ | refine goIf_d ?_ ?_ | refine goIf_split ?_ ?_ | refine goGb_b ?_ ?_ | refine goGb_n ?_ ?_ | refine goGb_d ?_ ?_ | refine goGb_split ?_ ?_ | refine goDGb_b ?_ ?_ | refine goDGb_n ?_ ?_ | refine goDGb_d ?_ ?_ | refine goDGb_split ?_ ?_) <;> intro h
                 | ((first | refine goCall_norm ?_ | refine goDCall_norm ?_); simp only [AV.norm, AV.normL, W2, W2C, Go.Ab.W3, Int.reduceAdd, Int.reduceLT, Int.reduceToNat, Int.reduceBEq, Int.reduceBNe, Int.reduceLE, hlt, hd, mapC_get hlt, List.length_map, beq_self_eq_true]; first | refine goCall_p (rrightC_ok _) (.inl rfl) ?_ | refine goCall_p (q) (.inl rfl) ?_ | refine goDCall_p (rrightC_ok _) (.inl rfl) ?_ | refine goDCall_p (q) (.inl rfl) ?_)
                 | refine go_draw (id := 17) C_ok mixed 1 Try.f3.ntmps rfl (by kernel_rfl) (by decide) ?_
                 | refine goRound ?_ C_ok Try.f3.ntmps rfl (by decide)
                 | skip) <;> simp only [h, ↓upd_eq, ↓envL_cons, Go.Ab.W0, Go.Ab.WD, Go.Ab.WE, if_true, if_false, reduceIte, Nat.reduceEqDiff, Nat.reduceAdd, Nat.reduceLT, Nat.reduceLeDiff, reduceCtorEq, Nat.reduceMul, implies_true, forall_eq_or_imp, forall_eq, Nat.reducePow, W1, W1C, Go.Ab.W3, Int.reduceAdd, Int.reduceLT, Int.reduceToNat, Int.reduceBEq, Int.reduceBNe, Int.reduceLE, hlt, hd, mapC_get hlt, List.length_map, beq_self_eq_true, cutNormal_normal]
                refine ⟨(i + 1, j, 0), ⟨hlt, fun _ => ⟨hj, hr⟩, fun h => absurd rfl h⟩, by simp only [if_true]; omega, weak_drop rfl rfl rfl rfl ?_ ?_ ?_⟩
                all_goals simp only [List.forall_mem_cons, mem_nil_all, frz_app, ↓upd_eq, ↓envL_cons, Nat.reduceEqDiff, if_true, if_false, reduceIte, true_and, and_true, and_self, true_or, or_true, implies_true, List.not_mem_nil, false_implies, AV.bel, AV.belL, AObj.bel, AV.norm, AV.normL, Bool.and_true, Bool.true_and, decide_true, decide_eq_true_eq, List.length_cons, List.length_nil, Nat.zero_add, Nat.reduceAdd, Nat.lt_add_one, Nat.lt_add_right_iff_pos, Nat.zero_lt_succ, Nat.zero_lt_one, Nat.reduceLT, List.take_succ_cons, List.take_zero, wrap_succ hlt hmax, mapC_bel, AV.belL, List.length_map]
                all_goals omega
              · rw [if_neg (by rw [e]; decide), e] at hr
                have e0 : ((8 : Int) == 0) = false := by decide
                rw [e, joinC_none (by rw [e]; decide), e0] at q
                unfold coNone at q
                have hE := (Prod.mk.inj hr).2
                have h := True.intro
                repeat' (first
                 | (with_reducible first | refine goIf_b ?_ ?_ | refine goIf_n ?_ ?_ | refine goIf_d ?_ ?_ | refine goIf_split ?_ ?_ | refine goGb_b ?_ ?_ | refine goGb_n ?_ ?_ | refine goGb_d ?_ ?_ | refine goGb_split ?_ ?_ | refine goDGb_b ?_ ?_ | refine goDGb_n ?_ ?_ | refine goDGb_d ?_ ?_ | refine goDGb_split ?_ ?_) <;> intro h
                 | ((first | refine goCall_norm ?_ | refine goDCall_norm ?_); simp only [AV.norm, AV.normL, W2, W2C, Go.Ab.W3, Int.reduceAdd, Int.reduceLT, Int.reduceToNat, Int.reduceBEq, Int.reduceBNe, Int.reduceLE, hlt, hd, mapC_get hlt, List.length_map, beq_self_eq_true]; first | refine goCall_p (rrightC_ok _) (.inl rfl) ?_ | refine goCall_p (q) (.inl rfl) ?_ | refine goDCall_p (rrightC_ok _) (.inl rfl) ?_ | refine goDCall_p (q) (.inl rfl) ?_)
                 | refine go_draw (id := 17) C_ok mixed 1 Try.f3.ntmps rfl (by kernel_rfl) (by decide) ?_
                 | refine goRound ?_ C_ok Try.f3.ntmps rfl (by decide)
                 | skip) <;> simp only [h, ↓upd_eq, ↓envL_cons, Go.Ab.W0, Go.Ab.WD, Go.Ab.WE, if_true, if_false, reduceIte, Nat.reduceEqDiff, Nat.reduceAdd, Nat.reduceLT, Nat.reduceLeDiff, reduceCtorEq, Nat.reduceMul, implies_true, forall_eq_or_imp, forall_eq, Nat.reducePow, W1, W1C, Go.Ab.W3, Int.reduceAdd, Int.reduceLT, Int.reduceToNat, Int.reduceBEq, Int.reduceBNe, Int.reduceLE, hlt, hd, mapC_get hlt, List.length_map, beq_self_eq_true, cutNormal_normal]
                refine ⟨(i + 1, .mk 0 0 0 false [], 8), ⟨hlt, fun h => absurd (show (8 : Int) = 0 from h) (by decide), fun _ => hE.symm⟩, by simp only; rw [if_neg (show ¬ (8 : Int) = 0 by decide)]; omega, weak_drop rfl rfl rfl rfl ?_ ?_ ?_⟩
                all_goals simp only [List.forall_mem_cons, mem_nil_all, frz_app, ↓upd_eq, ↓envL_cons, Nat.reduceEqDiff, if_true, if_false, reduceIte, true_and, and_true, and_self, true_or, or_true, implies_true, List.not_mem_nil, false_implies, AV.bel, AV.belL, AObj.bel, AV.norm, AV.normL, Bool.and_true, Bool.true_and, decide_true, decide_eq_true_eq, List.length_cons, List.length_nil, Nat.zero_add, Nat.reduceAdd, Nat.lt_add_one, Nat.lt_add_right_iff_pos, Nat.zero_lt_succ, Nat.zero_lt_one, Nat.reduceLT, List.take_succ_cons, List.take_zero, wrap_succ hlt hmax, mapC_bel, AV.belL, List.length_map, List.map_nil]
                all_goals omega
          · rw [List.drop_of_length_le (by omega), allF] at hr
            obtain ⟨rfl, rfl⟩ := Prod.mk.inj hr
            have hs := sameC_refl b
            have h := True.intro
            repeat' (first
             | (with_reducible first | refine goIf_b ?_ ?_ | refine goIf_n ?_ ?_ | refine goIf_d ?_ ?_ | refine goIf_split ?_ ?_ | refine goGb_b ?_ ?_ | refine goGb_n ?_ ?_ | refine goGb_d ?_ ?_ | refine goGb_split ?_ ?_ | refine goDGb_b ?_ ?_ | refine goDGb_n ?_ ?_ | refine goDGb_d ?_ ?_ | refine goDGb_split ?_ ?_) <;> intro h
             | ((first | refine goCall_norm ?_ | refine goDCall_norm ?_); simp only [AV.norm, AV.normL, W2, W2C, Go.Ab.W3, Int.reduceAdd, Int.reduceLT, Int.reduceToNat, Int.reduceBEq, Int.reduceBNe, Int.reduceLE, hlt, hs, List.length_map, beq_self_eq_true]; first | refine goCall_p (rsameC_ok _ _) (.inl rfl) ?_ | refine goCall_p (wakes22_ok) (.inl rfl) ?_ | refine goDCall_p (rsameC_ok _ _) (.inl rfl) ?_ | refine goDCall_p (wakes22_ok) (.inl rfl) ?_)
             | refine go_draw (id := 17) C_ok mixed 1 Try.f3.ntmps rfl (by kernel_rfl) (by decide) ?_
             | refine goRound ?_ C_ok Try.f3.ntmps rfl (by decide)
             | skip) <;> simp only [h, ↓upd_eq, ↓envL_cons, Go.Ab.W0, Go.Ab.WD, Go.Ab.WE, if_true, if_false, reduceIte, Nat.reduceEqDiff, Nat.reduceAdd, Nat.reduceLT, Nat.reduceLeDiff, reduceCtorEq, Nat.reduceMul, implies_true, forall_eq_or_imp, forall_eq, Nat.reducePow, W1, W1C, Go.Ab.W3, Int.reduceAdd, Int.reduceLT, Int.reduceToNat, Int.reduceBEq, Int.reduceBNe, Int.reduceLE, hlt, hs, List.length_map, beq_self_eq_true, cutNormal_normal]
        · clear hr
          have hE := hn hw
          subst hE
          have e1 : (E == 0) = false := by simpa using hw
          have e2 : (E != 0) = true := by simpa using hw
          by_cases hlt : i < l.length
          · have h := True.intro
            repeat' (first
             | (with_reducible first | refine goIf_b ?_ ?_ | refine goIf_n ?_ ?_ | refine goIf_d ?_ ?_ | refine goIf_split ?_ ?_ | refine goGb_b ?_ ?_ | refine goGb_n ?_ ?_ | refine goGb_d ?_ ?_ | refine goGb_split ?_ ?_ | refine goDGb_b ?_ ?_ | refine goDGb_n ?_ ?_ | refine goDGb_d ?_ ?_ | refine goDGb_split ?_ ?_) <;> intro h
             | ((first | refine goCall_norm ?_ | refine goDCall_norm ?_); simp only [AV.norm, AV.normL, W2, W2C, Go.Ab.W3, Int.reduceAdd, Int.reduceLT, Int.reduceToNat, Int.reduceBEq, Int.reduceBNe, Int.reduceLE, hlt, e1, e2, List.length_map, beq_self_eq_true]; first | refine goCall_p (wakes22_ok) (.inl rfl) ?_ | refine goDCall_p (wakes22_ok) (.inl rfl) ?_)
             | refine go_draw (id := 17) C_ok mixed 1 Try.f3.ntmps rfl (by kernel_rfl) (by decide) ?_
             | refine goRound ?_ C_ok Try.f3.ntmps rfl (by decide)
             | skip) <;> simp only [h, ↓upd_eq, ↓envL_cons, Go.Ab.W0, Go.Ab.WD, Go.Ab.WE, if_true, if_false, reduceIte, Nat.reduceEqDiff, Nat.reduceAdd, Nat.reduceLT, Nat.reduceLeDiff, reduceCtorEq, Nat.reduceMul, implies_true, forall_eq_or_imp, forall_eq, Nat.reducePow, W1, W1C, Go.Ab.W3, Int.reduceAdd, Int.reduceLT, Int.reduceToNat, Int.reduceBEq, Int.reduceBNe, Int.reduceLE, hlt, e1, e2, List.length_map, beq_self_eq_true, cutNormal_normal]
          · have h := True.intro
            repeat' (first
             | (with_reducible first | refine goIf_b ?_ ?_ | refine goIf_n ?_ ?_ | refine goIf_d ?_ ?_ | refine goIf_split ?_ ?_ | refine goGb_b ?_ ?_ | refine goGb_n ?_ ?_ | refine goGb_d ?_ ?_ | refine goGb_split ?_ ?_ | refine goDGb_b ?_ ?_ | refine goDGb_n ?_ ?_ | refine goDGb_d ?_ ?_ | refine goDGb_split ?_ ?_) <;> intro h
             | ((first | refine goCall_norm ?_ | refine goDCall_norm ?_); simp only [AV.norm, AV.normL, W2, W2C, Go.Ab.W3, Int.reduceAdd, Int.reduceLT, Int.reduceToNat, Int.reduceBEq, Int.reduceBNe, Int.reduceLE, hlt, e1, e2, List.length_map, beq_self_eq_true]; first | refine goCall_p (wakes22_ok) (.inl rfl) ?_ | refine goDCall_p (wakes22_ok) (.inl rfl) ?_)
             | refine go_draw (id := 17) C_ok mixed 1 Try.f3.ntmps rfl (by kernel_rfl) (by decide) ?_
             | refine goRound ?_ C_ok Try.f3.ntmps rfl (by decide)
             | skip) <;> simp only [h, ↓upd_eq, ↓envL_cons, Go.Ab.W0, Go.Ab.WD, Go.Ab.WE, if_true, if_false, reduceIte, Nat.reduceEqDiff, Nat.reduceAdd, Nat.reduceLT, Nat.reduceLeDiff, reduceCtorEq, Nat.reduceMul, implies_true, forall_eq_or_imp, forall_eq, Nat.reducePow, W1, W1C, Go.Ab.W3, Int.reduceAdd, Int.reduceLT, Int.reduceToNat, Int.reduceBEq, Int.reduceBNe, Int.reduceLE, hlt, e1, e2, List.length_map, beq_self_eq_true, cutNormal_normal]
      | true =>
        have q' := rJoinC_ok c d hc hd
        rcases joinE_good (c := c) (d := d) (by rw [hc, hd]; rfl) with e | e
        · have hs := sameC_refl (joinC c d)
          rw [e] at q q'
          generalize joinC c d = j at q q' hs
          refine pcalls_text C_ok Try.func3 rfl (by decide) (Nat.le_of_ble_eq_true rfl) (by decide) rfl fun ok H => ?_
          rw [Try.results3]
          have h := True.intro
          repeat' (first
           | (with_reducible first | refine goIf_b ?_ ?_ | refine goIf_n ?_ ?_ | refine goIf_d ?_ ?_ | refine goIf_split ?_ ?_ | refine goGb_b ?_ ?_ | refine goGb_n ?_ ?_ | refine goGb_d ?_ ?_ | refine goGb_split ?_ ?_ | refine goDGb_b ?_ ?_ | refine goDGb_n ?_ ?_ | refine goDGb_d ?_ ?_ | refine goDGb_split ?_ ?_) <;> intro h
           | ((first | refine goCall_norm ?_ | refine goDCall_norm ?_); simp only [AV.norm, AV.normL, W2, W2C, hv, h10, hc, hd, hs, beq_self_eq_true, bne_self_eq_false, List.length_map]; first | refine goCall_p (heavyC2_ok _ _) (.inl rfl) ?_ | refine goCall_p (hh) (.inl rfl) ?_ | refine goCall_p (q) (.inl rfl) ?_ | refine goCall_p (q') (.inl rfl) ?_ | refine goCall_p (rrightC_ok _) (.inl rfl) ?_ | refine goCall_p (rsameC_ok _ _) (.inl rfl) ?_ | refine goCall_p (qa) (.inl rfl) ?_ | refine goCall_p (rid_ok) (.inl rfl) ?_ | refine goDCall_p (heavyC2_ok _ _) (.inl rfl) ?_ | refine goDCall_p (hh) (.inl rfl) ?_ | refine goDCall_p (q) (.inl rfl) ?_ | refine goDCall_p (q') (.inl rfl) ?_ | refine goDCall_p (rrightC_ok _) (.inl rfl) ?_ | refine goDCall_p (rsameC_ok _ _) (.inl rfl) ?_ | refine goDCall_p (qa) (.inl rfl) ?_ | refine goDCall_p (rid_ok) (.inl rfl) ?_)
           | refine go_draw (id := 17) C_ok mixed 1 Try.f3.ntmps rfl (by kernel_rfl) (by decide) ?_
           | skip) <;> simp only [h, ↓upd_eq, ↓envL_cons, Go.Ab.W0, Go.Ab.WD, Go.Ab.WE, if_true, if_false, reduceIte, Nat.reduceEqDiff, Nat.reduceAdd, Nat.reduceLT, Nat.reduceLeDiff, reduceCtorEq, Nat.reduceMul, implies_true, forall_eq_or_imp, forall_eq, Nat.reducePow, W1, W1C, hv, h10, hc, hd, hs, beq_self_eq_true, bne_self_eq_false, List.length_map]
          refine aloop_trim [14, 15, 2, 11, 12, 13] ?_
          simp only [List.map_cons, List.map_nil, ↓upd_eq, ↓envL_cons, Go.Ab.W0, Go.Ab.WD, Go.Ab.WE, if_true, if_false, reduceIte, Nat.reduceEqDiff, Nat.reduceAdd, Nat.reduceLT, Nat.reduceLeDiff, reduceCtorEq, Nat.reduceMul, implies_true, forall_eq_or_imp, forall_eq, Nat.reducePow, W1, W1C]
          refine goLoopP 2 5 (fun x : Nat × Co × Int => [(14, .int .i64 x.2.2), (15, .int .i64 x.1)]) (fun x => [.box [.int .i64 x.2.1.kind, .int .i64 x.2.1.head, .int .i64 x.2.1.label, .bool x.2.1.neg, .sl (x.2.1.kids.map embC) .no]]) (fun x => x.1 ≤ l.length ∧ (x.2.2 = 0 → rightC x.2.1 = true ∧ allF (l.drop x.1) x.2.1 = (A, E)) ∧ (x.2.2 ≠ 0 → E = x.2.2)) (fun x => if x.2.2 = 0 then l.length - x.1 + 1 else 0) C_ok (0, idC, 0) rfl rfl ⟨Nat.zero_le _, fun _ => ⟨idC_right, hA⟩, fun h => absurd rfl h⟩ (by decide) ?_
          rintro ⟨i, b, wt⟩ ⟨hi, hr, hn⟩
          simp only at hi hr hn
          simp only [List.drop_succ_cons, List.drop_zero, List.cons_append, List.nil_append, List.take_succ_cons, List.take_zero]
          by_cases hw : wt = 0
          · subst hw
            obtain ⟨hb, hr⟩ := hr rfl
            clear hn
            by_cases hlt : i < l.length
            · rw [allF_at l b i hlt] at hr
              cases hd : rightC (l.getD i default) with
              | false =>
                have e1 := (joinE_bad (c := b) (d := l.getD i default) (by rw [hd, Bool.and_false])).1
                rw [e1, if_neg (by decide)] at hr
                obtain ⟨rfl, rfl⟩ := Prod.mk.inj hr
                have h := True.intro
                repeat' (first
                 | (with_reducible first | refine goIf_b ?_ ?_ | refine goIf_n ?_ ?_ | refine goIf_d ?_ ?_ | refine goIf_split ?_ ?_ | refine goGb_b ?_ ?_ | refine goGb_n ?_ ?_ | refine goGb_d ?_ ?_ | refine goGb_split ?_ ?_ | refine goDGb_b ?_ ?_ | refine goDGb_n ?_ ?_ | refine goDGb_d ?_ ?_ | refine goDGb_split ?_ ?_) <;> intro h
                 | ((first | refine goCall_norm ?_ | refine goDCall_norm ?_); simp only [AV.norm, AV.normL, W2, W2C, Go.Ab.W3, Int.reduceAdd, Int.reduceLT, Int.reduceToNat, Int.reduceBEq, Int.reduceBNe, Int.reduceLE, hlt, hd, mapC_get hlt, List.length_map]; first | refine goCall_p (rrightC_ok _) (.inl rfl) ?_ | refine goCall_p (wakes22_ok) (.inl rfl) ?_ | refine goDCall_p (rrightC_ok _) (.inl rfl) ?_ | refine goDCall_p (wakes22_ok) (.inl rfl) ?_)
                 | refine go_draw (id := 17) C_ok mixed 1 Try.f3.ntmps rfl (by kernel_rfl) (by decide) ?_
                 | refine goRound ?_ C_ok Try.f3.ntmps rfl (by decide)
                 | skip) <;> simp only [h, ↓upd_eq, ↓envL_cons, Go.Ab.W0, Go.Ab.WD, Go.Ab.WE, if_true, if_false, reduceIte, Nat.reduceEqDiff, Nat.reduceAdd, Nat.reduceLT, Nat.reduceLeDiff, reduceCtorEq, Nat.reduceMul, implies_true, forall_eq_or_imp, forall_eq, Nat.reducePow, W1, W1C, Go.Ab.W3, Int.reduceAdd, Int.reduceLT, Int.reduceToNat, Int.reduceBEq, Int.reduceBNe, Int.reduceLE, hlt, hd, mapC_get hlt, List.length_map, cutNormal_normal]
              | true =>
                have q := rJoinC_ok b (l.getD i default) hb hd
                rcases joinE_good (c := b) (d := l.getD i default) (by rw [hb, hd]; rfl) with e | e
                · rw [if_pos e] at hr
                  have hj := joinC_right e
                  rw [e] at q
                  generalize joinC b (l.getD i default) = j at q hr hj
                  have h := True.intro
                  repeat' (first
                   | (with_reducible first | refine goIf_b ?_ ?_ | refine goIf_n ?_ ?_ | refine goIf_d ?_ ?_ | refine goIf_split ?_ ?_ | refine goGb_b ?_ ?_ | refine goGb_n ?_ ?_ | refine goGb_d ?_ ?_ | refine goGb_split ?_ ?_ | refine goDGb_b ?_ ?_ | refine goDGb_n ?_ ?_ | refine goDGb_d ?_ ?_ | refine goDGb_split ?_ ?_) <;> intro h
                   | ((first | refine goCall_norm ?_ | refine goDCall_norm ?_); simp only [AV.norm, AV.normL, W2, W2C, Go.Ab.W3, Int.reduceAdd, Int.reduceLT, Int.reduceToNat, Int.reduceBEq, Int.reduceBNe, Int.reduceLE, hlt, hd, mapC_get hlt, List.length_map, beq_self_eq_true]; first | refine goCall_p (rrightC_ok _) (.inl rfl) ?_ | refine goCall_p (q) (.inl rfl) ?_ | refine goDCall_p (rrightC_ok _) (.inl rfl) ?_ | refine goDCall_p (q) (.inl rfl) ?_)
                   | refine go_draw (id := 17) C_ok mixed 1 Try.f3.ntmps rfl (by kernel_rfl) (by decide) ?_
                   | refine goRound ?_ C_ok Try.f3.ntmps rfl (by decide)
                   | skip) <;> simp only [h, ↓upd_eq, ↓envL_cons, Go.Ab.W0, Go.Ab.WD, Go.Ab.WE, if_true, if_false, reduceIte, Nat.reduceEqDiff, Nat.reduceAdd, Nat.reduceLT, Nat.reduceLeDiff, reduceCtorEq, Nat.reduceMul, implies_true, forall_eq_or_imp, forall_eq, Nat.reducePow, W1, W1C, Go.Ab.W3, Int.reduceAdd, Int.reduceLT, Int.reduceToNat, Int.reduceBEq, Int.reduceBNe, Int.reduceLE, hlt, hd, mapC_get hlt, List.length_map, beq_self_eq_true, cutNormal_normal]
                  refine ⟨(i + 1, j, 0), ⟨hlt, fun _ => ⟨hj, hr⟩, fun h => absurd rfl h⟩, by simp only [if_true]; omega, weak_drop rfl rfl rfl rfl ?_ ?_ ?_⟩
                  all_goals simp only [List.forall_mem_cons, mem_nil_all, frz_app, ↓upd_eq, ↓envL_cons, Nat.reduceEqDiff, if_true, if_false, reduceIte, true_and, and_true, and_self, true_or, or_true, implies_true, List.not_mem_nil, false_implies, AV.bel, AV.belL, AObj.bel, AV.norm, AV.normL, Bool.and_true, Bool.true_and, decide_true, decide_eq_true_eq, List.length_cons, List.length_nil, Nat.zero_add, Nat.reduceAdd, Nat.lt_add_one, Nat.lt_add_right_iff_pos, Nat.zero_lt_succ, Nat.zero_lt_one, Nat.reduceLT, List.take_succ_cons, List.take_zero, wrap_succ hlt hmax, mapC_bel, AV.belL, List.length_map]
                  all_goals omega
                · rw [if_neg (by rw [e]; decide), e] at hr
                  have e0 : ((8 : Int) == 0) = false := by decide
                  rw [e, joinC_none (by rw [e]; decide), e0] at q
                  unfold coNone at q
                  have hE := (Prod.mk.inj hr).2
                  have h := True.intro
                  repeat' (first
                   | (with_reducible first | refine goIf_b ?_ ?_ | refine goIf_n ?_ ?_ | refine goIf_d ?_ ?_ | refine goIf_split ?_ ?_ | refine goGb_b ?_ ?_ | refine goGb_n ?_ ?_ | refine goGb_d ?_ ?_ | refine goGb_split ?_ ?_ | refine goDGb_b ?_ ?_ | refine goDGb_n ?_ ?_ | refine goDGb_d ?_ ?_ | refine goDGb_split ?_ ?_) <;> intro h
                   | ((first | refine goCall_norm ?_ | refine goDCall_norm ?_); simp only [AV.norm, AV.normL, W2, W2C, Go.Ab.W3, Int.reduceAdd, Int.reduceLT, Int.reduceToNat, Int.reduceBEq, Int.reduceBNe, Int.reduceLE, hlt, hd, mapC_get hlt, List.length_map, beq_self_eq_true]; first | refine goCall_p (rrightC_ok _) (.inl rfl) ?_ | refine goCall_p (q) (.inl rfl) ?_ | refine goDCall_p (rrightC_ok _) (.inl rfl) ?_ | refine goDCall_p (q) (.inl rfl) ?_)
                   | refine go_draw (id := 17) C_ok mixed 1 Try.f3.ntmps rfl (by kernel_rfl) (by decide) ?_
                   | refine goRound ?_ C_ok Try.f3.ntmps rfl (by decide)
                   | skip) <;> simp only [h, ↓upd_eq, ↓envL_cons, Go.Ab.W0, Go.Ab.WD, Go.Ab.WE, if_true, if_false, reduceIte, Nat.reduceEqDiff, Nat.reduceAdd, Nat.reduceLT, Nat.reduceLeDiff, reduceCtorEq, Nat.reduceMul, implies_true, forall_eq_or_imp, forall_eq, Nat.reducePow, W1, W1C, Go.Ab.W3, Int.reduceAdd, Int.reduceLT, Int.reduceToNat, Int.reduceBEq, Int.reduceBNe, Int.reduceLE, hlt, hd, mapC_get hlt, List.length_map, beq_self_eq_true, cutNormal_normal]
                  refine ⟨(i + 1, .mk 0 0 0 false [], 8), ⟨hlt, fun h => absurd (show (8 : Int) = 0 from h) (by decide), fun _ => hE.symm⟩, by simp only; rw [if_neg (show ¬ (8 : Int) = 0 by decide)]; omega, weak_drop rfl rfl rfl rfl ?_ ?_ ?_⟩
                  all_goals simp only [List.forall_mem_cons, mem_nil_all, frz_app, ↓upd_eq, ↓envL_cons, Nat.reduceEqDiff, if_true, if_false, reduceIte, true_and, and_true, and_self, true_or, or_true, implies_true, List.not_mem_nil, false_implies, AV.bel, AV.belL, AObj.bel, AV.norm, AV.normL, Bool.and_true, Bool.true_and, decide_true, decide_eq_true_eq, List.length_cons, List.length_nil, Nat.zero_add, Nat.reduceAdd, Nat.lt_add_one, Nat.lt_add_right_iff_pos, Nat.zero_lt_succ, Nat.zero_lt_one, Nat.reduceLT, List.take_succ_cons, List.take_zero, wrap_succ hlt hmax, mapC_bel, AV.belL, List.length_map, List.map_nil]
                  all_goals omega
            · rw [List.drop_of_length_le (by omega), allF] at hr
              obtain ⟨rfl, rfl⟩ := Prod.mk.inj hr
              have hs := sameC_refl b
              have h := True.intro
              repeat' (first
               | (with_reducible first | refine goIf_b ?_ ?_ | refine goIf_n ?_ ?_ | refine goIf_d ?_ ?_ | refine goIf_split ?_ ?_ | refine goGb_b ?_ ?_ | refine goGb_n ?_ ?_ | refine goGb_d ?_ ?_ | refine goGb_split ?_ ?_ | refine goDGb_b ?_ ?_ | refine goDGb_n ?_ ?_ | refine goDGb_d ?_ ?_ | refine goDGb_split ?_ ?_) <;> intro h
               | ((first | refine goCall_norm ?_ | refine goDCall_norm ?_); simp only [AV.norm, AV.normL, W2, W2C, Go.Ab.W3, Int.reduceAdd, Int.reduceLT, Int.reduceToNat, Int.reduceBEq, Int.reduceBNe, Int.reduceLE, hlt, hs, List.length_map, beq_self_eq_true]; first | refine goCall_p (rsameC_ok _ _) (.inl rfl) ?_ | refine goCall_p (wakes22_ok) (.inl rfl) ?_ | refine goDCall_p (rsameC_ok _ _) (.inl rfl) ?_ | refine goDCall_p (wakes22_ok) (.inl rfl) ?_)
               | refine go_draw (id := 17) C_ok mixed 1 Try.f3.ntmps rfl (by kernel_rfl) (by decide) ?_
               | refine goRound ?_ C_ok Try.f3.ntmps rfl (by decide)
               | skip) <;> simp only [h, ↓upd_eq, ↓envL_cons, Go.Ab.W0, Go.Ab.WD, Go.Ab.WE, if_true, if_false, reduceIte, Nat.reduceEqDiff, Nat.reduceAdd, Nat.reduceLT, Nat.reduceLeDiff, reduceCtorEq, Nat.reduceMul, implies_true, forall_eq_or_imp, forall_eq, Nat.reducePow, W1, W1C, Go.Ab.W3, Int.reduceAdd, Int.reduceLT, Int.reduceToNat, Int.reduceBEq, Int.reduceBNe, Int.reduceLE, hlt, hs, List.length_map, beq_self_eq_true, cutNormal_normal]
          · clear hr
            have hE := hn hw
            subst hE
            have e1 : (E == 0) = false := by simpa using hw
            have e2 : (E != 0) = true := by simpa using hw
            by_cases hlt : i < l.length
            · have h := True.intro
              repeat' (first
               | (with_reducible first | refine goIf_b ?_ ?_ | refine goIf_n ?_ ?_ | refine goIf_d ?_ ?_ | refine goIf_split ?_ ?_ | refine goGb_b ?_ ?_ | refine goGb_n ?_ ?_ | refine goGb_d ?_ ?_ | refine goGb_split ?_ ?_ | refine goDGb_b ?_ ?_ | refine goDGb_n ?_ ?_ | refine goDGb_d ?_ ?_ | refine goDGb_split ?_ ?_) <;> intro h
               | ((first | refine goCall_norm ?_ | refine goDCall_norm ?_); simp only [AV.norm, AV.normL, W2, W2C, Go.Ab.W3, Int.reduceAdd, Int.reduceLT, Int.reduceToNat, Int.reduceBEq, Int.reduceBNe, Int.reduceLE, hlt, e1, e2, List.length_map, beq_self_eq_true]; first | refine goCall_p (wakes22_ok) (.inl rfl) ?_ | refine goDCall_p (wakes22_ok) (.inl rfl) ?_)
               | refine go_draw (id := 17) C_ok mixed 1 Try.f3.ntmps rfl (by kernel_rfl) (by decide) ?_
               | refine goRound ?_ C_ok Try.f3.ntmps rfl (by decide)
               | skip) <;> simp only [h, ↓upd_eq, ↓envL_cons, Go.Ab.W0, Go.Ab.WD, Go.Ab.WE, if_true, if_false, reduceIte, Nat.reduceEqDiff, Nat.reduceAdd, Nat.reduceLT, Nat.reduceLeDiff, reduceCtorEq, Nat.reduceMul, implies_true, forall_eq_or_imp, forall_eq, Nat.reducePow, W1, W1C, Go.Ab.W3, Int.reduceAdd, Int.reduceLT, Int.reduceToNat, Int.reduceBEq, Int.reduceBNe, Int.reduceLE, hlt, e1, e2, List.length_map, beq_self_eq_true, cutNormal_normal]
            · have h := True.intro
              repeat' (first
               | (with_reducible first | refine goIf_b ?_ ?_ | refine goIf_n ?_ ?_ | refine goIf_d ?_ ?_ | refine goIf_split ?_ ?_ | refine goGb_b ?_ ?_ | refine goGb_n ?_ ?_ | refine goGb_d ?_ ?_ | refine goGb_split ?_ ?_ | refine goDGb_b ?_ ?_ | refine goDGb_n ?_ ?_ | refine goDGb_d ?_ ?_ | refine goDGb_split ?_ ?_) <;> intro h
               | ((first | refine goCall_norm ?_ | refine goDCall_norm ?_); simp only [AV.norm, AV.normL, W2, W2C, Go.Ab.W3, Int.reduceAdd, Int.reduceLT, Int.reduceToNat, Int.reduceBEq, Int.reduceBNe, Int.reduceLE, hlt, e1, e2, List.length_map, beq_self_eq_true]; first | refine goCall_p (wakes22_ok) (.inl rfl) ?_ | refine goDCall_p (wakes22_ok) (.inl rfl) ?_)
               | refine go_draw (id := 17) C_ok mixed 1 Try.f3.ntmps rfl (by kernel_rfl) (by decide) ?_
               | refine goRound ?_ C_ok Try.f3.ntmps rfl (by decide)
               | skip) <;> simp only [h, ↓upd_eq, ↓envL_cons, Go.Ab.W0, Go.Ab.WD, Go.Ab.WE, if_true, if_false, reduceIte, Nat.reduceEqDiff, Nat.reduceAdd, Nat.reduceLT, Nat.reduceLeDiff, reduceCtorEq, Nat.reduceMul, implies_true, forall_eq_or_imp, forall_eq, Nat.reducePow, W1, W1C, Go.Ab.W3, Int.reduceAdd, Int.reduceLT, Int.reduceToNat, Int.reduceBEq, Int.reduceBNe, Int.reduceLE, hlt, e1, e2, List.length_map, beq_self_eq_true, cutNormal_normal]
        · have e0 : ((8 : Int) == 0) = false := by decide
          rw [e, joinC_none (by rw [e]; decide)] at q
          rw [e, joinC_none (by rw [e]; decide), e0] at q'
          have hs := sameC_refl coNone
          unfold coNone at q q' hs
          refine pcalls_text C_ok Try.func3 rfl (by decide) (Nat.le_of_ble_eq_true rfl) (by decide) rfl fun ok H => ?_
          rw [Try.results3]
          have h := True.intro
          repeat' (first
           | (with_reducible first | refine goIf_b ?_ ?_ | refine goIf_n ?_ ?_ | refine goIf_d ?_ ?_ | refine goIf_split ?_ ?_ | refine goGb_b ?_ ?_ | refine goGb_n ?_ ?_ | refine goGb_d ?_ ?_ | refine goGb_split ?_ ?_ | refine goDGb_b ?_ ?_ | refine goDGb_n ?_ ?_ | refine goDGb_d ?_ ?_ | refine goDGb_split ?_ ?_) <;> intro h
           | ((first | refine goCall_norm ?_ | refine goDCall_norm ?_); simp only [AV.norm, AV.normL, W2, W2C, hv, h10, hc, hd, hs, e0, beq_self_eq_true, bne_self_eq_false, List.length_map]; first | refine goCall_p (heavyC2_ok _ _) (.inl rfl) ?_ | refine goCall_p (hh) (.inl rfl) ?_ | refine goCall_p (q) (.inl rfl) ?_ | refine goCall_p (q') (.inl rfl) ?_ | refine goCall_p (rrightC_ok _) (.inl rfl) ?_ | refine goCall_p (rsameC_ok _ _) (.inl rfl) ?_ | refine goCall_p (qa) (.inl rfl) ?_ | refine goCall_p (rid_ok) (.inl rfl) ?_ | refine goDCall_p (heavyC2_ok _ _) (.inl rfl) ?_ | refine goDCall_p (hh) (.inl rfl) ?_ | refine goDCall_p (q) (.inl rfl) ?_ | refine goDCall_p (q') (.inl rfl) ?_ | refine goDCall_p (rrightC_ok _) (.inl rfl) ?_ | refine goDCall_p (rsameC_ok _ _) (.inl rfl) ?_ | refine goDCall_p (qa) (.inl rfl) ?_ | refine goDCall_p (rid_ok) (.inl rfl) ?_)
           | refine go_draw (id := 17) C_ok mixed 1 Try.f3.ntmps rfl (by kernel_rfl) (by decide) ?_
           | skip) <;> simp only [h, ↓upd_eq, ↓envL_cons, Go.Ab.W0, Go.Ab.WD, Go.Ab.WE, if_true, if_false, reduceIte, Nat.reduceEqDiff, Nat.reduceAdd, Nat.reduceLT, Nat.reduceLeDiff, reduceCtorEq, Nat.reduceMul, implies_true, forall_eq_or_imp, forall_eq, Nat.reducePow, W1, W1C, hv, h10, hc, hd, hs, e0, beq_self_eq_true, bne_self_eq_false, List.length_map]
          refine aloop_trim [14, 15, 2, 11, 12, 13] ?_
          simp only [List.map_cons, List.map_nil, ↓upd_eq, ↓envL_cons, Go.Ab.W0, Go.Ab.WD, Go.Ab.WE, if_true, if_false, reduceIte, Nat.reduceEqDiff, Nat.reduceAdd, Nat.reduceLT, Nat.reduceLeDiff, reduceCtorEq, Nat.reduceMul, implies_true, forall_eq_or_imp, forall_eq, Nat.reducePow, W1, W1C]
          refine goLoopP 2 5 (fun x : Nat × Co × Int => [(14, .int .i64 x.2.2), (15, .int .i64 x.1)]) (fun x => [.box [.int .i64 x.2.1.kind, .int .i64 x.2.1.head, .int .i64 x.2.1.label, .bool x.2.1.neg, .sl (x.2.1.kids.map embC) .no]]) (fun x => x.1 ≤ l.length ∧ (x.2.2 = 0 → rightC x.2.1 = true ∧ allF (l.drop x.1) x.2.1 = (A, E)) ∧ (x.2.2 ≠ 0 → E = x.2.2)) (fun x => if x.2.2 = 0 then l.length - x.1 + 1 else 0) C_ok (0, idC, 0) rfl rfl ⟨Nat.zero_le _, fun _ => ⟨idC_right, hA⟩, fun h => absurd rfl h⟩ (by decide) ?_
          rintro ⟨i, b, wt⟩ ⟨hi, hr, hn⟩
          simp only at hi hr hn
          simp only [List.drop_succ_cons, List.drop_zero, List.cons_append, List.nil_append, List.take_succ_cons, List.take_zero]
          by_cases hw : wt = 0
          · subst hw
            obtain ⟨hb, hr⟩ := hr rfl
            clear hn
            by_cases hlt : i < l.length
            · rw [allF_at l b i hlt] at hr
              cases hd : rightC (l.getD i default) with
              | false =>
                have e1 := (joinE_bad (c := b) (d := l.getD i default) (by rw [hd, Bool.and_false])).1
                rw [e1, if_neg (by decide)] at hr
                obtain ⟨rfl, rfl⟩ := Prod.mk.inj hr
                have h := True.intro
                repeat' (first
                 | (with_reducible first | refine goIf_b ?_ ?_ | refine goIf_n ?_ ?_ | refine goIf_d ?_ ?_ | refine goIf_split ?_ ?_ | refine goGb_b ?_ ?_ | refine goGb_n ?_ ?_ | refine goGb_d ?_ ?_ | refine goGb_split ?_ ?_ | refine goDGb_b ?_ ?_ | refine goDGb_n ?_ ?_ | refine goDGb_d ?_ ?_ | refine goDGb_split ?_ ?_) <;> intro h
                 | ((first | refine goCall_norm ?_ | refine goDCall_norm ?_); simp only [AV.norm, AV.normL, W2, W2C, Go.Ab.W3, Int.reduceAdd, Int.reduceLT, Int.reduceToNat, Int.reduceBEq, Int.reduceBNe, Int.reduceLE, hlt, hd, mapC_get hlt, List.length_map]; first | refine goCall_p (rrightC_ok _) (.inl rfl) ?_ | refine goCall_p (wakes22_ok) (.inl rfl) ?_ | refine goDCall_p (rrightC_ok _) (.inl rfl) ?_ | refine goDCall_p (wakes22_ok) (.inl rfl) ?_)
                 | refine go_draw (id := 17) C_ok mixed 1 Try.f3.ntmps rfl (by kernel_rfl) (by decide) ?_
                 | refine goRound ?_ C_ok Try.f3.ntmps rfl (by decide)
                 | skip) <;> simp only [h, ↓upd_eq, ↓envL_cons, Go.Ab.W0, Go.Ab.WD, Go.Ab.WE, if_true, if_false, reduceIte, Nat.reduceEqDiff, Nat.reduceAdd, Nat.reduceLT, Nat.reduceLeDiff, reduceCtorEq, Nat.reduceMul, implies_true, forall_eq_or_imp, forall_eq, Nat.reducePow, W1, W1C, Go.Ab.W3, Int.reduceAdd, Int.reduceLT, Int.reduceToNat, Int.reduceBEq, Int.reduceBNe, Int.reduceLE, hlt, hd, mapC_get hlt, List.length_map, cutNormal_normal]
              | true =>
                have q := rJoinC_ok b (l.getD i default) hb hd
                rcases joinE_good (c := b) (d := l.getD i default) (by rw [hb, hd]; rfl) with e | e
                · rw [if_pos e] at hr
                  have hj := joinC_right e
                  rw [e] at q
                  generalize joinC b (l.getD i default) = j at q hr hj
                  have h := True.intro
                  repeat' (first
                   | (with_reducible first | refine goIf_b ?_ ?_ | refine goIf_n ?_ ?_ | refine goIf_d ?_ ?_ | refine goIf_split ?_ ?_ | refine goGb_b ?_ ?_ | refine goGb_n ?_ ?_ | refine goGb_d ?_ ?_ | refine goGb_split ?_ ?_ | refine goDGb_b ?_ ?_ | refine goDGb_n ?_ ?_ | refine goDGb_d ?_ ?_ | refine goDGb_split ?_ ?_) <;> intro h
                   | ((first | refine goCall_norm ?_ | refine goDCall_norm ?_); simp only [AV.norm, AV.normL, W2, W2C, Go.Ab.W3, Int.reduceAdd, Int.reduceLT, Int.reduceToNat, Int.reduceBEq, Int.reduceBNe, Int.reduceLE, hlt, hd, mapC_get hlt, List.length_map, beq_self_eq_true]; first | refine goCall_p (rrightC_ok _) (.inl rfl) ?_ | refine goCall_p (q) (.inl rfl) ?_ | refine goDCall_p (rrightC_ok _) (.inl rfl) ?_ | refine goDCall_p (q) (.inl rfl) ?_)
                   | refine go_draw (id := 17) C_ok mixed 1 Try.f3.ntmps rfl (by kernel_rfl) (by decide) ?_
                   | refine goRound ?_ C_ok Try.f3.ntmps rfl (by decide)
                   | skip) <;> simp only [h, ↓upd_eq, ↓envL_cons, Go.Ab.W0, Go.Ab.WD, Go.Ab.WE, if_true, if_false, reduceIte, Nat.reduceEqDiff, Nat.reduceAdd, Nat.reduceLT, Nat.reduceLeDiff, reduceCtorEq, Nat.reduceMul, implies_true, forall_eq_or_imp, forall_eq, Nat.reducePow, W1, W1C, Go.Ab.W3, Int.reduceAdd, Int.reduceLT, Int.reduceToNat, Int.reduceBEq, Int.reduceBNe, Int.reduceLE, hlt, hd, mapC_get hlt, List.length_map, beq_self_eq_true, cutNormal_normal]
                  refine ⟨(i + 1, j, 0), ⟨hlt, fun _ => ⟨hj, hr⟩, fun h => absurd rfl h⟩, by simp only [if_true]; omega, weak_drop rfl rfl rfl rfl ?_ ?_ ?_⟩
                  all_goals simp only [List.forall_mem_cons, mem_nil_all, frz_app, ↓upd_eq, ↓envL_cons, Nat.reduceEqDiff, if_true, if_false, reduceIte, true_and, and_true, and_self, true_or, or_true, implies_true, List.not_mem_nil, false_implies, AV.bel, AV.belL, AObj.bel, AV.norm, AV.normL, Bool.and_true, Bool.true_and, decide_true, decide_eq_true_eq, List.length_cons, List.length_nil, Nat.zero_add, Nat.reduceAdd, Nat.lt_add_one, Nat.lt_add_right_iff_pos, Nat.zero_lt_succ, Nat.zero_lt_one, Nat.reduceLT, List.take_succ_cons, List.take_zero, wrap_succ hlt hmax, mapC_bel, AV.belL, List.length_map]
                  all_goals omega
                · rw [if_neg (by rw [e]; decide), e] at hr
                  have e0 : ((8 : Int) == 0) = false := by decide
                  rw [e, joinC_none (by rw [e]; decide), e0] at q
                  unfold coNone at q
                  have hE := (Prod.mk.inj hr).2
                  have h := True.intro
                  repeat' (first
                   | (with_reducible first | refine goIf_b ?_ ?_ | refine goIf_n ?_ ?_ | refine goIf_d ?_ ?_ | refine goIf_split ?_ ?_ | refine goGb_b ?_ ?_ | refine goGb_n ?_ ?_ | refine goGb_d ?_ ?_ | refine goGb_split ?_ ?_ | refine goDGb_b ?_ ?_ | refine goDGb_n ?_ ?_ | refine goDGb_d ?_ ?_ | refine goDGb_split ?_ ?_) <;> intro h
                   | ((first | refine goCall_norm ?_ | refine goDCall_norm ?_); simp only [AV.norm, AV.normL, W2, W2C, Go.Ab.W3, Int.reduceAdd, Int.reduceLT, Int.reduceToNat, Int.reduceBEq, Int.reduceBNe, Int.reduceLE, hlt, hd, mapC_get hlt, List.length_map, beq_self_eq_true]; first | refine goCall_p (rrightC_ok _) (.inl rfl) ?_ | refine goCall_p (q) (.inl rfl) ?_ | refine goDCall_p (rrightC_ok _) (.inl rfl) ?_ | refine goDCall_p (q) (.inl rfl) ?_)
                   | refine go_draw (id := 17) C_ok mixed 1 Try.f3.ntmps rfl (by kernel_rfl) (by decide) ?_
                   | refine goRound ?_ C_ok Try.f3.ntmps rfl (by decide)
                   | skip) <;> simp only [h, ↓upd_eq, ↓envL_cons, Go.Ab.W0, Go.Ab.WD, Go.Ab.WE, if_true, if_false, reduceIte, Nat.reduceEqDiff, Nat.reduceAdd, Nat.reduceLT, Nat.reduceLeDiff, reduceCtorEq, Nat.reduceMul, implies_true, forall_eq_or_imp, forall_eq, Nat.reducePow, W1, W1C, Go.Ab.W3, Int.reduceAdd, Int.reduceLT, Int.reduceToNat, Int.reduceBEq, Int.reduceBNe, Int.reduceLE, hlt, hd, mapC_get hlt, List.length_map, beq_self_eq_true, cutNormal_normal]
                  refine ⟨(i + 1, .mk 0 0 0 false [], 8), ⟨hlt, fun h => absurd (show (8 : Int) = 0 from h) (by decide), fun _ => hE.symm⟩, by simp only; rw [if_neg (show ¬ (8 : Int) = 0 by decide)]; omega, weak_drop rfl rfl rfl rfl ?_ ?_ ?_⟩
                  all_goals simp only [List.forall_mem_cons, mem_nil_all, frz_app, ↓upd_eq, ↓envL_cons, Nat.reduceEqDiff, if_true, if_false, reduceIte, true_and, and_true, and_self, true_or, or_true, implies_true, List.not_mem_nil, false_implies, AV.bel, AV.belL, AObj.bel, AV.norm, AV.normL, Bool.and_true, Bool.true_and, decide_true, decide_eq_true_eq, List.length_cons, List.length_nil, Nat.zero_add, Nat.reduceAdd, Nat.lt_add_one, Nat.lt_add_right_iff_pos, Nat.zero_lt_succ, Nat.zero_lt_one, Nat.reduceLT, List.take_succ_cons, List.take_zero, wrap_succ hlt hmax, mapC_bel, AV.belL, List.length_map, List.map_nil]
                  all_goals omega
            · rw [List.drop_of_length_le (by omega), allF] at hr
              obtain ⟨rfl, rfl⟩ := Prod.mk.inj hr
              have hs := sameC_refl b
              have h := True.intro
              repeat' (first
               | (with_reducible first | refine goIf_b ?_ ?_ | refine goIf_n ?_ ?_ | refine goIf_d ?_ ?_ | refine goIf_split ?_ ?_ | refine goGb_b ?_ ?_ | refine goGb_n ?_ ?_ | refine goGb_d ?_ ?_ | refine goGb_split ?_ ?_ | refine goDGb_b ?_ ?_ | refine goDGb_n ?_ ?_ | refine goDGb_d ?_ ?_ | refine goDGb_split ?_ ?_) <;> intro h
               | ((first | refine goCall_norm ?_ | refine goDCall_norm ?_); simp only [AV.norm, AV.normL, W2, W2C, Go.Ab.W3, Int.reduceAdd, Int.reduceLT, Int.reduceToNat, Int.reduceBEq, Int.reduceBNe, Int.reduceLE, hlt, hs, List.length_map, beq_self_eq_true]; first | refine goCall_p (rsameC_ok _ _) (.inl rfl) ?_ | refine goCall_p (wakes22_ok) (.inl rfl) ?_ | refine goDCall_p (rsameC_ok _ _) (.inl rfl) ?_ | refine goDCall_p (wakes22_ok) (.inl rfl) ?_)
               | refine go_draw (id := 17) C_ok mixed 1 Try.f3.ntmps rfl (by kernel_rfl) (by decide) ?_
               | refine goRound ?_ C_ok Try.f3.ntmps rfl (by decide)
               | skip) <;> simp only [h, ↓upd_eq, ↓envL_cons, Go.Ab.W0, Go.Ab.WD, Go.Ab.WE, if_true, if_false, reduceIte, Nat.reduceEqDiff, Nat.reduceAdd, Nat.reduceLT, Nat.reduceLeDiff, reduceCtorEq, Nat.reduceMul, implies_true, forall_eq_or_imp, forall_eq, Nat.reducePow, W1, W1C, Go.Ab.W3, Int.reduceAdd, Int.reduceLT, Int.reduceToNat, Int.reduceBEq, Int.reduceBNe, Int.reduceLE, hlt, hs, List.length_map, beq_self_eq_true, cutNormal_normal]
          · clear hr
            have hE := hn hw
            subst hE
            have e1 : (E == 0) = false := by simpa using hw
            have e2 : (E != 0) = true := by simpa using hw
            by_cases hlt : i < l.length
            · have h := True.intro
              repeat' (first
               | (with_reducible first | refine goIf_b ?_ ?_ | refine goIf_n ?_ ?_ | refine goIf_d ?_ ?_ | refine goIf_split ?_ ?_ | refine goGb_b ?_ ?_ | refine goGb_n ?_ ?_ | refine goGb_d ?_ ?_ | refine goGb_split ?_ ?_ | refine goDGb_b ?_ ?_ | refine goDGb_n ?_ ?_ | refine goDGb_d ?_ ?_ | refine goDGb_split ?_ ?_) <;> intro h
               | ((first | refine goCall_norm ?_ | refine goDCall_norm ?_); simp only [AV.norm, AV.normL, W2, W2C, Go.Ab.W3, Int.reduceAdd, Int.reduceLT, Int.reduceToNat, Int.reduceBEq, Int.reduceBNe, Int.reduceLE, hlt, e1, e2, List.length_map, beq_self_eq_true]; first | refine goCall_p (wakes22_ok) (.inl rfl) ?_ | refine goDCall_p (wakes22_ok) (.inl rfl) ?_)
               | refine go_draw (id := 17) C_ok mixed 1 Try.f3.ntmps rfl (by kernel_rfl) (by decide) ?_
               | refine goRound ?_ C_ok Try.f3.ntmps rfl (by decide)
               | skip) <;> simp only [h, ↓upd_eq, ↓envL_cons, Go.Ab.W0, Go.Ab.WD, Go.Ab.WE, if_true, if_false, reduceIte, Nat.reduceEqDiff, Nat.reduceAdd, Nat.reduceLT, Nat.reduceLeDiff, reduceCtorEq, Nat.reduceMul, implies_true, forall_eq_or_imp, forall_eq, Nat.reducePow, W1, W1C, Go.Ab.W3, Int.reduceAdd, Int.reduceLT, Int.reduceToNat, Int.reduceBEq, Int.reduceBNe, Int.reduceLE, hlt, e1, e2, List.length_map, beq_self_eq_true, cutNormal_normal]
            · have h := True.intro
              repeat' (first
               | (with_reducible first | refine goIf_b ?_ ?_ | refine goIf_n ?_ ?_ | refine goIf_d ?_ ?_ | refine goIf_split ?_ ?_ | refine goGb_b ?_ ?_ | refine goGb_n ?_ ?_ | refine goGb_d ?_ ?_ | refine goGb_split ?_ ?_ | refine goDGb_b ?_ ?_ | refine goDGb_n ?_ ?_ | refine goDGb_d ?_ ?_ | refine goDGb_split ?_ ?_) <;> intro h
               | ((first | refine goCall_norm ?_ | refine goDCall_norm ?_); simp only [AV.norm, AV.normL, W2, W2C, Go.Ab.W3, Int.reduceAdd, Int.reduceLT, Int.reduceToNat, Int.reduceBEq, Int.reduceBNe, Int.reduceLE, hlt, e1, e2, List.length_map, beq_self_eq_true]; first | refine goCall_p (wakes22_ok) (.inl rfl) ?_ | refine goDCall_p (wakes22_ok) (.inl rfl) ?_)
               | refine go_draw (id := 17) C_ok mixed 1 Try.f3.ntmps rfl (by kernel_rfl) (by decide) ?_
               | refine goRound ?_ C_ok Try.f3.ntmps rfl (by decide)
               | skip) <;> simp only [h, ↓upd_eq, ↓envL_cons, Go.Ab.W0, Go.Ab.WD, Go.Ab.WE, if_true, if_false, reduceIte, Nat.reduceEqDiff, Nat.reduceAdd, Nat.reduceLT, Nat.reduceLeDiff, reduceCtorEq, Nat.reduceMul, implies_true, forall_eq_or_imp, forall_eq, Nat.reducePow, W1, W1C, Go.Ab.W3, Int.reduceAdd, Int.reduceLT, Int.reduceToNat, Int.reduceBEq, Int.reduceBNe, Int.reduceLE, hlt, e1, e2, List.length_map, beq_self_eq_true, cutNormal_normal]

end Go.Proofs.Ytajdipeebpmifaa
