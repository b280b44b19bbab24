/- The law CoerEnds answers true, whatever the input. No condition. -/
import Derived.Test.YtajdipeebpmifaaPHa
set_option linter.unusedSimpArgs false
set_option linter.unusedVariables false
set_option maxHeartbeats 4000000
set_option maxRecDepth 100000
namespace Go.Proofs.Ytajdipeebpmifaa
open Go Go.Ab
attribute [local irreducible] PCalls ACalls CallK GoCall GoDCall GoIf GoGb GoDGb GoO GoD GoX GoDX GoG GoDG GoGv GoDGv Go ALoop

theorem fits_ends {c : Co} {a b : Ty} (hc : rightC c = true) (ha : right a = true) (hb : right b = true) :
    (c.kind = 5 → fitsC c a b = true → a.kind = c.head ∧ b.kind = 5) ∧ (c.kind = 6 → fitsC c a b = true → a.kind = 5) ∧
    (c.kind = 7 → fitsC c a b = (a.kind != 5)) ∧ (c.kind ≠ 5 → c.kind ≠ 6 → c.kind ≠ 7 → fitsC c a b = true → a.kind = b.kind) := by
  obtain ⟨k, rfl, hk⟩ := K.of_right' hc
  obtain ⟨a, rfl, ha'⟩ := T.of_right' ha
  obtain ⟨b, rfl, hb'⟩ := T.of_right' hb
  rw [fitsC_co hk ha' hb', kind_n5, T.kind_ty, T.kind_ty]
  have hd : ∀ x : T, x.isDyn = true → x.kind = 5 := fun x hx => by
    have := kind_b5 x; rw [hx, T.kind_ty] at this; simpa using this
  cases k with
  | id => refine ⟨by simp [K.co, Co.kind], by simp [K.co, Co.kind], by simp [K.co, Co.kind], fun _ _ _ h => ?_⟩
          simp only [fitsK, decide_eq_true_eq] at h; rw [h]
  | fail l n => exact ⟨by simp [K.co, Co.kind], by simp [K.co, Co.kind], fun _ => rfl, by simp [K.co, Co.kind]⟩
  | inj h k =>
    refine ⟨fun _ hf => ?_, by simp [K.co, Co.kind], by simp [K.co, Co.kind], by simp [K.co, Co.kind]⟩
    simp only [fitsK, Bool.and_eq_true, decide_eq_true_eq] at hf
    exact ⟨hf.1.2, hd _ hf.1.1⟩
  | proj h l n k =>
    refine ⟨by simp [K.co, Co.kind], fun _ hf => ?_, by simp [K.co, Co.kind], by simp [K.co, Co.kind]⟩
    simp only [fitsK, Bool.and_eq_true, decide_eq_true_eq] at hf
    exact hd _ hf.1
  | fn x y => exact ⟨by simp [K.co, Co.kind], by simp [K.co, Co.kind], by simp [K.co, Co.kind], fun _ _ _ h => by have := isForm_kind rfl h; rw [this.1, this.2]⟩
  | pair x y => exact ⟨by simp [K.co, Co.kind], by simp [K.co, Co.kind], by simp [K.co, Co.kind], fun _ _ _ h => by have := isForm_kind rfl h; rw [this.1, this.2]⟩
  | list x => exact ⟨by simp [K.co, Co.kind], by simp [K.co, Co.kind], by simp [K.co, Co.kind], fun _ _ _ h => by have := isForm_kind rfl h; rw [this.1, this.2]⟩
theorem fits_idC {a b : Ty} (ha : right a = true) (hb : right b = true) : fitsC (.mk 1 0 0 false []) a b = same a b := by
  obtain ⟨a, rfl, ha'⟩ := T.of_right' ha
  obtain ⟨b, rfl, hb'⟩ := T.of_right' hb
  exact (fitsC_co (k := .id) rfl ha' hb').trans (T.same_ty a b).symm
theorem coerEnds_ok (c : Co) (a b : Ty) : PCalls Try.prog 9 [embC c, emb a, emb b] (.bool true) := by
  cases hv : heavyC [c] with
  | true =>
    refine pcalls_text C_ok Try.func9 rfl (by decide) (Nat.le_of_ble_eq_true rfl) (by decide) rfl fun ok H => ?_
    rw [Try.results9]
    have h := True.intro
    repeat' (first
     | (with_reducible first | refine goIf_b ?_ ?_ | refine goIf_n ?_ ?_ | refine goIf_d ?_ ?_ | refine goIf_split ?_ ?_ | refine goGb_b ?_ ?_ | refine goGb_n ?_ ?_ | refine goGb_d ?_ ?_ | refine goGb_split ?_ ?_ | refine goDGb_b ?_ ?_ | refine goDGb_n ?_ ?_ | refine goDGb_d ?_ ?_ | refine goDGb_split ?_ ?_) <;> intro h
     | ((first | refine goCall_norm ?_ | refine goDCall_norm ?_); simp only [AV.norm, AV.normL, W2, W2C, Go.Ab.W3, Int.reduceAdd, Int.reduceLT, Int.reduceToNat, Int.reduceBEq, Int.reduceBNe, Int.reduceLE, hv]; first | refine goCall_p (heavyC1_ok _) (.inl rfl) ?_ | refine goDCall_p (heavyC1_ok _) (.inl rfl) ?_)
     | refine go_draw (id := 4) C_ok mixed 0 Try.f9.ntmps rfl (by kernel_rfl) (by decide) ?_
     | refine goRound ?_ C_ok Try.f9.ntmps rfl (by decide)
     | skip) <;> simp only [h, ↓upd_eq, ↓envL_cons, Go.Ab.W0, Go.Ab.WD, Go.Ab.WE, if_true, if_false, reduceIte, Nat.reduceEqDiff, Nat.reduceAdd, Nat.reduceLT, Nat.reduceLeDiff, reduceCtorEq, Nat.reduceMul, implies_true, forall_eq_or_imp, forall_eq, Nat.reducePow, W1, W1C, Go.Ab.W3, Int.reduceAdd, Int.reduceLT, Int.reduceToNat, Int.reduceBEq, Int.reduceBNe, Int.reduceLE, hv, cutNormal_normal]
  | false =>
    cases hs : small [a, b] with
    | false =>
      refine pcalls_text C_ok Try.func9 rfl (by decide) (Nat.le_of_ble_eq_true rfl) (by decide) rfl fun ok H => ?_
      rw [Try.results9]
      have h := True.intro
      repeat' (first
       | (with_reducible first | refine goIf_b ?_ ?_ | refine goIf_n ?_ ?_ | refine goIf_d ?_ ?_ | refine goIf_split ?_ ?_ | refine goGb_b ?_ ?_ | refine goGb_n ?_ ?_ | refine goGb_d ?_ ?_ | refine goGb_split ?_ ?_ | refine goDGb_b ?_ ?_ | refine goDGb_n ?_ ?_ | refine goDGb_d ?_ ?_ | refine goDGb_split ?_ ?_) <;> intro h
       | ((first | refine goCall_norm ?_ | refine goDCall_norm ?_); simp only [AV.norm, AV.normL, W2, W2C, Go.Ab.W3, Int.reduceAdd, Int.reduceLT, Int.reduceToNat, Int.reduceBEq, Int.reduceBNe, Int.reduceLE, hv, hs]; first | refine goCall_p (heavyC1_ok _) (.inl rfl) ?_ | refine goCall_p (small2_ok _ _) (.inl rfl) ?_ | refine goDCall_p (heavyC1_ok _) (.inl rfl) ?_ | refine goDCall_p (small2_ok _ _) (.inl rfl) ?_)
       | refine go_draw (id := 4) C_ok mixed 0 Try.f9.ntmps rfl (by kernel_rfl) (by decide) ?_
       | refine goRound ?_ C_ok Try.f9.ntmps rfl (by decide)
       | skip) <;> simp only [h, ↓upd_eq, ↓envL_cons, Go.Ab.W0, Go.Ab.WD, Go.Ab.WE, if_true, if_false, reduceIte, Nat.reduceEqDiff, Nat.reduceAdd, Nat.reduceLT, Nat.reduceLeDiff, reduceCtorEq, Nat.reduceMul, implies_true, forall_eq_or_imp, forall_eq, Nat.reducePow, W1, W1C, Go.Ab.W3, Int.reduceAdd, Int.reduceLT, Int.reduceToNat, Int.reduceBEq, Int.reduceBNe, Int.reduceLE, hv, hs, cutNormal_normal]
    | true =>
      cases hc : rightC c with
      | false =>
        refine pcalls_text C_ok Try.func9 rfl (by decide) (Nat.le_of_ble_eq_true rfl) (by decide) rfl fun ok H => ?_
        rw [Try.results9]
        have h := True.intro
        repeat' (first
         | (with_reducible first | refine goIf_b ?_ ?_ | refine goIf_n ?_ ?_ | refine goIf_d ?_ ?_ | refine goIf_split ?_ ?_ | refine goGb_b ?_ ?_ | refine goGb_n ?_ ?_ | refine goGb_d ?_ ?_ | refine goGb_split ?_ ?_ | refine goDGb_b ?_ ?_ | refine goDGb_n ?_ ?_ | refine goDGb_d ?_ ?_ | refine goDGb_split ?_ ?_) <;> intro h
         | ((first | refine goCall_norm ?_ | refine goDCall_norm ?_); simp only [AV.norm, AV.normL, W2, W2C, Go.Ab.W3, Int.reduceAdd, Int.reduceLT, Int.reduceToNat, Int.reduceBEq, Int.reduceBNe, Int.reduceLE, hv, hs, hc]; first | refine goCall_p (heavyC1_ok _) (.inl rfl) ?_ | refine goCall_p (small2_ok _ _) (.inl rfl) ?_ | refine goCall_p (rrightC_ok _) (.inl rfl) ?_ | refine goDCall_p (heavyC1_ok _) (.inl rfl) ?_ | refine goDCall_p (small2_ok _ _) (.inl rfl) ?_ | refine goDCall_p (rrightC_ok _) (.inl rfl) ?_)
         | refine go_draw (id := 4) C_ok mixed 0 Try.f9.ntmps rfl (by kernel_rfl) (by decide) ?_
         | refine goRound ?_ C_ok Try.f9.ntmps rfl (by decide)
         | skip) <;> simp only [h, ↓upd_eq, ↓envL_cons, Go.Ab.W0, Go.Ab.WD, Go.Ab.WE, if_true, if_false, reduceIte, Nat.reduceEqDiff, Nat.reduceAdd, Nat.reduceLT, Nat.reduceLeDiff, reduceCtorEq, Nat.reduceMul, implies_true, forall_eq_or_imp, forall_eq, Nat.reducePow, W1, W1C, Go.Ab.W3, Int.reduceAdd, Int.reduceLT, Int.reduceToNat, Int.reduceBEq, Int.reduceBNe, Int.reduceLE, hv, hs, hc, cutNormal_normal]
      | true =>
        cases ha : right a with
        | false =>
          refine pcalls_text C_ok Try.func9 rfl (by decide) (Nat.le_of_ble_eq_true rfl) (by decide) rfl fun ok H => ?_
          rw [Try.results9]
          have h := True.intro
          repeat' (first
           | (with_reducible first | refine goIf_b ?_ ?_ | refine goIf_n ?_ ?_ | refine goIf_d ?_ ?_ | refine goIf_split ?_ ?_ | refine goGb_b ?_ ?_ | refine goGb_n ?_ ?_ | refine goGb_d ?_ ?_ | refine goGb_split ?_ ?_ | refine goDGb_b ?_ ?_ | refine goDGb_n ?_ ?_ | refine goDGb_d ?_ ?_ | refine goDGb_split ?_ ?_) <;> intro h
           | ((first | refine goCall_norm ?_ | refine goDCall_norm ?_); simp only [AV.norm, AV.normL, W2, W2C, Go.Ab.W3, Int.reduceAdd, Int.reduceLT, Int.reduceToNat, Int.reduceBEq, Int.reduceBNe, Int.reduceLE, hv, hs, hc, ha]; first | refine goCall_p (heavyC1_ok _) (.inl rfl) ?_ | refine goCall_p (small2_ok _ _) (.inl rfl) ?_ | refine goCall_p (rrightC_ok _) (.inl rfl) ?_ | refine goCall_p (rright_ok _) (.inl rfl) ?_ | refine goDCall_p (heavyC1_ok _) (.inl rfl) ?_ | refine goDCall_p (small2_ok _ _) (.inl rfl) ?_ | refine goDCall_p (rrightC_ok _) (.inl rfl) ?_ | refine goDCall_p (rright_ok _) (.inl rfl) ?_)
           | refine go_draw (id := 4) C_ok mixed 0 Try.f9.ntmps rfl (by kernel_rfl) (by decide) ?_
           | refine goRound ?_ C_ok Try.f9.ntmps rfl (by decide)
           | skip) <;> simp only [h, ↓upd_eq, ↓envL_cons, Go.Ab.W0, Go.Ab.WD, Go.Ab.WE, if_true, if_false, reduceIte, Nat.reduceEqDiff, Nat.reduceAdd, Nat.reduceLT, Nat.reduceLeDiff, reduceCtorEq, Nat.reduceMul, implies_true, forall_eq_or_imp, forall_eq, Nat.reducePow, W1, W1C, Go.Ab.W3, Int.reduceAdd, Int.reduceLT, Int.reduceToNat, Int.reduceBEq, Int.reduceBNe, Int.reduceLE, hv, hs, hc, ha, cutNormal_normal]
        | true =>
          cases hb : right b with
          | false =>
            refine pcalls_text C_ok Try.func9 rfl (by decide) (Nat.le_of_ble_eq_true rfl) (by decide) rfl fun ok H => ?_
            rw [Try.results9]
            have h := True.intro
            repeat' (first
             | (with_reducible first | refine goIf_b ?_ ?_ | refine goIf_n ?_ ?_ | refine goIf_d ?_ ?_ | refine goIf_split ?_ ?_ | refine goGb_b ?_ ?_ | refine goGb_n ?_ ?_ | refine goGb_d ?_ ?_ | refine goGb_split ?_ ?_ | refine goDGb_b ?_ ?_ | refine goDGb_n ?_ ?_ | refine goDGb_d ?_ ?_ | refine goDGb_split ?_ ?_) <;> intro h
             | ((first | refine goCall_norm ?_ | refine goDCall_norm ?_); simp only [AV.norm, AV.normL, W2, W2C, Go.Ab.W3, Int.reduceAdd, Int.reduceLT, Int.reduceToNat, Int.reduceBEq, Int.reduceBNe, Int.reduceLE, hv, hs, hc, ha, hb]; first | refine goCall_p (heavyC1_ok _) (.inl rfl) ?_ | refine goCall_p (small2_ok _ _) (.inl rfl) ?_ | refine goCall_p (rrightC_ok _) (.inl rfl) ?_ | refine goCall_p (rright_ok _) (.inl rfl) ?_ | refine goDCall_p (heavyC1_ok _) (.inl rfl) ?_ | refine goDCall_p (small2_ok _ _) (.inl rfl) ?_ | refine goDCall_p (rrightC_ok _) (.inl rfl) ?_ | refine goDCall_p (rright_ok _) (.inl rfl) ?_)
             | refine go_draw (id := 4) C_ok mixed 0 Try.f9.ntmps rfl (by kernel_rfl) (by decide) ?_
             | refine goRound ?_ C_ok Try.f9.ntmps rfl (by decide)
             | skip) <;> simp only [h, ↓upd_eq, ↓envL_cons, Go.Ab.W0, Go.Ab.WD, Go.Ab.WE, if_true, if_false, reduceIte, Nat.reduceEqDiff, Nat.reduceAdd, Nat.reduceLT, Nat.reduceLeDiff, reduceCtorEq, Nat.reduceMul, implies_true, forall_eq_or_imp, forall_eq, Nat.reducePow, W1, W1C, Go.Ab.W3, Int.reduceAdd, Int.reduceLT, Int.reduceToNat, Int.reduceBEq, Int.reduceBNe, Int.reduceLE, hv, hs, hc, ha, hb, cutNormal_normal]
          | true =>
            obtain ⟨e5, e6, e7, e0⟩ := fits_ends hc ha hb
            have ei := fits_idC ha hb
            refine pcalls_text C_ok Try.func9 rfl (by decide) (Nat.le_of_ble_eq_true rfl) (by decide) rfl fun ok H => ?_
            rw [Try.results9]
            have h := True.intro
            repeat' (first
             | (with_reducible first | refine goIf_b ?_ ?_ | refine goIf_n ?_ ?_ | refine goIf_d ?_ ?_ | refine goIf_split ?_ ?_ | refine goGb_b ?_ ?_ | refine goGb_n ?_ ?_ | refine goGb_d ?_ ?_ | refine goGb_split ?_ ?_ | refine goDGb_b ?_ ?_ | refine goDGb_n ?_ ?_ | refine goDGb_d ?_ ?_ | refine goDGb_split ?_ ?_) <;> intro h
             | ((first | refine goCall_norm ?_ | refine goDCall_norm ?_); simp only [AV.norm, AV.normL, W2, W2C, Go.Ab.W3, Int.reduceAdd, Int.reduceLT, Int.reduceToNat, Int.reduceBEq, Int.reduceBNe, Int.reduceLE, hv, hs, hc, ha, hb, ei, bne_self_eq_false]; first | refine goCall_p (heavyC1_ok _) (.inl rfl) ?_ | refine goCall_p (small2_ok _ _) (.inl rfl) ?_ | refine goCall_p (rrightC_ok _) (.inl rfl) ?_ | refine goCall_p (rright_ok _) (.inl rfl) ?_ | refine goCall_p (cFitsC_ok _ _ _) (.inl rfl) ?_ | refine goCall_p (rsame_ok _ _) (.inl rfl) ?_ | refine goCall_p (wakes20_ok) (.inl rfl) ?_ | refine goDCall_p (heavyC1_ok _) (.inl rfl) ?_ | refine goDCall_p (small2_ok _ _) (.inl rfl) ?_ | refine goDCall_p (rrightC_ok _) (.inl rfl) ?_ | refine goDCall_p (rright_ok _) (.inl rfl) ?_ | refine goDCall_p (cFitsC_ok _ _ _) (.inl rfl) ?_ | refine goDCall_p (rsame_ok _ _) (.inl rfl) ?_ | refine goDCall_p (wakes20_ok) (.inl rfl) ?_)
             | refine go_draw (id := 4) C_ok mixed 0 Try.f9.ntmps rfl (by kernel_rfl) (by decide) ?_
             | refine goRound ?_ C_ok Try.f9.ntmps rfl (by decide)
             | skip) <;> simp only [h, ↓upd_eq, ↓envL_cons, Go.Ab.W0, Go.Ab.WD, Go.Ab.WE, if_true, if_false, reduceIte, Nat.reduceEqDiff, Nat.reduceAdd, Nat.reduceLT, Nat.reduceLeDiff, reduceCtorEq, Nat.reduceMul, implies_true, forall_eq_or_imp, forall_eq, Nat.reducePow, W1, W1C, Go.Ab.W3, Int.reduceAdd, Int.reduceLT, Int.reduceToNat, Int.reduceBEq, Int.reduceBNe, Int.reduceLE, hv, hs, hc, ha, hb, ei, bne_self_eq_false, cutNormal_normal]
            all_goals simp_all

end Go.Proofs.Ytajdipeebpmifaa
