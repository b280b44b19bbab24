/- Lemmas: the functions of coercions, third part. No condition. -/
import Derived.Test.YtajdipeebpmifaaPGa
import Derived.Test.YtajdipeebpmifaaPFa
import Derived.Test.YtajdipeebpmifaaPCa
import Derived.Test.YtajdipeebpmifaaPGb

section
/- Walks: from where to where coercions go. No condition. -/
set_option linter.unusedSimpArgs false
set_option linter.unusedVariables false
set_option maxHeartbeats 4000000
set_option maxRecDepth 100000
namespace Go.Proofs.Ytajdipeebpmifaa
open Go Go.Ab
attribute [local irreducible] PCalls ACalls CallK GoCall GoDCall GoIf GoGb GoDGb GoO GoD GoX GoDX GoG GoDG GoGv GoDGv Go ALoop

theorem T.kind_9 {a : T} (h : a.kind = 9) : ∃ x y, a = .fn x y := by
  cases a with
  | base k => exact absurd h (base_ne k).2.2.2.2
  | fn x y => exact ⟨x, y, rfl⟩
  | _ => simp [T.kind] at h
theorem T.kind_7 {a : T} (h : a.kind = 7) : ∃ x y, a = .pair x y := by
  cases a with
  | base k => exact absurd h (base_ne k).2.2.1
  | pair x y => exact ⟨x, y, rfl⟩
  | _ => simp [T.kind] at h
theorem T.kind_8 {a : T} (h : a.kind = 8) : ∃ x, a = .list x := by
  cases a with
  | base k => exact absurd h (base_ne k).2.2.2.1
  | list x => exact ⟨x, rfl⟩
  | _ => simp [T.kind] at h
theorem kind_b5 (a : T) : (a.ty.kind == 5) = a.isDyn := by
  rw [T.kind_ty]
  cases a with
  | base k => have := (base_ne k).1; simpa [T.kind, T.isDyn] using this
  | _ => rfl
theorem kind_n5 (a : T) : (a.ty.kind != 5) = !a.isDyn := by rw [bne, kind_b5]
theorem ofH_ty {h : Int} (hh : headK h = true) : ofT h = (ofH h).ty ∧ (ofH h).ok = true := by
  simp only [headK, decide_eq_true_eq] at hh
  rcases hh with h | h | h | h | h | h | h <;> subst h <;> exact ⟨rfl, rfl⟩
theorem ground_ty {a : T} (ha : a.ok = true) (hh : headK a.kind = true) : groundT a.ty = (ofH a.kind).ty := by
  have hr : right a.ty = true := by rw [T.right_ty]; exact ha
  rw [← (ofH_ty hh).1, ← T.kind_ty]
  exact (ground_of hr (by rw [T.kind_ty]; exact hh)).symm
theorem hasGround_ty {a : T} (ha : a.ok = true) : hasGround a.ty = headK a.kind := by
  rw [hasGround, T.right_ty, ha, Bool.true_and, T.kind_ty]

theorem cground_ok {h : Int} (hh : headK h = true) : PCalls Try.prog 156 [.int .i64 h] (emb (ofH h).ty) := by
  simp only [headK, decide_eq_true_eq] at hh
  rcases hh with h | h | h | h | h | h | h <;> subst h
  · show PCalls _ _ _ (emb (.mk 1 0 []))
    refine pcalls_text C_ok Try.func156 rfl (by decide) (Nat.le_of_ble_eq_true rfl) (by decide) (emb_bel _ _) fun ok H => ?_
    rw [Try.results156]
    have h := True.intro
    repeat' (first
     | (with_reducible first | refine goIf_b ?_ ?_ | refine goIf_n ?_ ?_ | refine goIf_d ?_ ?_ | refine goIf_split ?_ ?_ | refine goGb_b ?_ ?_ | refine goGb_n ?_ ?_ | refine goGb_d ?_ ?_ | refine goGb_split ?_ ?_ | refine goDGb_b ?_ ?_ | refine goDGb_n ?_ ?_ | refine goDGb_d ?_ ?_ | refine goDGb_split ?_ ?_) <;> intro h
     | refine goRound ?_ C_ok Try.f156.ntmps rfl (by decide)
     | skip) <;> simp only [h, ↓upd_eq, ↓envL_cons, Go.Ab.W0, Go.Ab.WD, Go.Ab.WE, if_true, if_false, reduceIte, Nat.reduceEqDiff, Nat.reduceAdd, Nat.reduceLT, Nat.reduceLeDiff, reduceCtorEq, Nat.reduceMul, implies_true, forall_eq_or_imp, forall_eq, Nat.reducePow, W1, W1C, Go.Ab.W3, Int.reduceAdd, Int.reduceLT, Int.reduceToNat, Int.reduceBEq, Int.reduceBNe, Int.reduceLE, cutNormal_normal]
  · show PCalls _ _ _ (emb (.mk 2 0 []))
    refine pcalls_text C_ok Try.func156 rfl (by decide) (Nat.le_of_ble_eq_true rfl) (by decide) (emb_bel _ _) fun ok H => ?_
    rw [Try.results156]
    have h := True.intro
    repeat' (first
     | (with_reducible first | refine goIf_b ?_ ?_ | refine goIf_n ?_ ?_ | refine goIf_d ?_ ?_ | refine goIf_split ?_ ?_ | refine goGb_b ?_ ?_ | refine goGb_n ?_ ?_ | refine goGb_d ?_ ?_ | refine goGb_split ?_ ?_ | refine goDGb_b ?_ ?_ | refine goDGb_n ?_ ?_ | refine goDGb_d ?_ ?_ | refine goDGb_split ?_ ?_) <;> intro h
     | refine goRound ?_ C_ok Try.f156.ntmps rfl (by decide)
     | skip) <;> simp only [h, ↓upd_eq, ↓envL_cons, Go.Ab.W0, Go.Ab.WD, Go.Ab.WE, if_true, if_false, reduceIte, Nat.reduceEqDiff, Nat.reduceAdd, Nat.reduceLT, Nat.reduceLeDiff, reduceCtorEq, Nat.reduceMul, implies_true, forall_eq_or_imp, forall_eq, Nat.reducePow, W1, W1C, Go.Ab.W3, Int.reduceAdd, Int.reduceLT, Int.reduceToNat, Int.reduceBEq, Int.reduceBNe, Int.reduceLE, cutNormal_normal]
  · show PCalls _ _ _ (emb (.mk 3 0 []))
    refine pcalls_text C_ok Try.func156 rfl (by decide) (Nat.le_of_ble_eq_true rfl) (by decide) (emb_bel _ _) fun ok H => ?_
    rw [Try.results156]
    have h := True.intro
    repeat' (first
     | (with_reducible first | refine goIf_b ?_ ?_ | refine goIf_n ?_ ?_ | refine goIf_d ?_ ?_ | refine goIf_split ?_ ?_ | refine goGb_b ?_ ?_ | refine goGb_n ?_ ?_ | refine goGb_d ?_ ?_ | refine goGb_split ?_ ?_ | refine goDGb_b ?_ ?_ | refine goDGb_n ?_ ?_ | refine goDGb_d ?_ ?_ | refine goDGb_split ?_ ?_) <;> intro h
     | refine goRound ?_ C_ok Try.f156.ntmps rfl (by decide)
     | skip) <;> simp only [h, ↓upd_eq, ↓envL_cons, Go.Ab.W0, Go.Ab.WD, Go.Ab.WE, if_true, if_false, reduceIte, Nat.reduceEqDiff, Nat.reduceAdd, Nat.reduceLT, Nat.reduceLeDiff, reduceCtorEq, Nat.reduceMul, implies_true, forall_eq_or_imp, forall_eq, Nat.reducePow, W1, W1C, Go.Ab.W3, Int.reduceAdd, Int.reduceLT, Int.reduceToNat, Int.reduceBEq, Int.reduceBNe, Int.reduceLE, cutNormal_normal]
  · show PCalls _ _ _ (emb (.mk 4 0 []))
    refine pcalls_text C_ok Try.func156 rfl (by decide) (Nat.le_of_ble_eq_true rfl) (by decide) (emb_bel _ _) fun ok H => ?_
    rw [Try.results156]
    have h := True.intro
    repeat' (first
     | (with_reducible first | refine goIf_b ?_ ?_ | refine goIf_n ?_ ?_ | refine goIf_d ?_ ?_ | refine goIf_split ?_ ?_ | refine goGb_b ?_ ?_ | refine goGb_n ?_ ?_ | refine goGb_d ?_ ?_ | refine goGb_split ?_ ?_ | refine goDGb_b ?_ ?_ | refine goDGb_n ?_ ?_ | refine goDGb_d ?_ ?_ | refine goDGb_split ?_ ?_) <;> intro h
     | refine goRound ?_ C_ok Try.f156.ntmps rfl (by decide)
     | skip) <;> simp only [h, ↓upd_eq, ↓envL_cons, Go.Ab.W0, Go.Ab.WD, Go.Ab.WE, if_true, if_false, reduceIte, Nat.reduceEqDiff, Nat.reduceAdd, Nat.reduceLT, Nat.reduceLeDiff, reduceCtorEq, Nat.reduceMul, implies_true, forall_eq_or_imp, forall_eq, Nat.reducePow, W1, W1C, Go.Ab.W3, Int.reduceAdd, Int.reduceLT, Int.reduceToNat, Int.reduceBEq, Int.reduceBNe, Int.reduceLE, cutNormal_normal]
  · show PCalls _ _ _ (emb (.mk 7 0 [.mk 5 0 [], .mk 5 0 []]))
    refine pcalls_text C_ok Try.func156 rfl (by decide) (Nat.le_of_ble_eq_true rfl) (by decide) (emb_bel _ _) fun ok H => ?_
    rw [Try.results156]
    have h := True.intro
    repeat' (first
     | (with_reducible first | refine goIf_b ?_ ?_ | refine goIf_n ?_ ?_ | refine goIf_d ?_ ?_ | refine goIf_split ?_ ?_ | refine goGb_b ?_ ?_ | refine goGb_n ?_ ?_ | refine goGb_d ?_ ?_ | refine goGb_split ?_ ?_ | refine goDGb_b ?_ ?_ | refine goDGb_n ?_ ?_ | refine goDGb_d ?_ ?_ | refine goDGb_split ?_ ?_) <;> intro h
     | refine goRound ?_ C_ok Try.f156.ntmps rfl (by decide)
     | skip) <;> simp only [h, ↓upd_eq, ↓envL_cons, Go.Ab.W0, Go.Ab.WD, Go.Ab.WE, if_true, if_false, reduceIte, Nat.reduceEqDiff, Nat.reduceAdd, Nat.reduceLT, Nat.reduceLeDiff, reduceCtorEq, Nat.reduceMul, implies_true, forall_eq_or_imp, forall_eq, Nat.reducePow, W1, W1C, Go.Ab.W3, Int.reduceAdd, Int.reduceLT, Int.reduceToNat, Int.reduceBEq, Int.reduceBNe, Int.reduceLE, cutNormal_normal]
  · show PCalls _ _ _ (emb (.mk 8 0 [.mk 5 0 []]))
    refine pcalls_text C_ok Try.func156 rfl (by decide) (Nat.le_of_ble_eq_true rfl) (by decide) (emb_bel _ _) fun ok H => ?_
    rw [Try.results156]
    have h := True.intro
    repeat' (first
     | (with_reducible first | refine goIf_b ?_ ?_ | refine goIf_n ?_ ?_ | refine goIf_d ?_ ?_ | refine goIf_split ?_ ?_ | refine goGb_b ?_ ?_ | refine goGb_n ?_ ?_ | refine goGb_d ?_ ?_ | refine goGb_split ?_ ?_ | refine goDGb_b ?_ ?_ | refine goDGb_n ?_ ?_ | refine goDGb_d ?_ ?_ | refine goDGb_split ?_ ?_) <;> intro h
     | refine goRound ?_ C_ok Try.f156.ntmps rfl (by decide)
     | skip) <;> simp only [h, ↓upd_eq, ↓envL_cons, Go.Ab.W0, Go.Ab.WD, Go.Ab.WE, if_true, if_false, reduceIte, Nat.reduceEqDiff, Nat.reduceAdd, Nat.reduceLT, Nat.reduceLeDiff, reduceCtorEq, Nat.reduceMul, implies_true, forall_eq_or_imp, forall_eq, Nat.reducePow, W1, W1C, Go.Ab.W3, Int.reduceAdd, Int.reduceLT, Int.reduceToNat, Int.reduceBEq, Int.reduceBNe, Int.reduceLE, cutNormal_normal]
  · show PCalls _ _ _ (emb (.mk 9 0 [.mk 5 0 [], .mk 5 0 []]))
    refine pcalls_text C_ok Try.func156 rfl (by decide) (Nat.le_of_ble_eq_true rfl) (by decide) (emb_bel _ _) fun ok H => ?_
    rw [Try.results156]
    have h := True.intro
    repeat' (first
     | (with_reducible first | refine goIf_b ?_ ?_ | refine goIf_n ?_ ?_ | refine goIf_d ?_ ?_ | refine goIf_split ?_ ?_ | refine goGb_b ?_ ?_ | refine goGb_n ?_ ?_ | refine goGb_d ?_ ?_ | refine goGb_split ?_ ?_ | refine goDGb_b ?_ ?_ | refine goDGb_n ?_ ?_ | refine goDGb_d ?_ ?_ | refine goDGb_split ?_ ?_) <;> intro h
     | refine goRound ?_ C_ok Try.f156.ntmps rfl (by decide)
     | skip) <;> simp only [h, ↓upd_eq, ↓envL_cons, Go.Ab.W0, Go.Ab.WD, Go.Ab.WE, if_true, if_false, reduceIte, Nat.reduceEqDiff, Nat.reduceAdd, Nat.reduceLT, Nat.reduceLeDiff, reduceCtorEq, Nat.reduceMul, implies_true, forall_eq_or_imp, forall_eq, Nat.reducePow, W1, W1C, Go.Ab.W3, Int.reduceAdd, Int.reduceLT, Int.reduceToNat, Int.reduceBEq, Int.reduceBNe, Int.reduceLE, cutNormal_normal]

def FitsOK (f : Nat) (k : K) (a b : T) : Prop := PCalls Try.prog f [embC k.co, emb a.ty, emb b.ty] (.bool (fitsK k a b))

theorem fits_not {k : K} (hk : k.isForm = true) {a b : T} (h : a.kind ≠ k.form ∨ b.kind ≠ k.form) : fitsK k a b = false := by
  cases hf : fitsK k a b with
  | false => rfl
  | true => have := isForm_kind hk hf; rcases h with h | h
            · exact absurd this.1 h
            · exact absurd this.2 h


theorem fits_step (k : K) (hk : k.ok = true) (a b : T) (ha : a.ok = true) (hb : b.ok = true)
    (ih : ∀ k' a' b', k'.size < k.size → k'.ok = true → a'.ok = true → b'.ok = true → FitsOK 115 k' a' b') : FitsOK 115 k a b := by
  have d2 : former 2 = 9 := rfl
  have d3 : former 3 = 7 := rfl
  have d4 : former 4 = 8 := rfl
  cases k with
  | id =>
    simp only [FitsOK, K.co, fitsK, ← T.same_ty]
    refine pcalls_text C_ok Try.func115 rfl (by decide) (Nat.le_of_ble_eq_true rfl) (by decide) rfl fun ok H => ?_
    rw [Try.results115]
    have h := True.intro
    repeat' (first
     | (with_reducible first | refine goIf_b ?_ ?_ | refine goIf_n ?_ ?_ | refine goIf_d ?_ ?_ | refine goIf_split ?_ ?_ | refine goGb_b ?_ ?_ | refine goGb_n ?_ ?_ | refine goGb_d ?_ ?_ | refine goGb_split ?_ ?_ | refine goDGb_b ?_ ?_ | refine goDGb_n ?_ ?_ | refine goDGb_d ?_ ?_ | refine goDGb_split ?_ ?_) <;> intro h
     | ((first | refine goCall_norm ?_ | refine goDCall_norm ?_); simp only [AV.norm, AV.normL, W2, W2C, Go.Ab.W3, Int.reduceAdd, Int.reduceLT, Int.reduceToNat, Int.reduceBEq, Int.reduceBNe, Int.reduceLE]; first | refine goCall_p (same_ok _ _) (.inl rfl) ?_ | refine goDCall_p (same_ok _ _) (.inl rfl) ?_)
     | refine go_draw (id := 8) C_ok mixed 0 Try.f115.ntmps rfl (by kernel_rfl) (by decide) ?_
     | refine go_draw (id := 10) C_ok mixed 0 Try.f115.ntmps rfl (by kernel_rfl) (by decide) ?_
     | refine go_draw (id := 15) C_ok mixed 0 Try.f115.ntmps rfl (by kernel_rfl) (by decide) ?_
     | refine go_draw (id := 19) C_ok mixed 0 Try.f115.ntmps rfl (by kernel_rfl) (by decide) ?_
     | refine goRound ?_ C_ok Try.f115.ntmps rfl (by decide)
     | skip) <;> simp only [h, ↓upd_eq, ↓envL_cons, Go.Ab.W0, Go.Ab.WD, Go.Ab.WE, if_true, if_false, reduceIte, Nat.reduceEqDiff, Nat.reduceAdd, Nat.reduceLT, Nat.reduceLeDiff, reduceCtorEq, Nat.reduceMul, implies_true, forall_eq_or_imp, forall_eq, Nat.reducePow, W1, W1C, Go.Ab.W3, Int.reduceAdd, Int.reduceLT, Int.reduceToNat, Int.reduceBEq, Int.reduceBNe, Int.reduceLE, cutNormal_normal]
  | fail l n =>
    simp only [FitsOK, K.co, fitsK]
    refine pcalls_text C_ok Try.func115 rfl (by decide) (Nat.le_of_ble_eq_true rfl) (by decide) rfl fun ok H => ?_
    rw [Try.results115]
    have h := True.intro
    repeat' (first
     | (with_reducible first | refine goIf_b ?_ ?_ | refine goIf_n ?_ ?_ | refine goIf_d ?_ ?_ | refine goIf_split ?_ ?_ | refine goGb_b ?_ ?_ | refine goGb_n ?_ ?_ | refine goGb_d ?_ ?_ | refine goGb_split ?_ ?_ | refine goDGb_b ?_ ?_ | refine goDGb_n ?_ ?_ | refine goDGb_d ?_ ?_ | refine goDGb_split ?_ ?_) <;> intro h
     | refine go_draw (id := 8) C_ok mixed 0 Try.f115.ntmps rfl (by kernel_rfl) (by decide) ?_
     | refine go_draw (id := 10) C_ok mixed 0 Try.f115.ntmps rfl (by kernel_rfl) (by decide) ?_
     | refine go_draw (id := 15) C_ok mixed 0 Try.f115.ntmps rfl (by kernel_rfl) (by decide) ?_
     | refine go_draw (id := 19) C_ok mixed 0 Try.f115.ntmps rfl (by kernel_rfl) (by decide) ?_
     | refine goRound ?_ C_ok Try.f115.ntmps rfl (by decide)
     | skip) <;> simp only [h, ↓upd_eq, ↓envL_cons, Go.Ab.W0, Go.Ab.WD, Go.Ab.WE, if_true, if_false, reduceIte, Nat.reduceEqDiff, Nat.reduceAdd, Nat.reduceLT, Nat.reduceLeDiff, reduceCtorEq, Nat.reduceMul, implies_true, forall_eq_or_imp, forall_eq, Nat.reducePow, W1, W1C, Go.Ab.W3, Int.reduceAdd, Int.reduceLT, Int.reduceToNat, Int.reduceBEq, Int.reduceBNe, Int.reduceLE, kind_n5, cutNormal_normal]
  | inj h k =>
    obtain ⟨k1, k2, k3⟩ := ok_inj hk
    simp only [FitsOK, K.co, fitsK]
    by_cases hh : a.kind = h
    · subst hh
      have e1 := ground_ty ha k2
      have e2 : hasGround a.ty = true := by rw [hasGround_ty ha]; exact k2
      have c := ih k a (ofH a.kind) (by simp only [K.size]; omega) k1 ha (ofH_ty k2).2
      unfold FitsOK at c
      have ek : (a.ty.kind == a.kind) = true := by rw [T.kind_ty]; simp
      refine pcalls_text C_ok Try.func115 rfl (by decide) (Nat.le_of_ble_eq_true rfl) (by decide) rfl fun ok H => ?_
      rw [Try.results115]
      have h := True.intro
      repeat' (first
       | (with_reducible first | refine goIf_b ?_ ?_ | refine goIf_n ?_ ?_ | refine goIf_d ?_ ?_ | refine goIf_split ?_ ?_ | refine goGb_b ?_ ?_ | refine goGb_n ?_ ?_ | refine goGb_d ?_ ?_ | refine goGb_split ?_ ?_ | refine goDGb_b ?_ ?_ | refine goDGb_n ?_ ?_ | refine goDGb_d ?_ ?_ | refine goDGb_split ?_ ?_) <;> intro h
       | ((first | refine goCall_norm ?_ | refine goDCall_norm ?_); simp only [AV.norm, AV.normL, W2, W2C, Go.Ab.W3, Int.reduceAdd, Int.reduceLT, Int.reduceToNat, Int.reduceBEq, Int.reduceBNe, Int.reduceLE, e1, e2, ek, kind_b5]; first | refine goCall_p (pground_ok _) (.inl rfl) ?_ | refine goCall_p (c) (.inl rfl) ?_ | refine goDCall_p (pground_ok _) (.inl rfl) ?_ | refine goDCall_p (c) (.inl rfl) ?_)
       | refine go_draw (id := 8) C_ok mixed 0 Try.f115.ntmps rfl (by kernel_rfl) (by decide) ?_
       | refine go_draw (id := 10) C_ok mixed 0 Try.f115.ntmps rfl (by kernel_rfl) (by decide) ?_
       | refine go_draw (id := 15) C_ok mixed 0 Try.f115.ntmps rfl (by kernel_rfl) (by decide) ?_
       | refine go_draw (id := 19) C_ok mixed 0 Try.f115.ntmps rfl (by kernel_rfl) (by decide) ?_
       | refine goRound ?_ C_ok Try.f115.ntmps rfl (by decide)
       | skip) <;> simp only [h, ↓upd_eq, ↓envL_cons, Go.Ab.W0, Go.Ab.WD, Go.Ab.WE, if_true, if_false, reduceIte, Nat.reduceEqDiff, Nat.reduceAdd, Nat.reduceLT, Nat.reduceLeDiff, reduceCtorEq, Nat.reduceMul, implies_true, forall_eq_or_imp, forall_eq, Nat.reducePow, W1, W1C, Go.Ab.W3, Int.reduceAdd, Int.reduceLT, Int.reduceToNat, Int.reduceBEq, Int.reduceBNe, Int.reduceLE, e1, e2, ek, kind_b5, cutNormal_normal]
      all_goals simp_all
    · have e3 : (a.ty.kind == h) = false := by rw [T.kind_ty]; simpa using hh
      have e4 : (b.isDyn && decide (a.kind = h) && fitsK k a (ofH h)) = false := by simp [hh]
      rw [e4]
      refine pcalls_text C_ok Try.func115 rfl (by decide) (Nat.le_of_ble_eq_true rfl) (by decide) rfl fun ok H => ?_
      rw [Try.results115]
      have h := True.intro
      repeat' (first
       | (with_reducible first | refine goIf_b ?_ ?_ | refine goIf_n ?_ ?_ | refine goIf_d ?_ ?_ | refine goIf_split ?_ ?_ | refine goGb_b ?_ ?_ | refine goGb_n ?_ ?_ | refine goGb_d ?_ ?_ | refine goGb_split ?_ ?_ | refine goDGb_b ?_ ?_ | refine goDGb_n ?_ ?_ | refine goDGb_d ?_ ?_ | refine goDGb_split ?_ ?_) <;> intro h
       | ((first | refine goCall_norm ?_ | refine goDCall_norm ?_); simp only [AV.norm, AV.normL, W2, W2C, Go.Ab.W3, Int.reduceAdd, Int.reduceLT, Int.reduceToNat, Int.reduceBEq, Int.reduceBNe, Int.reduceLE, e3]; first | refine goCall_p (pground_ok _) (.inl rfl) ?_ | refine goDCall_p (pground_ok _) (.inl rfl) ?_)
       | refine go_draw (id := 8) C_ok mixed 0 Try.f115.ntmps rfl (by kernel_rfl) (by decide) ?_
       | refine go_draw (id := 10) C_ok mixed 0 Try.f115.ntmps rfl (by kernel_rfl) (by decide) ?_
       | refine go_draw (id := 15) C_ok mixed 0 Try.f115.ntmps rfl (by kernel_rfl) (by decide) ?_
       | refine go_draw (id := 19) C_ok mixed 0 Try.f115.ntmps rfl (by kernel_rfl) (by decide) ?_
       | refine goRound ?_ C_ok Try.f115.ntmps rfl (by decide)
       | skip) <;> simp only [h, ↓upd_eq, ↓envL_cons, Go.Ab.W0, Go.Ab.WD, Go.Ab.WE, if_true, if_false, reduceIte, Nat.reduceEqDiff, Nat.reduceAdd, Nat.reduceLT, Nat.reduceLeDiff, reduceCtorEq, Nat.reduceMul, implies_true, forall_eq_or_imp, forall_eq, Nat.reducePow, W1, W1C, Go.Ab.W3, Int.reduceAdd, Int.reduceLT, Int.reduceToNat, Int.reduceBEq, Int.reduceBNe, Int.reduceLE, e3, cutNormal_normal]
  | proj h l n k =>
    obtain ⟨k1, k2, k3, k4⟩ := ok_proj hk
    simp only [FitsOK, K.co, fitsK]
    have c := ih k (ofH h) b (by simp only [K.size]; omega) k1 (ofH_ty k2).2 hb
    unfold FitsOK at c
    refine pcalls_text C_ok Try.func115 rfl (by decide) (Nat.le_of_ble_eq_true rfl) (by decide) rfl fun ok H => ?_
    rw [Try.results115]
    have h := True.intro
    repeat' (first
     | (with_reducible first | refine goIf_b ?_ ?_ | refine goIf_n ?_ ?_ | refine goIf_d ?_ ?_ | refine goIf_split ?_ ?_ | refine goGb_b ?_ ?_ | refine goGb_n ?_ ?_ | refine goGb_d ?_ ?_ | refine goGb_split ?_ ?_ | refine goDGb_b ?_ ?_ | refine goDGb_n ?_ ?_ | refine goDGb_d ?_ ?_ | refine goDGb_split ?_ ?_) <;> intro h
     | ((first | refine goCall_norm ?_ | refine goDCall_norm ?_); simp only [AV.norm, AV.normL, W2, W2C, Go.Ab.W3, Int.reduceAdd, Int.reduceLT, Int.reduceToNat, Int.reduceBEq, Int.reduceBNe, Int.reduceLE, kind_b5]; first | refine goCall_p (cground_ok k2) (.inl rfl) ?_ | refine goCall_p (c) (.inl rfl) ?_ | refine goDCall_p (cground_ok k2) (.inl rfl) ?_ | refine goDCall_p (c) (.inl rfl) ?_)
     | refine go_draw (id := 8) C_ok mixed 0 Try.f115.ntmps rfl (by kernel_rfl) (by decide) ?_
     | refine go_draw (id := 10) C_ok mixed 0 Try.f115.ntmps rfl (by kernel_rfl) (by decide) ?_
     | refine go_draw (id := 15) C_ok mixed 0 Try.f115.ntmps rfl (by kernel_rfl) (by decide) ?_
     | refine go_draw (id := 19) C_ok mixed 0 Try.f115.ntmps rfl (by kernel_rfl) (by decide) ?_
     | refine goRound ?_ C_ok Try.f115.ntmps rfl (by decide)
     | skip) <;> simp only [h, ↓upd_eq, ↓envL_cons, Go.Ab.W0, Go.Ab.WD, Go.Ab.WE, if_true, if_false, reduceIte, Nat.reduceEqDiff, Nat.reduceAdd, Nat.reduceLT, Nat.reduceLeDiff, reduceCtorEq, Nat.reduceMul, implies_true, forall_eq_or_imp, forall_eq, Nat.reducePow, W1, W1C, Go.Ab.W3, Int.reduceAdd, Int.reduceLT, Int.reduceToNat, Int.reduceBEq, Int.reduceBNe, Int.reduceLE, kind_b5, cutNormal_normal]
    all_goals simp_all
  | fn x y =>
    obtain ⟨k1, k2⟩ := ok_fn hk
    by_cases ha9 : a.kind = 9
    · by_cases hb9 : b.kind = 9
      · obtain ⟨a1, a2, rfl⟩ := T.kind_9 ha9
        obtain ⟨b1, b2, rfl⟩ := T.kind_9 hb9
        simp only [T.ok, Bool.and_eq_true] at ha hb
        simp only [FitsOK, K.co, T.ty, fitsK]
        have c1 := ih x b1 a1 (by simp only [K.size]; omega) k1 hb.1 ha.1; have c2 := ih y a2 b2 (by simp only [K.size]; omega) k2 ha.2 hb.2; unfold FitsOK at c1 c2
        refine pcalls_text C_ok Try.func115 rfl (by decide) (Nat.le_of_ble_eq_true rfl) (by decide) rfl fun ok H => ?_
        rw [Try.results115]
        have h := True.intro
        repeat' (first
         | (with_reducible first | refine goIf_b ?_ ?_ | refine goIf_n ?_ ?_ | refine goIf_d ?_ ?_ | refine goIf_split ?_ ?_ | refine goGb_b ?_ ?_ | refine goGb_n ?_ ?_ | refine goGb_d ?_ ?_ | refine goGb_split ?_ ?_ | refine goDGb_b ?_ ?_ | refine goDGb_n ?_ ?_ | refine goDGb_d ?_ ?_ | refine goDGb_split ?_ ?_) <;> intro h
         | ((first | refine goCall_norm ?_ | refine goDCall_norm ?_); simp only [AV.norm, AV.normL, W2, W2C, Go.Ab.W3, Int.reduceAdd, Int.reduceLT, Int.reduceToNat, Int.reduceBEq, Int.reduceBNe, Int.reduceLE]; first | refine goCall_p (former_ok _) (.inl rfl) ?_ | refine goCall_p (c1) (.inl rfl) ?_ | refine goCall_p (c2) (.inl rfl) ?_ | refine goDCall_p (former_ok _) (.inl rfl) ?_ | refine goDCall_p (c1) (.inl rfl) ?_ | refine goDCall_p (c2) (.inl rfl) ?_)
         | refine go_draw (id := 8) C_ok mixed 0 Try.f115.ntmps rfl (by kernel_rfl) (by decide) ?_
         | refine go_draw (id := 10) C_ok mixed 0 Try.f115.ntmps rfl (by kernel_rfl) (by decide) ?_
         | refine go_draw (id := 15) C_ok mixed 0 Try.f115.ntmps rfl (by kernel_rfl) (by decide) ?_
         | refine go_draw (id := 19) C_ok mixed 0 Try.f115.ntmps rfl (by kernel_rfl) (by decide) ?_
         | refine goRound ?_ C_ok Try.f115.ntmps rfl (by decide)
         | skip) <;> simp only [h, ↓upd_eq, ↓envL_cons, Go.Ab.W0, Go.Ab.WD, Go.Ab.WE, if_true, if_false, reduceIte, Nat.reduceEqDiff, Nat.reduceAdd, Nat.reduceLT, Nat.reduceLeDiff, reduceCtorEq, Nat.reduceMul, implies_true, forall_eq_or_imp, forall_eq, Nat.reducePow, W1, W1C, Go.Ab.W3, Int.reduceAdd, Int.reduceLT, Int.reduceToNat, Int.reduceBEq, Int.reduceBNe, Int.reduceLE, cutNormal_normal]
        all_goals simp_all
      · have b1 : (b.ty.kind != 9) = true := by rw [T.kind_ty]; simpa using hb9
        have b2 : (a.ty.kind != 9) = false := by rw [T.kind_ty]; simpa using ha9
        rw [FitsOK, fits_not rfl (.inr hb9)]
        simp only [K.co]
        refine pcalls_text C_ok Try.func115 rfl (by decide) (Nat.le_of_ble_eq_true rfl) (by decide) rfl fun ok H => ?_
        rw [Try.results115]
        have h := True.intro
        repeat' (first
         | (with_reducible first | refine goIf_b ?_ ?_ | refine goIf_n ?_ ?_ | refine goIf_d ?_ ?_ | refine goIf_split ?_ ?_ | refine goGb_b ?_ ?_ | refine goGb_n ?_ ?_ | refine goGb_d ?_ ?_ | refine goGb_split ?_ ?_ | refine goDGb_b ?_ ?_ | refine goDGb_n ?_ ?_ | refine goDGb_d ?_ ?_ | refine goDGb_split ?_ ?_) <;> intro h
         | ((first | refine goCall_norm ?_ | refine goDCall_norm ?_); simp only [AV.norm, AV.normL, W2, W2C, Go.Ab.W3, Int.reduceAdd, Int.reduceLT, Int.reduceToNat, Int.reduceBEq, Int.reduceBNe, Int.reduceLE, b1, b2, d2]; first | refine goCall_p (former_ok _) (.inl rfl) ?_ | refine goDCall_p (former_ok _) (.inl rfl) ?_)
         | refine go_draw (id := 8) C_ok mixed 0 Try.f115.ntmps rfl (by kernel_rfl) (by decide) ?_
         | refine go_draw (id := 10) C_ok mixed 0 Try.f115.ntmps rfl (by kernel_rfl) (by decide) ?_
         | refine go_draw (id := 15) C_ok mixed 0 Try.f115.ntmps rfl (by kernel_rfl) (by decide) ?_
         | refine go_draw (id := 19) C_ok mixed 0 Try.f115.ntmps rfl (by kernel_rfl) (by decide) ?_
         | refine goRound ?_ C_ok Try.f115.ntmps rfl (by decide)
         | skip) <;> simp only [h, ↓upd_eq, ↓envL_cons, Go.Ab.W0, Go.Ab.WD, Go.Ab.WE, if_true, if_false, reduceIte, Nat.reduceEqDiff, Nat.reduceAdd, Nat.reduceLT, Nat.reduceLeDiff, reduceCtorEq, Nat.reduceMul, implies_true, forall_eq_or_imp, forall_eq, Nat.reducePow, W1, W1C, Go.Ab.W3, Int.reduceAdd, Int.reduceLT, Int.reduceToNat, Int.reduceBEq, Int.reduceBNe, Int.reduceLE, b1, b2, d2, cutNormal_normal]
    · have b1 : (a.ty.kind != 9) = true := by rw [T.kind_ty]; simpa using ha9
      rw [FitsOK, fits_not rfl (.inl ha9)]
      simp only [K.co]
      refine pcalls_text C_ok Try.func115 rfl (by decide) (Nat.le_of_ble_eq_true rfl) (by decide) rfl fun ok H => ?_
      rw [Try.results115]
      have h := True.intro
      repeat' (first
       | (with_reducible first | refine goIf_b ?_ ?_ | refine goIf_n ?_ ?_ | refine goIf_d ?_ ?_ | refine goIf_split ?_ ?_ | refine goGb_b ?_ ?_ | refine goGb_n ?_ ?_ | refine goGb_d ?_ ?_ | refine goGb_split ?_ ?_ | refine goDGb_b ?_ ?_ | refine goDGb_n ?_ ?_ | refine goDGb_d ?_ ?_ | refine goDGb_split ?_ ?_) <;> intro h
       | ((first | refine goCall_norm ?_ | refine goDCall_norm ?_); simp only [AV.norm, AV.normL, W2, W2C, Go.Ab.W3, Int.reduceAdd, Int.reduceLT, Int.reduceToNat, Int.reduceBEq, Int.reduceBNe, Int.reduceLE, b1, d2]; first | refine goCall_p (former_ok _) (.inl rfl) ?_ | refine goDCall_p (former_ok _) (.inl rfl) ?_)
       | refine go_draw (id := 8) C_ok mixed 0 Try.f115.ntmps rfl (by kernel_rfl) (by decide) ?_
       | refine go_draw (id := 10) C_ok mixed 0 Try.f115.ntmps rfl (by kernel_rfl) (by decide) ?_
       | refine go_draw (id := 15) C_ok mixed 0 Try.f115.ntmps rfl (by kernel_rfl) (by decide) ?_
       | refine go_draw (id := 19) C_ok mixed 0 Try.f115.ntmps rfl (by kernel_rfl) (by decide) ?_
       | refine goRound ?_ C_ok Try.f115.ntmps rfl (by decide)
       | skip) <;> simp only [h, ↓upd_eq, ↓envL_cons, Go.Ab.W0, Go.Ab.WD, Go.Ab.WE, if_true, if_false, reduceIte, Nat.reduceEqDiff, Nat.reduceAdd, Nat.reduceLT, Nat.reduceLeDiff, reduceCtorEq, Nat.reduceMul, implies_true, forall_eq_or_imp, forall_eq, Nat.reducePow, W1, W1C, Go.Ab.W3, Int.reduceAdd, Int.reduceLT, Int.reduceToNat, Int.reduceBEq, Int.reduceBNe, Int.reduceLE, b1, d2, cutNormal_normal]
  | pair x y =>
    obtain ⟨k1, k2⟩ := ok_pair hk
    by_cases ha9 : a.kind = 7
    · by_cases hb9 : b.kind = 7
      · obtain ⟨a1, a2, rfl⟩ := T.kind_7 ha9
        obtain ⟨b1, b2, rfl⟩ := T.kind_7 hb9
        simp only [T.ok, Bool.and_eq_true] at ha hb
        simp only [FitsOK, K.co, T.ty, fitsK]
        have c1 := ih x a1 b1 (by simp only [K.size]; omega) k1 ha.1 hb.1; have c2 := ih y a2 b2 (by simp only [K.size]; omega) k2 ha.2 hb.2; unfold FitsOK at c1 c2
        refine pcalls_text C_ok Try.func115 rfl (by decide) (Nat.le_of_ble_eq_true rfl) (by decide) rfl fun ok H => ?_
        rw [Try.results115]
        have h := True.intro
        repeat' (first
         | (with_reducible first | refine goIf_b ?_ ?_ | refine goIf_n ?_ ?_ | refine goIf_d ?_ ?_ | refine goIf_split ?_ ?_ | refine goGb_b ?_ ?_ | refine goGb_n ?_ ?_ | refine goGb_d ?_ ?_ | refine goGb_split ?_ ?_ | refine goDGb_b ?_ ?_ | refine goDGb_n ?_ ?_ | refine goDGb_d ?_ ?_ | refine goDGb_split ?_ ?_) <;> intro h
         | ((first | refine goCall_norm ?_ | refine goDCall_norm ?_); simp only [AV.norm, AV.normL, W2, W2C, Go.Ab.W3, Int.reduceAdd, Int.reduceLT, Int.reduceToNat, Int.reduceBEq, Int.reduceBNe, Int.reduceLE]; first | refine goCall_p (former_ok _) (.inl rfl) ?_ | refine goCall_p (c1) (.inl rfl) ?_ | refine goCall_p (c2) (.inl rfl) ?_ | refine goDCall_p (former_ok _) (.inl rfl) ?_ | refine goDCall_p (c1) (.inl rfl) ?_ | refine goDCall_p (c2) (.inl rfl) ?_)
         | refine go_draw (id := 8) C_ok mixed 0 Try.f115.ntmps rfl (by kernel_rfl) (by decide) ?_
         | refine go_draw (id := 10) C_ok mixed 0 Try.f115.ntmps rfl (by kernel_rfl) (by decide) ?_
         | refine go_draw (id := 15) C_ok mixed 0 Try.f115.ntmps rfl (by kernel_rfl) (by decide) ?_
         | refine go_draw (id := 19) C_ok mixed 0 Try.f115.ntmps rfl (by kernel_rfl) (by decide) ?_
         | refine goRound ?_ C_ok Try.f115.ntmps rfl (by decide)
         | skip) <;> simp only [h, ↓upd_eq, ↓envL_cons, Go.Ab.W0, Go.Ab.WD, Go.Ab.WE, if_true, if_false, reduceIte, Nat.reduceEqDiff, Nat.reduceAdd, Nat.reduceLT, Nat.reduceLeDiff, reduceCtorEq, Nat.reduceMul, implies_true, forall_eq_or_imp, forall_eq, Nat.reducePow, W1, W1C, Go.Ab.W3, Int.reduceAdd, Int.reduceLT, Int.reduceToNat, Int.reduceBEq, Int.reduceBNe, Int.reduceLE, cutNormal_normal]
        all_goals simp_all
      · have b1 : (b.ty.kind != 7) = true := by rw [T.kind_ty]; simpa using hb9
        have b2 : (a.ty.kind != 7) = false := by rw [T.kind_ty]; simpa using ha9
        rw [FitsOK, fits_not rfl (.inr hb9)]
        simp only [K.co]
        refine pcalls_text C_ok Try.func115 rfl (by decide) (Nat.le_of_ble_eq_true rfl) (by decide) rfl fun ok H => ?_
        rw [Try.results115]
        have h := True.intro
        repeat' (first
         | (with_reducible first | refine goIf_b ?_ ?_ | refine goIf_n ?_ ?_ | refine goIf_d ?_ ?_ | refine goIf_split ?_ ?_ | refine goGb_b ?_ ?_ | refine goGb_n ?_ ?_ | refine goGb_d ?_ ?_ | refine goGb_split ?_ ?_ | refine goDGb_b ?_ ?_ | refine goDGb_n ?_ ?_ | refine goDGb_d ?_ ?_ | refine goDGb_split ?_ ?_) <;> intro h
         | ((first | refine goCall_norm ?_ | refine goDCall_norm ?_); simp only [AV.norm, AV.normL, W2, W2C, Go.Ab.W3, Int.reduceAdd, Int.reduceLT, Int.reduceToNat, Int.reduceBEq, Int.reduceBNe, Int.reduceLE, b1, b2, d3]; first | refine goCall_p (former_ok _) (.inl rfl) ?_ | refine goDCall_p (former_ok _) (.inl rfl) ?_)
         | refine go_draw (id := 8) C_ok mixed 0 Try.f115.ntmps rfl (by kernel_rfl) (by decide) ?_
         | refine go_draw (id := 10) C_ok mixed 0 Try.f115.ntmps rfl (by kernel_rfl) (by decide) ?_
         | refine go_draw (id := 15) C_ok mixed 0 Try.f115.ntmps rfl (by kernel_rfl) (by decide) ?_
         | refine go_draw (id := 19) C_ok mixed 0 Try.f115.ntmps rfl (by kernel_rfl) (by decide) ?_
         | refine goRound ?_ C_ok Try.f115.ntmps rfl (by decide)
         | skip) <;> simp only [h, ↓upd_eq, ↓envL_cons, Go.Ab.W0, Go.Ab.WD, Go.Ab.WE, if_true, if_false, reduceIte, Nat.reduceEqDiff, Nat.reduceAdd, Nat.reduceLT, Nat.reduceLeDiff, reduceCtorEq, Nat.reduceMul, implies_true, forall_eq_or_imp, forall_eq, Nat.reducePow, W1, W1C, Go.Ab.W3, Int.reduceAdd, Int.reduceLT, Int.reduceToNat, Int.reduceBEq, Int.reduceBNe, Int.reduceLE, b1, b2, d3, cutNormal_normal]
    · have b1 : (a.ty.kind != 7) = true := by rw [T.kind_ty]; simpa using ha9
      rw [FitsOK, fits_not rfl (.inl ha9)]
      simp only [K.co]
      refine pcalls_text C_ok Try.func115 rfl (by decide) (Nat.le_of_ble_eq_true rfl) (by decide) rfl fun ok H => ?_
      rw [Try.results115]
      have h := True.intro
      repeat' (first
       | (with_reducible first | refine goIf_b ?_ ?_ | refine goIf_n ?_ ?_ | refine goIf_d ?_ ?_ | refine goIf_split ?_ ?_ | refine goGb_b ?_ ?_ | refine goGb_n ?_ ?_ | refine goGb_d ?_ ?_ | refine goGb_split ?_ ?_ | refine goDGb_b ?_ ?_ | refine goDGb_n ?_ ?_ | refine goDGb_d ?_ ?_ | refine goDGb_split ?_ ?_) <;> intro h
       | ((first | refine goCall_norm ?_ | refine goDCall_norm ?_); simp only [AV.norm, AV.normL, W2, W2C, Go.Ab.W3, Int.reduceAdd, Int.reduceLT, Int.reduceToNat, Int.reduceBEq, Int.reduceBNe, Int.reduceLE, b1, d3]; first | refine goCall_p (former_ok _) (.inl rfl) ?_ | refine goDCall_p (former_ok _) (.inl rfl) ?_)
       | refine go_draw (id := 8) C_ok mixed 0 Try.f115.ntmps rfl (by kernel_rfl) (by decide) ?_
       | refine go_draw (id := 10) C_ok mixed 0 Try.f115.ntmps rfl (by kernel_rfl) (by decide) ?_
       | refine go_draw (id := 15) C_ok mixed 0 Try.f115.ntmps rfl (by kernel_rfl) (by decide) ?_
       | refine go_draw (id := 19) C_ok mixed 0 Try.f115.ntmps rfl (by kernel_rfl) (by decide) ?_
       | refine goRound ?_ C_ok Try.f115.ntmps rfl (by decide)
       | skip) <;> simp only [h, ↓upd_eq, ↓envL_cons, Go.Ab.W0, Go.Ab.WD, Go.Ab.WE, if_true, if_false, reduceIte, Nat.reduceEqDiff, Nat.reduceAdd, Nat.reduceLT, Nat.reduceLeDiff, reduceCtorEq, Nat.reduceMul, implies_true, forall_eq_or_imp, forall_eq, Nat.reducePow, W1, W1C, Go.Ab.W3, Int.reduceAdd, Int.reduceLT, Int.reduceToNat, Int.reduceBEq, Int.reduceBNe, Int.reduceLE, b1, d3, cutNormal_normal]
  | list x =>
    have k1 := ok_list hk
    by_cases ha9 : a.kind = 8
    · by_cases hb9 : b.kind = 8
      · obtain ⟨a1, rfl⟩ := T.kind_8 ha9
        obtain ⟨b1, rfl⟩ := T.kind_8 hb9
        simp only [T.ok, Bool.and_eq_true] at ha hb
        simp only [FitsOK, K.co, T.ty, fitsK]
        have c1 := ih x a1 b1 (by simp only [K.size]; omega) k1 ha hb; unfold FitsOK at c1
        refine pcalls_text C_ok Try.func115 rfl (by decide) (Nat.le_of_ble_eq_true rfl) (by decide) rfl fun ok H => ?_
        rw [Try.results115]
        have h := True.intro
        repeat' (first
         | (with_reducible first | refine goIf_b ?_ ?_ | refine goIf_n ?_ ?_ | refine goIf_d ?_ ?_ | refine goIf_split ?_ ?_ | refine goGb_b ?_ ?_ | refine goGb_n ?_ ?_ | refine goGb_d ?_ ?_ | refine goGb_split ?_ ?_ | refine goDGb_b ?_ ?_ | refine goDGb_n ?_ ?_ | refine goDGb_d ?_ ?_ | refine goDGb_split ?_ ?_) <;> intro h
         | ((first | refine goCall_norm ?_ | refine goDCall_norm ?_); simp only [AV.norm, AV.normL, W2, W2C, Go.Ab.W3, Int.reduceAdd, Int.reduceLT, Int.reduceToNat, Int.reduceBEq, Int.reduceBNe, Int.reduceLE]; first | refine goCall_p (former_ok _) (.inl rfl) ?_ | refine goCall_p (c1) (.inl rfl) ?_ | refine goDCall_p (former_ok _) (.inl rfl) ?_ | refine goDCall_p (c1) (.inl rfl) ?_)
         | refine go_draw (id := 8) C_ok mixed 0 Try.f115.ntmps rfl (by kernel_rfl) (by decide) ?_
         | refine go_draw (id := 10) C_ok mixed 0 Try.f115.ntmps rfl (by kernel_rfl) (by decide) ?_
         | refine go_draw (id := 15) C_ok mixed 0 Try.f115.ntmps rfl (by kernel_rfl) (by decide) ?_
         | refine go_draw (id := 19) C_ok mixed 0 Try.f115.ntmps rfl (by kernel_rfl) (by decide) ?_
         | refine goRound ?_ C_ok Try.f115.ntmps rfl (by decide)
         | skip) <;> simp only [h, ↓upd_eq, ↓envL_cons, Go.Ab.W0, Go.Ab.WD, Go.Ab.WE, if_true, if_false, reduceIte, Nat.reduceEqDiff, Nat.reduceAdd, Nat.reduceLT, Nat.reduceLeDiff, reduceCtorEq, Nat.reduceMul, implies_true, forall_eq_or_imp, forall_eq, Nat.reducePow, W1, W1C, Go.Ab.W3, Int.reduceAdd, Int.reduceLT, Int.reduceToNat, Int.reduceBEq, Int.reduceBNe, Int.reduceLE, cutNormal_normal]
        all_goals simp_all
      · have b1 : (b.ty.kind != 8) = true := by rw [T.kind_ty]; simpa using hb9
        have b2 : (a.ty.kind != 8) = false := by rw [T.kind_ty]; simpa using ha9
        rw [FitsOK, fits_not rfl (.inr hb9)]
        simp only [K.co]
        refine pcalls_text C_ok Try.func115 rfl (by decide) (Nat.le_of_ble_eq_true rfl) (by decide) rfl fun ok H => ?_
        rw [Try.results115]
        have h := True.intro
        repeat' (first
         | (with_reducible first | refine goIf_b ?_ ?_ | refine goIf_n ?_ ?_ | refine goIf_d ?_ ?_ | refine goIf_split ?_ ?_ | refine goGb_b ?_ ?_ | refine goGb_n ?_ ?_ | refine goGb_d ?_ ?_ | refine goGb_split ?_ ?_ | refine goDGb_b ?_ ?_ | refine goDGb_n ?_ ?_ | refine goDGb_d ?_ ?_ | refine goDGb_split ?_ ?_) <;> intro h
         | ((first | refine goCall_norm ?_ | refine goDCall_norm ?_); simp only [AV.norm, AV.normL, W2, W2C, Go.Ab.W3, Int.reduceAdd, Int.reduceLT, Int.reduceToNat, Int.reduceBEq, Int.reduceBNe, Int.reduceLE, b1, b2, d4]; first | refine goCall_p (former_ok _) (.inl rfl) ?_ | refine goDCall_p (former_ok _) (.inl rfl) ?_)
         | refine go_draw (id := 8) C_ok mixed 0 Try.f115.ntmps rfl (by kernel_rfl) (by decide) ?_
         | refine go_draw (id := 10) C_ok mixed 0 Try.f115.ntmps rfl (by kernel_rfl) (by decide) ?_
         | refine go_draw (id := 15) C_ok mixed 0 Try.f115.ntmps rfl (by kernel_rfl) (by decide) ?_
         | refine go_draw (id := 19) C_ok mixed 0 Try.f115.ntmps rfl (by kernel_rfl) (by decide) ?_
         | refine goRound ?_ C_ok Try.f115.ntmps rfl (by decide)
         | skip) <;> simp only [h, ↓upd_eq, ↓envL_cons, Go.Ab.W0, Go.Ab.WD, Go.Ab.WE, if_true, if_false, reduceIte, Nat.reduceEqDiff, Nat.reduceAdd, Nat.reduceLT, Nat.reduceLeDiff, reduceCtorEq, Nat.reduceMul, implies_true, forall_eq_or_imp, forall_eq, Nat.reducePow, W1, W1C, Go.Ab.W3, Int.reduceAdd, Int.reduceLT, Int.reduceToNat, Int.reduceBEq, Int.reduceBNe, Int.reduceLE, b1, b2, d4, cutNormal_normal]
    · have b1 : (a.ty.kind != 8) = true := by rw [T.kind_ty]; simpa using ha9
      rw [FitsOK, fits_not rfl (.inl ha9)]
      simp only [K.co]
      refine pcalls_text C_ok Try.func115 rfl (by decide) (Nat.le_of_ble_eq_true rfl) (by decide) rfl fun ok H => ?_
      rw [Try.results115]
      have h := True.intro
      repeat' (first
       | (with_reducible first | refine goIf_b ?_ ?_ | refine goIf_n ?_ ?_ | refine goIf_d ?_ ?_ | refine goIf_split ?_ ?_ | refine goGb_b ?_ ?_ | refine goGb_n ?_ ?_ | refine goGb_d ?_ ?_ | refine goGb_split ?_ ?_ | refine goDGb_b ?_ ?_ | refine goDGb_n ?_ ?_ | refine goDGb_d ?_ ?_ | refine goDGb_split ?_ ?_) <;> intro h
       | ((first | refine goCall_norm ?_ | refine goDCall_norm ?_); simp only [AV.norm, AV.normL, W2, W2C, Go.Ab.W3, Int.reduceAdd, Int.reduceLT, Int.reduceToNat, Int.reduceBEq, Int.reduceBNe, Int.reduceLE, b1, d4]; first | refine goCall_p (former_ok _) (.inl rfl) ?_ | refine goDCall_p (former_ok _) (.inl rfl) ?_)
       | refine go_draw (id := 8) C_ok mixed 0 Try.f115.ntmps rfl (by kernel_rfl) (by decide) ?_
       | refine go_draw (id := 10) C_ok mixed 0 Try.f115.ntmps rfl (by kernel_rfl) (by decide) ?_
       | refine go_draw (id := 15) C_ok mixed 0 Try.f115.ntmps rfl (by kernel_rfl) (by decide) ?_
       | refine go_draw (id := 19) C_ok mixed 0 Try.f115.ntmps rfl (by kernel_rfl) (by decide) ?_
       | refine goRound ?_ C_ok Try.f115.ntmps rfl (by decide)
       | skip) <;> simp only [h, ↓upd_eq, ↓envL_cons, Go.Ab.W0, Go.Ab.WD, Go.Ab.WE, if_true, if_false, reduceIte, Nat.reduceEqDiff, Nat.reduceAdd, Nat.reduceLT, Nat.reduceLeDiff, reduceCtorEq, Nat.reduceMul, implies_true, forall_eq_or_imp, forall_eq, Nat.reducePow, W1, W1C, Go.Ab.W3, Int.reduceAdd, Int.reduceLT, Int.reduceToNat, Int.reduceBEq, Int.reduceBNe, Int.reduceLE, b1, d4, cutNormal_normal]

theorem rfits_step (k : K) (hk : k.ok = true) (a b : T) (ha : a.ok = true) (hb : b.ok = true)
    (ih : ∀ k' a' b', k'.size < k.size → k'.ok = true → a'.ok = true → b'.ok = true → FitsOK 41 k' a' b') : FitsOK 41 k a b := by
  have d2 : former 2 = 9 := rfl
  have d3 : former 3 = 7 := rfl
  have d4 : former 4 = 8 := rfl
  cases k with
  | id =>
    simp only [FitsOK, K.co, fitsK, ← T.same_ty]
    refine pcalls_text C_ok Try.func41 rfl (by decide) (Nat.le_of_ble_eq_true rfl) (by decide) rfl fun ok H => ?_
    rw [Try.results41]
    have h := True.intro
    repeat' (first
     | (with_reducible first | refine goIf_b ?_ ?_ | refine goIf_n ?_ ?_ | refine goIf_d ?_ ?_ | refine goIf_split ?_ ?_ | refine goGb_b ?_ ?_ | refine goGb_n ?_ ?_ | refine goGb_d ?_ ?_ | refine goGb_split ?_ ?_ | refine goDGb_b ?_ ?_ | refine goDGb_n ?_ ?_ | refine goDGb_d ?_ ?_ | refine goDGb_split ?_ ?_) <;> intro h
     | ((first | refine goCall_norm ?_ | refine goDCall_norm ?_); simp only [AV.norm, AV.normL, W2, W2C, Go.Ab.W3, Int.reduceAdd, Int.reduceLT, Int.reduceToNat, Int.reduceBEq, Int.reduceBNe, Int.reduceLE]; first | refine goCall_p (rsame_ok _ _) (.inl rfl) ?_ | refine goDCall_p (rsame_ok _ _) (.inl rfl) ?_)
     | refine go_draw (id := 7) C_ok mixed 0 Try.f41.ntmps rfl (by kernel_rfl) (by decide) ?_
     | refine go_draw (id := 9) C_ok mixed 0 Try.f41.ntmps rfl (by kernel_rfl) (by decide) ?_
     | refine go_draw (id := 14) C_ok mixed 0 Try.f41.ntmps rfl (by kernel_rfl) (by decide) ?_
     | refine go_draw (id := 18) C_ok mixed 0 Try.f41.ntmps rfl (by kernel_rfl) (by decide) ?_
     | refine goRound ?_ C_ok Try.f41.ntmps rfl (by decide)
     | skip) <;> simp only [h, ↓upd_eq, ↓envL_cons, Go.Ab.W0, Go.Ab.WD, Go.Ab.WE, if_true, if_false, reduceIte, Nat.reduceEqDiff, Nat.reduceAdd, Nat.reduceLT, Nat.reduceLeDiff, reduceCtorEq, Nat.reduceMul, implies_true, forall_eq_or_imp, forall_eq, Nat.reducePow, W1, W1C, Go.Ab.W3, Int.reduceAdd, Int.reduceLT, Int.reduceToNat, Int.reduceBEq, Int.reduceBNe, Int.reduceLE, cutNormal_normal]
  | fail l n =>
    simp only [FitsOK, K.co, fitsK]
    refine pcalls_text C_ok Try.func41 rfl (by decide) (Nat.le_of_ble_eq_true rfl) (by decide) rfl fun ok H => ?_
    rw [Try.results41]
    have h := True.intro
    repeat' (first
     | (with_reducible first | refine goIf_b ?_ ?_ | refine goIf_n ?_ ?_ | refine goIf_d ?_ ?_ | refine goIf_split ?_ ?_ | refine goGb_b ?_ ?_ | refine goGb_n ?_ ?_ | refine goGb_d ?_ ?_ | refine goGb_split ?_ ?_ | refine goDGb_b ?_ ?_ | refine goDGb_n ?_ ?_ | refine goDGb_d ?_ ?_ | refine goDGb_split ?_ ?_) <;> intro h
     | refine go_draw (id := 7) C_ok mixed 0 Try.f41.ntmps rfl (by kernel_rfl) (by decide) ?_
     | refine go_draw (id := 9) C_ok mixed 0 Try.f41.ntmps rfl (by kernel_rfl) (by decide) ?_
     | refine go_draw (id := 14) C_ok mixed 0 Try.f41.ntmps rfl (by kernel_rfl) (by decide) ?_
     | refine go_draw (id := 18) C_ok mixed 0 Try.f41.ntmps rfl (by kernel_rfl) (by decide) ?_
     | refine goRound ?_ C_ok Try.f41.ntmps rfl (by decide)
     | skip) <;> simp only [h, ↓upd_eq, ↓envL_cons, Go.Ab.W0, Go.Ab.WD, Go.Ab.WE, if_true, if_false, reduceIte, Nat.reduceEqDiff, Nat.reduceAdd, Nat.reduceLT, Nat.reduceLeDiff, reduceCtorEq, Nat.reduceMul, implies_true, forall_eq_or_imp, forall_eq, Nat.reducePow, W1, W1C, Go.Ab.W3, Int.reduceAdd, Int.reduceLT, Int.reduceToNat, Int.reduceBEq, Int.reduceBNe, Int.reduceLE, kind_n5, cutNormal_normal]
  | inj h k =>
    obtain ⟨k1, k2, k3⟩ := ok_inj hk
    simp only [FitsOK, K.co, fitsK]
    have e0 := (ofH_ty k2).1
    have c := ih k a (ofH h) (by simp only [K.size]; omega) k1 ha (ofH_ty k2).2
    unfold FitsOK at c
    have ek : (a.ty.kind == h) = decide (a.kind = h) := by rw [T.kind_ty]; rfl
    refine pcalls_text C_ok Try.func41 rfl (by decide) (Nat.le_of_ble_eq_true rfl) (by decide) rfl fun ok H => ?_
    rw [Try.results41]
    have h := True.intro
    repeat' (first
     | (with_reducible first | refine goIf_b ?_ ?_ | refine goIf_n ?_ ?_ | refine goIf_d ?_ ?_ | refine goIf_split ?_ ?_ | refine goGb_b ?_ ?_ | refine goGb_n ?_ ?_ | refine goGb_d ?_ ?_ | refine goGb_split ?_ ?_ | refine goDGb_b ?_ ?_ | refine goDGb_n ?_ ?_ | refine goDGb_d ?_ ?_ | refine goDGb_split ?_ ?_) <;> intro h
     | ((first | refine goCall_norm ?_ | refine goDCall_norm ?_); simp only [AV.norm, AV.normL, W2, W2C, Go.Ab.W3, Int.reduceAdd, Int.reduceLT, Int.reduceToNat, Int.reduceBEq, Int.reduceBNe, Int.reduceLE, e0, ek, kind_b5]; first | refine goCall_p (of_ok _) (.inl rfl) ?_ | refine goCall_p (c) (.inl rfl) ?_ | refine goDCall_p (of_ok _) (.inl rfl) ?_ | refine goDCall_p (c) (.inl rfl) ?_)
     | refine go_draw (id := 7) C_ok mixed 0 Try.f41.ntmps rfl (by kernel_rfl) (by decide) ?_
     | refine go_draw (id := 9) C_ok mixed 0 Try.f41.ntmps rfl (by kernel_rfl) (by decide) ?_
     | refine go_draw (id := 14) C_ok mixed 0 Try.f41.ntmps rfl (by kernel_rfl) (by decide) ?_
     | refine go_draw (id := 18) C_ok mixed 0 Try.f41.ntmps rfl (by kernel_rfl) (by decide) ?_
     | refine goRound ?_ C_ok Try.f41.ntmps rfl (by decide)
     | skip) <;> simp only [h, ↓upd_eq, ↓envL_cons, Go.Ab.W0, Go.Ab.WD, Go.Ab.WE, if_true, if_false, reduceIte, Nat.reduceEqDiff, Nat.reduceAdd, Nat.reduceLT, Nat.reduceLeDiff, reduceCtorEq, Nat.reduceMul, implies_true, forall_eq_or_imp, forall_eq, Nat.reducePow, W1, W1C, Go.Ab.W3, Int.reduceAdd, Int.reduceLT, Int.reduceToNat, Int.reduceBEq, Int.reduceBNe, Int.reduceLE, e0, ek, kind_b5, cutNormal_normal]
    all_goals simp_all
  | proj h l n k =>
    obtain ⟨k1, k2, k3, k4⟩ := ok_proj hk
    simp only [FitsOK, K.co, fitsK]
    have e0 := (ofH_ty k2).1
    have c := ih k (ofH h) b (by simp only [K.size]; omega) k1 (ofH_ty k2).2 hb
    unfold FitsOK at c
    refine pcalls_text C_ok Try.func41 rfl (by decide) (Nat.le_of_ble_eq_true rfl) (by decide) rfl fun ok H => ?_
    rw [Try.results41]
    have h := True.intro
    repeat' (first
     | (with_reducible first | refine goIf_b ?_ ?_ | refine goIf_n ?_ ?_ | refine goIf_d ?_ ?_ | refine goIf_split ?_ ?_ | refine goGb_b ?_ ?_ | refine goGb_n ?_ ?_ | refine goGb_d ?_ ?_ | refine goGb_split ?_ ?_ | refine goDGb_b ?_ ?_ | refine goDGb_n ?_ ?_ | refine goDGb_d ?_ ?_ | refine goDGb_split ?_ ?_) <;> intro h
     | ((first | refine goCall_norm ?_ | refine goDCall_norm ?_); simp only [AV.norm, AV.normL, W2, W2C, Go.Ab.W3, Int.reduceAdd, Int.reduceLT, Int.reduceToNat, Int.reduceBEq, Int.reduceBNe, Int.reduceLE, e0, kind_b5]; first | refine goCall_p (of_ok _) (.inl rfl) ?_ | refine goCall_p (c) (.inl rfl) ?_ | refine goDCall_p (of_ok _) (.inl rfl) ?_ | refine goDCall_p (c) (.inl rfl) ?_)
     | refine go_draw (id := 7) C_ok mixed 0 Try.f41.ntmps rfl (by kernel_rfl) (by decide) ?_
     | refine go_draw (id := 9) C_ok mixed 0 Try.f41.ntmps rfl (by kernel_rfl) (by decide) ?_
     | refine go_draw (id := 14) C_ok mixed 0 Try.f41.ntmps rfl (by kernel_rfl) (by decide) ?_
     | refine go_draw (id := 18) C_ok mixed 0 Try.f41.ntmps rfl (by kernel_rfl) (by decide) ?_
     | refine goRound ?_ C_ok Try.f41.ntmps rfl (by decide)
     | skip) <;> simp only [h, ↓upd_eq, ↓envL_cons, Go.Ab.W0, Go.Ab.WD, Go.Ab.WE, if_true, if_false, reduceIte, Nat.reduceEqDiff, Nat.reduceAdd, Nat.reduceLT, Nat.reduceLeDiff, reduceCtorEq, Nat.reduceMul, implies_true, forall_eq_or_imp, forall_eq, Nat.reducePow, W1, W1C, Go.Ab.W3, Int.reduceAdd, Int.reduceLT, Int.reduceToNat, Int.reduceBEq, Int.reduceBNe, Int.reduceLE, e0, kind_b5, cutNormal_normal]
    all_goals simp_all
  | fn x y =>
    obtain ⟨k1, k2⟩ := ok_fn hk
    by_cases ha9 : a.kind = 9
    · by_cases hb9 : b.kind = 9
      · obtain ⟨a1, a2, rfl⟩ := T.kind_9 ha9
        obtain ⟨b1, b2, rfl⟩ := T.kind_9 hb9
        simp only [T.ok, Bool.and_eq_true] at ha hb
        simp only [FitsOK, K.co, T.ty, fitsK]
        have c1 := ih x b1 a1 (by simp only [K.size]; omega) k1 hb.1 ha.1; have c2 := ih y a2 b2 (by simp only [K.size]; omega) k2 ha.2 hb.2; unfold FitsOK at c1 c2
        refine pcalls_text C_ok Try.func41 rfl (by decide) (Nat.le_of_ble_eq_true rfl) (by decide) rfl fun ok H => ?_
        rw [Try.results41]
        have h := True.intro
        repeat' (first
         | (with_reducible first | refine goIf_b ?_ ?_ | refine goIf_n ?_ ?_ | refine goIf_d ?_ ?_ | refine goIf_split ?_ ?_ | refine goGb_b ?_ ?_ | refine goGb_n ?_ ?_ | refine goGb_d ?_ ?_ | refine goGb_split ?_ ?_ | refine goDGb_b ?_ ?_ | refine goDGb_n ?_ ?_ | refine goDGb_d ?_ ?_ | refine goDGb_split ?_ ?_) <;> intro h
         | ((first | refine goCall_norm ?_ | refine goDCall_norm ?_); simp only [AV.norm, AV.normL, W2, W2C, Go.Ab.W3, Int.reduceAdd, Int.reduceLT, Int.reduceToNat, Int.reduceBEq, Int.reduceBNe, Int.reduceLE]; first | refine goCall_p (rFormer_ok _) (.inl rfl) ?_ | refine goCall_p (c1) (.inl rfl) ?_ | refine goCall_p (c2) (.inl rfl) ?_ | refine goDCall_p (rFormer_ok _) (.inl rfl) ?_ | refine goDCall_p (c1) (.inl rfl) ?_ | refine goDCall_p (c2) (.inl rfl) ?_)
         | refine go_draw (id := 7) C_ok mixed 0 Try.f41.ntmps rfl (by kernel_rfl) (by decide) ?_
         | refine go_draw (id := 9) C_ok mixed 0 Try.f41.ntmps rfl (by kernel_rfl) (by decide) ?_
         | refine go_draw (id := 14) C_ok mixed 0 Try.f41.ntmps rfl (by kernel_rfl) (by decide) ?_
         | refine go_draw (id := 18) C_ok mixed 0 Try.f41.ntmps rfl (by kernel_rfl) (by decide) ?_
         | refine goRound ?_ C_ok Try.f41.ntmps rfl (by decide)
         | skip) <;> simp only [h, ↓upd_eq, ↓envL_cons, Go.Ab.W0, Go.Ab.WD, Go.Ab.WE, if_true, if_false, reduceIte, Nat.reduceEqDiff, Nat.reduceAdd, Nat.reduceLT, Nat.reduceLeDiff, reduceCtorEq, Nat.reduceMul, implies_true, forall_eq_or_imp, forall_eq, Nat.reducePow, W1, W1C, Go.Ab.W3, Int.reduceAdd, Int.reduceLT, Int.reduceToNat, Int.reduceBEq, Int.reduceBNe, Int.reduceLE, cutNormal_normal]
        all_goals simp_all
      · have b1 : (b.ty.kind != 9) = true := by rw [T.kind_ty]; simpa using hb9
        have b2 : (a.ty.kind != 9) = false := by rw [T.kind_ty]; simpa using ha9
        rw [FitsOK, fits_not rfl (.inr hb9)]
        simp only [K.co]
        refine pcalls_text C_ok Try.func41 rfl (by decide) (Nat.le_of_ble_eq_true rfl) (by decide) rfl fun ok H => ?_
        rw [Try.results41]
        have h := True.intro
        repeat' (first
         | (with_reducible first | refine goIf_b ?_ ?_ | refine goIf_n ?_ ?_ | refine goIf_d ?_ ?_ | refine goIf_split ?_ ?_ | refine goGb_b ?_ ?_ | refine goGb_n ?_ ?_ | refine goGb_d ?_ ?_ | refine goGb_split ?_ ?_ | refine goDGb_b ?_ ?_ | refine goDGb_n ?_ ?_ | refine goDGb_d ?_ ?_ | refine goDGb_split ?_ ?_) <;> intro h
         | ((first | refine goCall_norm ?_ | refine goDCall_norm ?_); simp only [AV.norm, AV.normL, W2, W2C, Go.Ab.W3, Int.reduceAdd, Int.reduceLT, Int.reduceToNat, Int.reduceBEq, Int.reduceBNe, Int.reduceLE, b1, b2, d2]; first | refine goCall_p (rFormer_ok _) (.inl rfl) ?_ | refine goDCall_p (rFormer_ok _) (.inl rfl) ?_)
         | refine go_draw (id := 7) C_ok mixed 0 Try.f41.ntmps rfl (by kernel_rfl) (by decide) ?_
         | refine go_draw (id := 9) C_ok mixed 0 Try.f41.ntmps rfl (by kernel_rfl) (by decide) ?_
         | refine go_draw (id := 14) C_ok mixed 0 Try.f41.ntmps rfl (by kernel_rfl) (by decide) ?_
         | refine go_draw (id := 18) C_ok mixed 0 Try.f41.ntmps rfl (by kernel_rfl) (by decide) ?_
         | refine goRound ?_ C_ok Try.f41.ntmps rfl (by decide)
         | skip) <;> simp only [h, ↓upd_eq, ↓envL_cons, Go.Ab.W0, Go.Ab.WD, Go.Ab.WE, if_true, if_false, reduceIte, Nat.reduceEqDiff, Nat.reduceAdd, Nat.reduceLT, Nat.reduceLeDiff, reduceCtorEq, Nat.reduceMul, implies_true, forall_eq_or_imp, forall_eq, Nat.reducePow, W1, W1C, Go.Ab.W3, Int.reduceAdd, Int.reduceLT, Int.reduceToNat, Int.reduceBEq, Int.reduceBNe, Int.reduceLE, b1, b2, d2, cutNormal_normal]
    · have b1 : (a.ty.kind != 9) = true := by rw [T.kind_ty]; simpa using ha9
      rw [FitsOK, fits_not rfl (.inl ha9)]
      simp only [K.co]
      refine pcalls_text C_ok Try.func41 rfl (by decide) (Nat.le_of_ble_eq_true rfl) (by decide) rfl fun ok H => ?_
      rw [Try.results41]
      have h := True.intro
      repeat' (first
       | (with_reducible first | refine goIf_b ?_ ?_ | refine goIf_n ?_ ?_ | refine goIf_d ?_ ?_ | refine goIf_split ?_ ?_ | refine goGb_b ?_ ?_ | refine goGb_n ?_ ?_ | refine goGb_d ?_ ?_ | refine goGb_split ?_ ?_ | refine goDGb_b ?_ ?_ | refine goDGb_n ?_ ?_ | refine goDGb_d ?_ ?_ | refine goDGb_split ?_ ?_) <;> intro h
       | ((first | refine goCall_norm ?_ | refine goDCall_norm ?_); simp only [AV.norm, AV.normL, W2, W2C, Go.Ab.W3, Int.reduceAdd, Int.reduceLT, Int.reduceToNat, Int.reduceBEq, Int.reduceBNe, Int.reduceLE, b1, d2]; first | refine goCall_p (rFormer_ok _) (.inl rfl) ?_ | refine goDCall_p (rFormer_ok _) (.inl rfl) ?_)
       | refine go_draw (id := 7) C_ok mixed 0 Try.f41.ntmps rfl (by kernel_rfl) (by decide) ?_
       | refine go_draw (id := 9) C_ok mixed 0 Try.f41.ntmps rfl (by kernel_rfl) (by decide) ?_
       | refine go_draw (id := 14) C_ok mixed 0 Try.f41.ntmps rfl (by kernel_rfl) (by decide) ?_
       | refine go_draw (id := 18) C_ok mixed 0 Try.f41.ntmps rfl (by kernel_rfl) (by decide) ?_
       | refine goRound ?_ C_ok Try.f41.ntmps rfl (by decide)
       | skip) <;> simp only [h, ↓upd_eq, ↓envL_cons, Go.Ab.W0, Go.Ab.WD, Go.Ab.WE, if_true, if_false, reduceIte, Nat.reduceEqDiff, Nat.reduceAdd, Nat.reduceLT, Nat.reduceLeDiff, reduceCtorEq, Nat.reduceMul, implies_true, forall_eq_or_imp, forall_eq, Nat.reducePow, W1, W1C, Go.Ab.W3, Int.reduceAdd, Int.reduceLT, Int.reduceToNat, Int.reduceBEq, Int.reduceBNe, Int.reduceLE, b1, d2, cutNormal_normal]
  | pair x y =>
    obtain ⟨k1, k2⟩ := ok_pair hk
    by_cases ha9 : a.kind = 7
    · by_cases hb9 : b.kind = 7
      · obtain ⟨a1, a2, rfl⟩ := T.kind_7 ha9
        obtain ⟨b1, b2, rfl⟩ := T.kind_7 hb9
        simp only [T.ok, Bool.and_eq_true] at ha hb
        simp only [FitsOK, K.co, T.ty, fitsK]
        have c1 := ih x a1 b1 (by simp only [K.size]; omega) k1 ha.1 hb.1; have c2 := ih y a2 b2 (by simp only [K.size]; omega) k2 ha.2 hb.2; unfold FitsOK at c1 c2
        refine pcalls_text C_ok Try.func41 rfl (by decide) (Nat.le_of_ble_eq_true rfl) (by decide) rfl fun ok H => ?_
        rw [Try.results41]
        have h := True.intro
        repeat' (first
         | (with_reducible first | refine goIf_b ?_ ?_ | refine goIf_n ?_ ?_ | refine goIf_d ?_ ?_ | refine goIf_split ?_ ?_ | refine goGb_b ?_ ?_ | refine goGb_n ?_ ?_ | refine goGb_d ?_ ?_ | refine goGb_split ?_ ?_ | refine goDGb_b ?_ ?_ | refine goDGb_n ?_ ?_ | refine goDGb_d ?_ ?_ | refine goDGb_split ?_ ?_) <;> intro h
         | ((first | refine goCall_norm ?_ | refine goDCall_norm ?_); simp only [AV.norm, AV.normL, W2, W2C, Go.Ab.W3, Int.reduceAdd, Int.reduceLT, Int.reduceToNat, Int.reduceBEq, Int.reduceBNe, Int.reduceLE]; first | refine goCall_p (rFormer_ok _) (.inl rfl) ?_ | refine goCall_p (c1) (.inl rfl) ?_ | refine goCall_p (c2) (.inl rfl) ?_ | refine goDCall_p (rFormer_ok _) (.inl rfl) ?_ | refine goDCall_p (c1) (.inl rfl) ?_ | refine goDCall_p (c2) (.inl rfl) ?_)
         | refine go_draw (id := 7) C_ok mixed 0 Try.f41.ntmps rfl (by kernel_rfl) (by decide) ?_
         | refine go_draw (id := 9) C_ok mixed 0 Try.f41.ntmps rfl (by kernel_rfl) (by decide) ?_
         | refine go_draw (id := 14) C_ok mixed 0 Try.f41.ntmps rfl (by kernel_rfl) (by decide) ?_
         | refine go_draw (id := 18) C_ok mixed 0 Try.f41.ntmps rfl (by kernel_rfl) (by decide) ?_
         | refine goRound ?_ C_ok Try.f41.ntmps rfl (by decide)
         | skip) <;> simp only [h, ↓upd_eq, ↓envL_cons, Go.Ab.W0, Go.Ab.WD, Go.Ab.WE, if_true, if_false, reduceIte, Nat.reduceEqDiff, Nat.reduceAdd, Nat.reduceLT, Nat.reduceLeDiff, reduceCtorEq, Nat.reduceMul, implies_true, forall_eq_or_imp, forall_eq, Nat.reducePow, W1, W1C, Go.Ab.W3, Int.reduceAdd, Int.reduceLT, Int.reduceToNat, Int.reduceBEq, Int.reduceBNe, Int.reduceLE, cutNormal_normal]
        all_goals simp_all
      · have b1 : (b.ty.kind != 7) = true := by rw [T.kind_ty]; simpa using hb9
        have b2 : (a.ty.kind != 7) = false := by rw [T.kind_ty]; simpa using ha9
        rw [FitsOK, fits_not rfl (.inr hb9)]
        simp only [K.co]
        refine pcalls_text C_ok Try.func41 rfl (by decide) (Nat.le_of_ble_eq_true rfl) (by decide) rfl fun ok H => ?_
        rw [Try.results41]
        have h := True.intro
        repeat' (first
         | (with_reducible first | refine goIf_b ?_ ?_ | refine goIf_n ?_ ?_ | refine goIf_d ?_ ?_ | refine goIf_split ?_ ?_ | refine goGb_b ?_ ?_ | refine goGb_n ?_ ?_ | refine goGb_d ?_ ?_ | refine goGb_split ?_ ?_ | refine goDGb_b ?_ ?_ | refine goDGb_n ?_ ?_ | refine goDGb_d ?_ ?_ | refine goDGb_split ?_ ?_) <;> intro h
         | ((first | refine goCall_norm ?_ | refine goDCall_norm ?_); simp only [AV.norm, AV.normL, W2, W2C, Go.Ab.W3, Int.reduceAdd, Int.reduceLT, Int.reduceToNat, Int.reduceBEq, Int.reduceBNe, Int.reduceLE, b1, b2, d3]; first | refine goCall_p (rFormer_ok _) (.inl rfl) ?_ | refine goDCall_p (rFormer_ok _) (.inl rfl) ?_)
         | refine go_draw (id := 7) C_ok mixed 0 Try.f41.ntmps rfl (by kernel_rfl) (by decide) ?_
         | refine go_draw (id := 9) C_ok mixed 0 Try.f41.ntmps rfl (by kernel_rfl) (by decide) ?_
         | refine go_draw (id := 14) C_ok mixed 0 Try.f41.ntmps rfl (by kernel_rfl) (by decide) ?_
         | refine go_draw (id := 18) C_ok mixed 0 Try.f41.ntmps rfl (by kernel_rfl) (by decide) ?_
         | refine goRound ?_ C_ok Try.f41.ntmps rfl (by decide)
         | skip) <;> simp only [h, ↓upd_eq, ↓envL_cons, Go.Ab.W0, Go.Ab.WD, Go.Ab.WE, if_true, if_false, reduceIte, Nat.reduceEqDiff, Nat.reduceAdd, Nat.reduceLT, Nat.reduceLeDiff, reduceCtorEq, Nat.reduceMul, implies_true, forall_eq_or_imp, forall_eq, Nat.reducePow, W1, W1C, Go.Ab.W3, Int.reduceAdd, Int.reduceLT, Int.reduceToNat, Int.reduceBEq, Int.reduceBNe, Int.reduceLE, b1, b2, d3, cutNormal_normal]
    · have b1 : (a.ty.kind != 7) = true := by rw [T.kind_ty]; simpa using ha9
      rw [FitsOK, fits_not rfl (.inl ha9)]
      simp only [K.co]
      refine pcalls_text C_ok Try.func41 rfl (by decide) (Nat.le_of_ble_eq_true rfl) (by decide) rfl fun ok H => ?_
      rw [Try.results41]
      have h := True.intro
      repeat' (first
       | (with_reducible first | refine goIf_b ?_ ?_ | refine goIf_n ?_ ?_ | refine goIf_d ?_ ?_ | refine goIf_split ?_ ?_ | refine goGb_b ?_ ?_ | refine goGb_n ?_ ?_ | refine goGb_d ?_ ?_ | refine goGb_split ?_ ?_ | refine goDGb_b ?_ ?_ | refine goDGb_n ?_ ?_ | refine goDGb_d ?_ ?_ | refine goDGb_split ?_ ?_) <;> intro h
       | ((first | refine goCall_norm ?_ | refine goDCall_norm ?_); simp only [AV.norm, AV.normL, W2, W2C, Go.Ab.W3, Int.reduceAdd, Int.reduceLT, Int.reduceToNat, Int.reduceBEq, Int.reduceBNe, Int.reduceLE, b1, d3]; first | refine goCall_p (rFormer_ok _) (.inl rfl) ?_ | refine goDCall_p (rFormer_ok _) (.inl rfl) ?_)
       | refine go_draw (id := 7) C_ok mixed 0 Try.f41.ntmps rfl (by kernel_rfl) (by decide) ?_
       | refine go_draw (id := 9) C_ok mixed 0 Try.f41.ntmps rfl (by kernel_rfl) (by decide) ?_
       | refine go_draw (id := 14) C_ok mixed 0 Try.f41.ntmps rfl (by kernel_rfl) (by decide) ?_
       | refine go_draw (id := 18) C_ok mixed 0 Try.f41.ntmps rfl (by kernel_rfl) (by decide) ?_
       | refine goRound ?_ C_ok Try.f41.ntmps rfl (by decide)
       | skip) <;> simp only [h, ↓upd_eq, ↓envL_cons, Go.Ab.W0, Go.Ab.WD, Go.Ab.WE, if_true, if_false, reduceIte, Nat.reduceEqDiff, Nat.reduceAdd, Nat.reduceLT, Nat.reduceLeDiff, reduceCtorEq, Nat.reduceMul, implies_true, forall_eq_or_imp, forall_eq, Nat.reducePow, W1, W1C, Go.Ab.W3, Int.reduceAdd, Int.reduceLT, Int.reduceToNat, Int.reduceBEq, Int.reduceBNe, Int.reduceLE, b1, d3, cutNormal_normal]
  | list x =>
    have k1 := ok_list hk
    by_cases ha9 : a.kind = 8
    · by_cases hb9 : b.kind = 8
      · obtain ⟨a1, rfl⟩ := T.kind_8 ha9
        obtain ⟨b1, rfl⟩ := T.kind_8 hb9
        simp only [T.ok, Bool.and_eq_true] at ha hb
        simp only [FitsOK, K.co, T.ty, fitsK]
        have c1 := ih x a1 b1 (by simp only [K.size]; omega) k1 ha hb; unfold FitsOK at c1
        refine pcalls_text C_ok Try.func41 rfl (by decide) (Nat.le_of_ble_eq_true rfl) (by decide) rfl fun ok H => ?_
        rw [Try.results41]
        have h := True.intro
        repeat' (first
         | (with_reducible first | refine goIf_b ?_ ?_ | refine goIf_n ?_ ?_ | refine goIf_d ?_ ?_ | refine goIf_split ?_ ?_ | refine goGb_b ?_ ?_ | refine goGb_n ?_ ?_ | refine goGb_d ?_ ?_ | refine goGb_split ?_ ?_ | refine goDGb_b ?_ ?_ | refine goDGb_n ?_ ?_ | refine goDGb_d ?_ ?_ | refine goDGb_split ?_ ?_) <;> intro h
         | ((first | refine goCall_norm ?_ | refine goDCall_norm ?_); simp only [AV.norm, AV.normL, W2, W2C, Go.Ab.W3, Int.reduceAdd, Int.reduceLT, Int.reduceToNat, Int.reduceBEq, Int.reduceBNe, Int.reduceLE]; first | refine goCall_p (rFormer_ok _) (.inl rfl) ?_ | refine goCall_p (c1) (.inl rfl) ?_ | refine goDCall_p (rFormer_ok _) (.inl rfl) ?_ | refine goDCall_p (c1) (.inl rfl) ?_)
         | refine go_draw (id := 7) C_ok mixed 0 Try.f41.ntmps rfl (by kernel_rfl) (by decide) ?_
         | refine go_draw (id := 9) C_ok mixed 0 Try.f41.ntmps rfl (by kernel_rfl) (by decide) ?_
         | refine go_draw (id := 14) C_ok mixed 0 Try.f41.ntmps rfl (by kernel_rfl) (by decide) ?_
         | refine go_draw (id := 18) C_ok mixed 0 Try.f41.ntmps rfl (by kernel_rfl) (by decide) ?_
         | refine goRound ?_ C_ok Try.f41.ntmps rfl (by decide)
         | skip) <;> simp only [h, ↓upd_eq, ↓envL_cons, Go.Ab.W0, Go.Ab.WD, Go.Ab.WE, if_true, if_false, reduceIte, Nat.reduceEqDiff, Nat.reduceAdd, Nat.reduceLT, Nat.reduceLeDiff, reduceCtorEq, Nat.reduceMul, implies_true, forall_eq_or_imp, forall_eq, Nat.reducePow, W1, W1C, Go.Ab.W3, Int.reduceAdd, Int.reduceLT, Int.reduceToNat, Int.reduceBEq, Int.reduceBNe, Int.reduceLE, cutNormal_normal]
        all_goals simp_all
      · have b1 : (b.ty.kind != 8) = true := by rw [T.kind_ty]; simpa using hb9
        have b2 : (a.ty.kind != 8) = false := by rw [T.kind_ty]; simpa using ha9
        rw [FitsOK, fits_not rfl (.inr hb9)]
        simp only [K.co]
        refine pcalls_text C_ok Try.func41 rfl (by decide) (Nat.le_of_ble_eq_true rfl) (by decide) rfl fun ok H => ?_
        rw [Try.results41]
        have h := True.intro
        repeat' (first
         | (with_reducible first | refine goIf_b ?_ ?_ | refine goIf_n ?_ ?_ | refine goIf_d ?_ ?_ | refine goIf_split ?_ ?_ | refine goGb_b ?_ ?_ | refine goGb_n ?_ ?_ | refine goGb_d ?_ ?_ | refine goGb_split ?_ ?_ | refine goDGb_b ?_ ?_ | refine goDGb_n ?_ ?_ | refine goDGb_d ?_ ?_ | refine goDGb_split ?_ ?_) <;> intro h
         | ((first | refine goCall_norm ?_ | refine goDCall_norm ?_); simp only [AV.norm, AV.normL, W2, W2C, Go.Ab.W3, Int.reduceAdd, Int.reduceLT, Int.reduceToNat, Int.reduceBEq, Int.reduceBNe, Int.reduceLE, b1, b2, d4]; first | refine goCall_p (rFormer_ok _) (.inl rfl) ?_ | refine goDCall_p (rFormer_ok _) (.inl rfl) ?_)
         | refine go_draw (id := 7) C_ok mixed 0 Try.f41.ntmps rfl (by kernel_rfl) (by decide) ?_
         | refine go_draw (id := 9) C_ok mixed 0 Try.f41.ntmps rfl (by kernel_rfl) (by decide) ?_
         | refine go_draw (id := 14) C_ok mixed 0 Try.f41.ntmps rfl (by kernel_rfl) (by decide) ?_
         | refine go_draw (id := 18) C_ok mixed 0 Try.f41.ntmps rfl (by kernel_rfl) (by decide) ?_
         | refine goRound ?_ C_ok Try.f41.ntmps rfl (by decide)
         | skip) <;> simp only [h, ↓upd_eq, ↓envL_cons, Go.Ab.W0, Go.Ab.WD, Go.Ab.WE, if_true, if_false, reduceIte, Nat.reduceEqDiff, Nat.reduceAdd, Nat.reduceLT, Nat.reduceLeDiff, reduceCtorEq, Nat.reduceMul, implies_true, forall_eq_or_imp, forall_eq, Nat.reducePow, W1, W1C, Go.Ab.W3, Int.reduceAdd, Int.reduceLT, Int.reduceToNat, Int.reduceBEq, Int.reduceBNe, Int.reduceLE, b1, b2, d4, cutNormal_normal]
    · have b1 : (a.ty.kind != 8) = true := by rw [T.kind_ty]; simpa using ha9
      rw [FitsOK, fits_not rfl (.inl ha9)]
      simp only [K.co]
      refine pcalls_text C_ok Try.func41 rfl (by decide) (Nat.le_of_ble_eq_true rfl) (by decide) rfl fun ok H => ?_
      rw [Try.results41]
      have h := True.intro
      repeat' (first
       | (with_reducible first | refine goIf_b ?_ ?_ | refine goIf_n ?_ ?_ | refine goIf_d ?_ ?_ | refine goIf_split ?_ ?_ | refine goGb_b ?_ ?_ | refine goGb_n ?_ ?_ | refine goGb_d ?_ ?_ | refine goGb_split ?_ ?_ | refine goDGb_b ?_ ?_ | refine goDGb_n ?_ ?_ | refine goDGb_d ?_ ?_ | refine goDGb_split ?_ ?_) <;> intro h
       | ((first | refine goCall_norm ?_ | refine goDCall_norm ?_); simp only [AV.norm, AV.normL, W2, W2C, Go.Ab.W3, Int.reduceAdd, Int.reduceLT, Int.reduceToNat, Int.reduceBEq, Int.reduceBNe, Int.reduceLE, b1, d4]; first | refine goCall_p (rFormer_ok _) (.inl rfl) ?_ | refine goDCall_p (rFormer_ok _) (.inl rfl) ?_)
       | refine go_draw (id := 7) C_ok mixed 0 Try.f41.ntmps rfl (by kernel_rfl) (by decide) ?_
       | refine go_draw (id := 9) C_ok mixed 0 Try.f41.ntmps rfl (by kernel_rfl) (by decide) ?_
       | refine go_draw (id := 14) C_ok mixed 0 Try.f41.ntmps rfl (by kernel_rfl) (by decide) ?_
       | refine go_draw (id := 18) C_ok mixed 0 Try.f41.ntmps rfl (by kernel_rfl) (by decide) ?_
       | refine goRound ?_ C_ok Try.f41.ntmps rfl (by decide)
       | skip) <;> simp only [h, ↓upd_eq, ↓envL_cons, Go.Ab.W0, Go.Ab.WD, Go.Ab.WE, if_true, if_false, reduceIte, Nat.reduceEqDiff, Nat.reduceAdd, Nat.reduceLT, Nat.reduceLeDiff, reduceCtorEq, Nat.reduceMul, implies_true, forall_eq_or_imp, forall_eq, Nat.reducePow, W1, W1C, Go.Ab.W3, Int.reduceAdd, Int.reduceLT, Int.reduceToNat, Int.reduceBEq, Int.reduceBNe, Int.reduceLE, b1, d4, cutNormal_normal]

theorem fits_all {f : Nat} (step : ∀ (k : K), k.ok = true → ∀ (a b : T), a.ok = true → b.ok = true → (∀ k' a' b', k'.size < k.size → k'.ok = true → a'.ok = true → b'.ok = true → FitsOK f k' a' b') → FitsOK f k a b) :
    ∀ (n : Nat) (k : K) (a b : T), k.size ≤ n → k.ok = true → a.ok = true → b.ok = true → FitsOK f k a b := by
  intro n
  induction n with
  | zero => intro k a b h; have := k.size_pos; omega
  | succ n ih => intro k a b h hk ha hb; exact step k hk a b ha hb fun k' a' b' hlt => ih k' a' b' (by omega)
theorem cfits_ok (k : K) (a b : T) (hk : k.ok = true) (ha : a.ok = true) (hb : b.ok = true) : PCalls Try.prog 115 [embC k.co, emb a.ty, emb b.ty] (.bool (fitsK k a b)) := fits_all fits_step _ k a b (Nat.le_refl _) hk ha hb
theorem rFits_ok (k : K) (a b : T) (hk : k.ok = true) (ha : a.ok = true) (hb : b.ok = true) : PCalls Try.prog 41 [embC k.co, emb a.ty, emb b.ty] (.bool (fitsK k a b)) := fits_all rfits_step _ k a b (Nat.le_refl _) hk ha hb
theorem cFits_ok (k : K) (a b : T) (hk : k.ok = true) (ha : a.ok = true) (hb : b.ok = true) : PCalls Try.prog 44 [embC k.co, emb a.ty, emb b.ty] (.bool (fitsK k a b)) := by
  have rk : rightC k.co = true := by rw [K.right_co]; exact hk
  have ra : right a.ty = true := by rw [T.right_ty]; exact ha
  have rb : right b.ty = true := by rw [T.right_ty]; exact hb
  refine pcalls_text C_ok Try.func44 rfl (by decide) (Nat.le_of_ble_eq_true rfl) (by decide) rfl fun ok H => ?_
  rw [Try.results44]
  have h := True.intro
  repeat' (first
   | (with_reducible first | refine goIf_b ?_ ?_ | refine goIf_n ?_ ?_ | refine goIf_d ?_ ?_ | refine goIf_split ?_ ?_ | refine goGb_b ?_ ?_ | refine goGb_n ?_ ?_ | refine goGb_d ?_ ?_ | refine goGb_split ?_ ?_ | refine goDGb_b ?_ ?_ | refine goDGb_n ?_ ?_ | refine goDGb_d ?_ ?_ | refine goDGb_split ?_ ?_) <;> intro h
   | ((first | refine goCall_norm ?_ | refine goDCall_norm ?_); simp only [AV.norm, AV.normL, W2, W2C, Go.Ab.W3, Int.reduceAdd, Int.reduceLT, Int.reduceToNat, Int.reduceBEq, Int.reduceBNe, Int.reduceLE, rk, ra, rb]; first | refine goCall_p (cright_ok _) (.inl rfl) ?_ | refine goCall_p (check_ok _) (.inl rfl) ?_ | refine goCall_p (cfits_ok k a b hk ha hb) (.inl rfl) ?_ | refine goDCall_p (cright_ok _) (.inl rfl) ?_ | refine goDCall_p (check_ok _) (.inl rfl) ?_ | refine goDCall_p (cfits_ok k a b hk ha hb) (.inl rfl) ?_)
   | refine goRound ?_ C_ok Try.f44.ntmps rfl (by decide)
   | skip) <;> simp only [h, ↓upd_eq, ↓envL_cons, Go.Ab.W0, Go.Ab.WD, Go.Ab.WE, if_true, if_false, reduceIte, Nat.reduceEqDiff, Nat.reduceAdd, Nat.reduceLT, Nat.reduceLeDiff, reduceCtorEq, Nat.reduceMul, implies_true, forall_eq_or_imp, forall_eq, Nat.reducePow, W1, W1C, Go.Ab.W3, Int.reduceAdd, Int.reduceLT, Int.reduceToNat, Int.reduceBEq, Int.reduceBNe, Int.reduceLE, rk, ra, rb, cutNormal_normal]
theorem cFits_bad (c : Co) (a b : Ty) (h : (rightC c && right a && right b) = false) : PCalls Try.prog 44 [embC c, emb a, emb b] (.bool false) := by
  cases h1 : rightC c with
  | false =>
    refine pcalls_text C_ok Try.func44 rfl (by decide) (Nat.le_of_ble_eq_true rfl) (by decide) rfl fun ok H => ?_
    rw [Try.results44]
    have h := True.intro
    repeat' (first
     | (with_reducible first | refine goIf_b ?_ ?_ | refine goIf_n ?_ ?_ | refine goIf_d ?_ ?_ | refine goIf_split ?_ ?_ | refine goGb_b ?_ ?_ | refine goGb_n ?_ ?_ | refine goGb_d ?_ ?_ | refine goGb_split ?_ ?_ | refine goDGb_b ?_ ?_ | refine goDGb_n ?_ ?_ | refine goDGb_d ?_ ?_ | refine goDGb_split ?_ ?_) <;> intro h
     | ((first | refine goCall_norm ?_ | refine goDCall_norm ?_); simp only [AV.norm, AV.normL, W2, W2C, Go.Ab.W3, Int.reduceAdd, Int.reduceLT, Int.reduceToNat, Int.reduceBEq, Int.reduceBNe, Int.reduceLE, h1]; first | refine goCall_p (cright_ok _) (.inl rfl) ?_ | refine goCall_p (check_ok _) (.inl rfl) ?_ | refine goDCall_p (cright_ok _) (.inl rfl) ?_ | refine goDCall_p (check_ok _) (.inl rfl) ?_)
     | refine goRound ?_ C_ok Try.f44.ntmps rfl (by decide)
     | skip) <;> simp only [h, ↓upd_eq, ↓envL_cons, Go.Ab.W0, Go.Ab.WD, Go.Ab.WE, if_true, if_false, reduceIte, Nat.reduceEqDiff, Nat.reduceAdd, Nat.reduceLT, Nat.reduceLeDiff, reduceCtorEq, Nat.reduceMul, implies_true, forall_eq_or_imp, forall_eq, Nat.reducePow, W1, W1C, Go.Ab.W3, Int.reduceAdd, Int.reduceLT, Int.reduceToNat, Int.reduceBEq, Int.reduceBNe, Int.reduceLE, h1, cutNormal_normal]
  | true =>
    cases h2 : right a with
    | false =>
      refine pcalls_text C_ok Try.func44 rfl (by decide) (Nat.le_of_ble_eq_true rfl) (by decide) rfl fun ok H => ?_
      rw [Try.results44]
      have h := True.intro
      repeat' (first
       | (with_reducible first | refine goIf_b ?_ ?_ | refine goIf_n ?_ ?_ | refine goIf_d ?_ ?_ | refine goIf_split ?_ ?_ | refine goGb_b ?_ ?_ | refine goGb_n ?_ ?_ | refine goGb_d ?_ ?_ | refine goGb_split ?_ ?_ | refine goDGb_b ?_ ?_ | refine goDGb_n ?_ ?_ | refine goDGb_d ?_ ?_ | refine goDGb_split ?_ ?_) <;> intro h
       | ((first | refine goCall_norm ?_ | refine goDCall_norm ?_); simp only [AV.norm, AV.normL, W2, W2C, Go.Ab.W3, Int.reduceAdd, Int.reduceLT, Int.reduceToNat, Int.reduceBEq, Int.reduceBNe, Int.reduceLE, h1, h2]; first | refine goCall_p (cright_ok _) (.inl rfl) ?_ | refine goCall_p (check_ok _) (.inl rfl) ?_ | refine goDCall_p (cright_ok _) (.inl rfl) ?_ | refine goDCall_p (check_ok _) (.inl rfl) ?_)
       | refine goRound ?_ C_ok Try.f44.ntmps rfl (by decide)
       | skip) <;> simp only [h, ↓upd_eq, ↓envL_cons, Go.Ab.W0, Go.Ab.WD, Go.Ab.WE, if_true, if_false, reduceIte, Nat.reduceEqDiff, Nat.reduceAdd, Nat.reduceLT, Nat.reduceLeDiff, reduceCtorEq, Nat.reduceMul, implies_true, forall_eq_or_imp, forall_eq, Nat.reducePow, W1, W1C, Go.Ab.W3, Int.reduceAdd, Int.reduceLT, Int.reduceToNat, Int.reduceBEq, Int.reduceBNe, Int.reduceLE, h1, h2, cutNormal_normal]
    | true =>
      have h3 : right b = false := by rw [h1, h2] at h; simpa using h
      refine pcalls_text C_ok Try.func44 rfl (by decide) (Nat.le_of_ble_eq_true rfl) (by decide) rfl fun ok H => ?_
      rw [Try.results44]
      have h := True.intro
      repeat' (first
       | (with_reducible first | refine goIf_b ?_ ?_ | refine goIf_n ?_ ?_ | refine goIf_d ?_ ?_ | refine goIf_split ?_ ?_ | refine goGb_b ?_ ?_ | refine goGb_n ?_ ?_ | refine goGb_d ?_ ?_ | refine goGb_split ?_ ?_ | refine goDGb_b ?_ ?_ | refine goDGb_n ?_ ?_ | refine goDGb_d ?_ ?_ | refine goDGb_split ?_ ?_) <;> intro h
       | ((first | refine goCall_norm ?_ | refine goDCall_norm ?_); simp only [AV.norm, AV.normL, W2, W2C, Go.Ab.W3, Int.reduceAdd, Int.reduceLT, Int.reduceToNat, Int.reduceBEq, Int.reduceBNe, Int.reduceLE, h1, h2, h3]; first | refine goCall_p (cright_ok _) (.inl rfl) ?_ | refine goCall_p (check_ok _) (.inl rfl) ?_ | refine goDCall_p (cright_ok _) (.inl rfl) ?_ | refine goDCall_p (check_ok _) (.inl rfl) ?_)
       | refine goRound ?_ C_ok Try.f44.ntmps rfl (by decide)
       | skip) <;> simp only [h, ↓upd_eq, ↓envL_cons, Go.Ab.W0, Go.Ab.WD, Go.Ab.WE, if_true, if_false, reduceIte, Nat.reduceEqDiff, Nat.reduceAdd, Nat.reduceLT, Nat.reduceLeDiff, reduceCtorEq, Nat.reduceMul, implies_true, forall_eq_or_imp, forall_eq, Nat.reducePow, W1, W1C, Go.Ab.W3, Int.reduceAdd, Int.reduceLT, Int.reduceToNat, Int.reduceBEq, Int.reduceBNe, Int.reduceLE, h1, h2, h3, cutNormal_normal]

end Go.Proofs.Ytajdipeebpmifaa
end

section
/- Walks: casts as coercions. No condition. -/
set_option linter.unusedSimpArgs false
set_option linter.unusedVariables false
set_option maxHeartbeats 4000000
set_option maxRecDepth 100000
namespace Go.Proofs.Ytajdipeebpmifaa
open Go Go.Ab
attribute [local irreducible] PCalls ACalls CallK GoCall GoDCall GoIf GoGb GoDGb GoO GoD GoX GoDX GoG GoDG GoGv GoDGv Go ALoop

theorem tid_ok : PCalls Try.prog 158 [] (embC (.mk 1 0 0 false [])) := by
  refine pcalls_text C_ok Try.func158 rfl (by decide) (Nat.le_of_ble_eq_true rfl) (by decide) (embC_bel _ _) fun ok H => ?_
  rw [Try.results158]
  have h := True.intro
  repeat' (first
   | (with_reducible first | refine goIf_b ?_ ?_ | refine goIf_n ?_ ?_ | refine goIf_d ?_ ?_ | refine goIf_split ?_ ?_ | refine goGb_b ?_ ?_ | refine goGb_n ?_ ?_ | refine goGb_d ?_ ?_ | refine goGb_split ?_ ?_ | refine goDGb_b ?_ ?_ | refine goDGb_n ?_ ?_ | refine goDGb_d ?_ ?_ | refine goDGb_split ?_ ?_) <;> intro h
   | skip) <;> simp only [h, ↓upd_eq, ↓envL_cons, Go.Ab.W0, Go.Ab.WD, Go.Ab.WE, if_true, if_false, reduceIte, Nat.reduceEqDiff, Nat.reduceAdd, Nat.reduceLT, Nat.reduceLeDiff, reduceCtorEq, Nat.reduceMul, implies_true, forall_eq_or_imp, forall_eq, Nat.reducePow, W1, W1C]

theorem closed_head {b : T} (hc : b.closed = true) (hd : b ≠ .dyn) : headK b.kind = true := by
  cases b with
  | base k => exact head_base k
  | dyn => exact absurd rfl hd
  | var _ => simp [T.closed] at hc
  | _ => rfl
theorem down_ground {b : T} (hc : b.closed = true) (hd : b ≠ .dyn) (l : Int) (n : Bool) : downT l b n = .proj b.kind l n (castT l (ofH b.kind) b n) := by
  cases b with
  | base k => rw [T.kind, ofH_base]; rfl
  | dyn => exact absurd rfl hd
  | var _ => simp [T.closed] at hc
  | pair x y => show _ = K.proj 7 l n (castT l (.pair .dyn .dyn) _ n); rw [cast_pair, cast_dyn_l, cast_dyn_l]; rfl
  | list x => show _ = K.proj 8 l n (castT l (.list .dyn) _ n); rw [cast_list, cast_dyn_l]; rfl
  | fn x y => show _ = K.proj 9 l n (castT l (.fn .dyn .dyn) _ n); rw [cast_fn, cast_dyn_l, cast_dyn_r]; rfl
theorem up_ground {b : T} (hc : b.closed = true) (hd : b ≠ .dyn) (l : Int) (n : Bool) : upT l b n = .inj b.kind (castT l b (ofH b.kind) n) := by
  cases b with
  | base k => rw [T.kind, ofH_base]; rfl
  | dyn => exact absurd rfl hd
  | var _ => simp [T.closed] at hc
  | pair x y => show _ = K.inj 7 (castT l _ (.pair .dyn .dyn) n); rw [cast_pair, cast_dyn_r, cast_dyn_r]; rfl
  | list x => show _ = K.inj 8 (castT l _ (.list .dyn) n); rw [cast_list, cast_dyn_r]; rfl
  | fn x y => show _ = K.inj 9 (castT l _ (.fn .dyn .dyn) n); rw [cast_fn, cast_dyn_l, cast_dyn_r]; rfl
theorem closed_dyn {b : T} (hc : b.closed = true) : agreeT b .dyn = true := by rw [agreeT_comm]; exact hc
theorem ground_agreeT {b : T} (hc : b.closed = true) (hd : b ≠ .dyn) : agreeT (ofH b.kind) b = true ∧ (ofH b.kind).size ≤ 3 ∧ (ofH b.kind).size ≤ max b.size 1 ∧ (ofH b.kind).isDyn = false := by
  cases b with
  | base k => rw [T.kind, ofH_base]; simp [agreeT, T.size, T.isDyn]
  | dyn => exact absurd rfl hd
  | var _ => simp [T.closed] at hc
  | pair x y => simp only [T.closed, Bool.and_eq_true] at hc; have := x.size_pos; have := y.size_pos; refine ⟨by show agreeT (.pair .dyn .dyn) _ = true; simp [agreeT, hc], by show (T.pair .dyn .dyn).size ≤ 3; decide, ?_, rfl⟩; show (T.pair .dyn .dyn).size ≤ _; simp only [T.size]; omega
  | list x => simp only [T.closed] at hc; have := x.size_pos; refine ⟨by show agreeT (.list .dyn) _ = true; simp [agreeT, hc], by show (T.list .dyn).size ≤ 3; decide, ?_, rfl⟩; show (T.list .dyn).size ≤ _; simp only [T.size]; omega
  | fn x y => simp only [T.closed, Bool.and_eq_true] at hc; have := x.size_pos; have := y.size_pos; refine ⟨by show agreeT (.fn .dyn .dyn) _ = true; simp [agreeT, hc], by show (T.fn .dyn .dyn).size ≤ 3; decide, ?_, rfl⟩; show (T.fn .dyn .dyn).size ≤ _; simp only [T.size]; omega

def mu (a b : T) : Nat := 2 * max a.size b.size + if a.isDyn || b.isDyn then 1 else 0
def CastOK (f : Nat) (l : Int) (a b : T) (n : Bool) : Prop := PCalls Try.prog f [emb a.ty, emb b.ty, .int .i64 l, .bool n] (embC (castT l a b n).co)


theorem cast_step (l : Int) (a b : T) (hab : agreeT a b = true) (ha : a.ok = true) (hb : b.ok = true) (n : Bool)
    (ih : ∀ x y : T, mu x y < mu a b → agreeT x y = true → x.ok = true → y.ok = true → ∀ n, CastOK 118 l x y n) : CastOK 118 l a b n := by
  by_cases heq : a = b
  · subst heq
    have hs : same a.ty a.ty = true := same_refl _
    rw [CastOK, cast_same, K.co]
    refine pcalls_text C_ok Try.func118 rfl (by decide) (Nat.le_of_ble_eq_true rfl) (by decide) (embC_bel _ _) fun ok H => ?_
    rw [Try.results118]
    have h := True.intro
    repeat' (first
     | (with_reducible first | refine goIf_b ?_ ?_ | refine goIf_n ?_ ?_ | refine goIf_d ?_ ?_ | refine goIf_split ?_ ?_ | refine goGb_b ?_ ?_ | refine goGb_n ?_ ?_ | refine goGb_d ?_ ?_ | refine goGb_split ?_ ?_ | refine goDGb_b ?_ ?_ | refine goDGb_n ?_ ?_ | refine goDGb_d ?_ ?_ | refine goDGb_split ?_ ?_) <;> intro h
     | ((first | refine goCall_norm ?_ | refine goDCall_norm ?_); simp only [AV.norm, AV.normL, W2, W2C, Go.Ab.W3, Int.reduceAdd, Int.reduceLT, Int.reduceToNat, Int.reduceBEq, Int.reduceBNe, Int.reduceLE, hs]; first | refine goCall_p (same_ok _ _) (.inl rfl) ?_ | refine goCall_p (tid_ok) (.inl rfl) ?_ | refine goDCall_p (same_ok _ _) (.inl rfl) ?_ | refine goDCall_p (tid_ok) (.inl rfl) ?_)
     | refine go_draw (id := 5) C_ok mixed 0 Try.f118.ntmps rfl (by kernel_rfl) (by decide) ?_
     | refine go_draw (id := 8) C_ok mixed 0 Try.f118.ntmps rfl (by kernel_rfl) (by decide) ?_
     | refine go_draw (id := 15) C_ok mixed 0 Try.f118.ntmps rfl (by kernel_rfl) (by decide) ?_
     | refine go_draw (id := 17) C_ok mixed 0 Try.f118.ntmps rfl (by kernel_rfl) (by decide) ?_
     | refine go_draw (id := 12) C_ok mixed 0 Try.f118.ntmps rfl (by kernel_rfl) (by decide) ?_
     | refine goRound ?_ C_ok Try.f118.ntmps rfl (by decide)
     | skip) <;> simp only [h, ↓upd_eq, ↓envL_cons, Go.Ab.W0, Go.Ab.WD, Go.Ab.WE, if_true, if_false, reduceIte, Nat.reduceEqDiff, Nat.reduceAdd, Nat.reduceLT, Nat.reduceLeDiff, reduceCtorEq, Nat.reduceMul, implies_true, forall_eq_or_imp, forall_eq, Nat.reducePow, W1, W1C, Go.Ab.W3, Int.reduceAdd, Int.reduceLT, Int.reduceToNat, Int.reduceBEq, Int.reduceBNe, Int.reduceLE, hs, cutNormal_normal]
  have hs : same a.ty b.ty = false := by rw [T.same_ty]; simpa using heq
  by_cases had : a = .dyn
  · subst had
    have hbd : b ≠ .dyn := fun h => heq h.symm
    have hbc : b.closed = true := hab
    have hh := closed_head hbc hbd
    obtain ⟨g1, g2, g3, g4⟩ := ground_agreeT hbc hbd
    have e1 := ground_ty hb hh
    have hbd' : b.isDyn = false := by cases h : b.isDyn with | false => rfl | true => exact absurd (isDyn_iff.1 h) hbd
    have hsz : 1 ≤ b.size := b.size_pos
    have hmu : mu (ofH b.kind) b < mu .dyn b := by
      have e0 : T.dyn.size = 1 := rfl
      have e1 : T.dyn.isDyn = true := rfl
      unfold mu; rw [g4, hbd', e0, e1]; simp only [Bool.or_self, Bool.true_or, Bool.false_eq_true, if_true, if_false]; omega
    have c := ih (ofH b.kind) b hmu g1 (ofH_ty hh).2 hb n
    unfold CastOK at c
    have ek : (T.dyn.ty.kind == 5) = true := rfl
    rw [CastOK, cast_dyn_l, down_ground hbc hbd, K.co, ← T.kind_ty b]
    rw [← T.kind_ty b] at c
    rw [← T.kind_ty b] at e1
    refine pcalls_text C_ok Try.func118 rfl (by decide) (Nat.le_of_ble_eq_true rfl) (by decide) (embC_bel _ _) fun ok H => ?_
    rw [Try.results118]
    have h := True.intro
    repeat' (first
     | (with_reducible first | refine goIf_b ?_ ?_ | refine goIf_n ?_ ?_ | refine goIf_d ?_ ?_ | refine goIf_split ?_ ?_ | refine goGb_b ?_ ?_ | refine goGb_n ?_ ?_ | refine goGb_d ?_ ?_ | refine goGb_split ?_ ?_ | refine goDGb_b ?_ ?_ | refine goDGb_n ?_ ?_ | refine goDGb_d ?_ ?_ | refine goDGb_split ?_ ?_) <;> intro h
     | ((first | refine goCall_norm ?_ | refine goDCall_norm ?_); simp only [AV.norm, AV.normL, W2, W2C, Go.Ab.W3, Int.reduceAdd, Int.reduceLT, Int.reduceToNat, Int.reduceBEq, Int.reduceBNe, Int.reduceLE, hs, ek, e1]; first | refine goCall_p (same_ok _ _) (.inl rfl) ?_ | refine goCall_p (pground_ok _) (.inl rfl) ?_ | refine goCall_p (c) (.inl rfl) ?_ | refine goDCall_p (same_ok _ _) (.inl rfl) ?_ | refine goDCall_p (pground_ok _) (.inl rfl) ?_ | refine goDCall_p (c) (.inl rfl) ?_)
     | refine go_draw (id := 5) C_ok mixed 0 Try.f118.ntmps rfl (by kernel_rfl) (by decide) ?_
     | refine go_draw (id := 8) C_ok mixed 0 Try.f118.ntmps rfl (by kernel_rfl) (by decide) ?_
     | refine go_draw (id := 15) C_ok mixed 0 Try.f118.ntmps rfl (by kernel_rfl) (by decide) ?_
     | refine go_draw (id := 17) C_ok mixed 0 Try.f118.ntmps rfl (by kernel_rfl) (by decide) ?_
     | refine go_draw (id := 12) C_ok mixed 0 Try.f118.ntmps rfl (by kernel_rfl) (by decide) ?_
     | refine goRound ?_ C_ok Try.f118.ntmps rfl (by decide)
     | skip) <;> simp only [h, ↓upd_eq, ↓envL_cons, Go.Ab.W0, Go.Ab.WD, Go.Ab.WE, if_true, if_false, reduceIte, Nat.reduceEqDiff, Nat.reduceAdd, Nat.reduceLT, Nat.reduceLeDiff, reduceCtorEq, Nat.reduceMul, implies_true, forall_eq_or_imp, forall_eq, Nat.reducePow, W1, W1C, Go.Ab.W3, Int.reduceAdd, Int.reduceLT, Int.reduceToNat, Int.reduceBEq, Int.reduceBNe, Int.reduceLE, hs, ek, e1, cutNormal_normal]
  have had' : a.isDyn = false := by cases h : a.isDyn with | false => rfl | true => exact absurd (isDyn_iff.1 h) had
  have hak : (a.ty.kind == 5) = false := by rw [kind_b5]; exact had'
  by_cases hbd : b = .dyn
  · subst hbd
    have hac : a.closed = true := by rw [agreeT_comm] at hab; exact hab
    have hh := closed_head hac had
    obtain ⟨g1, g2, g3, g4⟩ := ground_agreeT hac had
    have e1 := ground_ty ha hh
    have hsz : 1 ≤ a.size := a.size_pos
    have hmu : mu a (ofH a.kind) < mu a .dyn := by
      have e0 : T.dyn.size = 1 := rfl
      have e1 : T.dyn.isDyn = true := rfl
      unfold mu; rw [g4, had', e0, e1]; simp only [Bool.or_self, Bool.or_true, Bool.false_eq_true, if_true, if_false]; omega
    have c := ih a (ofH a.kind) hmu (by rw [agreeT_comm]; exact g1) ha (ofH_ty hh).2 n
    unfold CastOK at c
    have ek : (T.dyn.ty.kind == 5) = true := rfl
    rw [CastOK, cast_dyn_r, up_ground hac had, K.co, ← T.kind_ty a]
    rw [← T.kind_ty a] at c
    rw [← T.kind_ty a] at e1
    refine pcalls_text C_ok Try.func118 rfl (by decide) (Nat.le_of_ble_eq_true rfl) (by decide) (embC_bel _ _) fun ok H => ?_
    rw [Try.results118]
    have h := True.intro
    repeat' (first
     | (with_reducible first | refine goIf_b ?_ ?_ | refine goIf_n ?_ ?_ | refine goIf_d ?_ ?_ | refine goIf_split ?_ ?_ | refine goGb_b ?_ ?_ | refine goGb_n ?_ ?_ | refine goGb_d ?_ ?_ | refine goGb_split ?_ ?_ | refine goDGb_b ?_ ?_ | refine goDGb_n ?_ ?_ | refine goDGb_d ?_ ?_ | refine goDGb_split ?_ ?_) <;> intro h
     | ((first | refine goCall_norm ?_ | refine goDCall_norm ?_); simp only [AV.norm, AV.normL, W2, W2C, Go.Ab.W3, Int.reduceAdd, Int.reduceLT, Int.reduceToNat, Int.reduceBEq, Int.reduceBNe, Int.reduceLE, hs, hak, ek, e1]; first | refine goCall_p (same_ok _ _) (.inl rfl) ?_ | refine goCall_p (pground_ok _) (.inl rfl) ?_ | refine goCall_p (c) (.inl rfl) ?_ | refine goDCall_p (same_ok _ _) (.inl rfl) ?_ | refine goDCall_p (pground_ok _) (.inl rfl) ?_ | refine goDCall_p (c) (.inl rfl) ?_)
     | refine go_draw (id := 5) C_ok mixed 0 Try.f118.ntmps rfl (by kernel_rfl) (by decide) ?_
     | refine go_draw (id := 8) C_ok mixed 0 Try.f118.ntmps rfl (by kernel_rfl) (by decide) ?_
     | refine go_draw (id := 15) C_ok mixed 0 Try.f118.ntmps rfl (by kernel_rfl) (by decide) ?_
     | refine go_draw (id := 17) C_ok mixed 0 Try.f118.ntmps rfl (by kernel_rfl) (by decide) ?_
     | refine go_draw (id := 12) C_ok mixed 0 Try.f118.ntmps rfl (by kernel_rfl) (by decide) ?_
     | refine goRound ?_ C_ok Try.f118.ntmps rfl (by decide)
     | skip) <;> simp only [h, ↓upd_eq, ↓envL_cons, Go.Ab.W0, Go.Ab.WD, Go.Ab.WE, if_true, if_false, reduceIte, Nat.reduceEqDiff, Nat.reduceAdd, Nat.reduceLT, Nat.reduceLeDiff, reduceCtorEq, Nat.reduceMul, implies_true, forall_eq_or_imp, forall_eq, Nat.reducePow, W1, W1C, Go.Ab.W3, Int.reduceAdd, Int.reduceLT, Int.reduceToNat, Int.reduceBEq, Int.reduceBNe, Int.reduceLE, hs, hak, ek, e1, cutNormal_normal]
  have hbd' : b.isDyn = false := by cases h : b.isDyn with | false => rfl | true => exact absurd (isDyn_iff.1 h) hbd
  have mulow : ∀ x y : T, x.size < max a.size b.size → y.size < max a.size b.size → mu x y < mu a b := fun x y h1 h2 => by
    unfold mu; rw [had', hbd']; simp only [Bool.or_self, Bool.false_eq_true, if_false]; split <;> omega
  cases a with
  | base k => cases b <;> simp [agreeT] at hab <;> first | exact absurd rfl hbd | exact absurd (by rw [hab]) heq
  | dyn => exact absurd rfl had
  | var k => cases b <;> simp [agreeT] at hab; exact absurd (by rw [hab]) heq
  | pair a a' =>
    cases b <;> simp only [agreeT, Bool.false_eq_true, Bool.and_eq_true] at hab
    · exact absurd rfl hbd
    rename_i b b'
    simp only [T.ok, Bool.and_eq_true] at ha hb
    have c1 := ih a b (mulow _ _ (by simp only [T.size]; omega) (by simp only [T.size]; omega)) hab.1 ha.1 hb.1 n
    have c2 := ih a' b' (mulow _ _ (by simp only [T.size]; omega) (by simp only [T.size]; omega)) hab.2 ha.2 hb.2 n
    have ha := kindn_id (castT l a b n)
    have hb := kindn_id (castT l a' b' n)
    unfold CastOK at c1 c2
    generalize hx : (castT l a b n) = x at *
    generalize hy : (castT l a' b' n) = y at *
    cases h1 : x.isId <;> cases h2 : y.isId <;> rw [h1] at ha <;> rw [h2] at hb
    all_goals simp only [CastOK, cast_pair, mkPair, hx, hy, h1, h2, Bool.and_self, Bool.and_true, Bool.and_false, Bool.false_eq_true, if_true, if_false, K.co, T.ty] at hs c1 c2 ⊢
    all_goals
      refine pcalls_text C_ok Try.func118 rfl (by decide) (Nat.le_of_ble_eq_true rfl) (by decide) (embC_bel _ _) fun ok H => ?_
      rw [Try.results118]
      have h := True.intro
      repeat' (first
       | (with_reducible first | refine goIf_b ?_ ?_ | refine goIf_n ?_ ?_ | refine goIf_d ?_ ?_ | refine goIf_split ?_ ?_ | refine goGb_b ?_ ?_ | refine goGb_n ?_ ?_ | refine goGb_d ?_ ?_ | refine goGb_split ?_ ?_ | refine goDGb_b ?_ ?_ | refine goDGb_n ?_ ?_ | refine goDGb_d ?_ ?_ | refine goDGb_split ?_ ?_) <;> intro h
       | ((first | refine goCall_norm ?_ | refine goDCall_norm ?_); simp only [AV.norm, AV.normL, W2, W2C, Go.Ab.W3, Int.reduceAdd, Int.reduceLT, Int.reduceToNat, Int.reduceBEq, Int.reduceBNe, Int.reduceLE, hs, ha, hb]; first | refine goCall_p (same_ok _ _) (.inl rfl) ?_ | refine goCall_p (c1) (.inl rfl) ?_ | refine goCall_p (c2) (.inl rfl) ?_ | refine goCall_p (tid_ok) (.inl rfl) ?_ | refine goDCall_p (same_ok _ _) (.inl rfl) ?_ | refine goDCall_p (c1) (.inl rfl) ?_ | refine goDCall_p (c2) (.inl rfl) ?_ | refine goDCall_p (tid_ok) (.inl rfl) ?_)
       | refine go_draw (id := 5) C_ok mixed 0 Try.f118.ntmps rfl (by kernel_rfl) (by decide) ?_
       | refine go_draw (id := 8) C_ok mixed 0 Try.f118.ntmps rfl (by kernel_rfl) (by decide) ?_
       | refine go_draw (id := 15) C_ok mixed 0 Try.f118.ntmps rfl (by kernel_rfl) (by decide) ?_
       | refine go_draw (id := 17) C_ok mixed 0 Try.f118.ntmps rfl (by kernel_rfl) (by decide) ?_
       | refine go_draw (id := 12) C_ok mixed 0 Try.f118.ntmps rfl (by kernel_rfl) (by decide) ?_
       | refine goRound ?_ C_ok Try.f118.ntmps rfl (by decide)
       | skip) <;> simp only [h, ↓upd_eq, ↓envL_cons, Go.Ab.W0, Go.Ab.WD, Go.Ab.WE, if_true, if_false, reduceIte, Nat.reduceEqDiff, Nat.reduceAdd, Nat.reduceLT, Nat.reduceLeDiff, reduceCtorEq, Nat.reduceMul, implies_true, forall_eq_or_imp, forall_eq, Nat.reducePow, W1, W1C, Go.Ab.W3, Int.reduceAdd, Int.reduceLT, Int.reduceToNat, Int.reduceBEq, Int.reduceBNe, Int.reduceLE, hs, ha, hb, cutNormal_normal]
  | list a =>
    cases b <;> simp only [agreeT, Bool.false_eq_true, Bool.and_eq_true] at hab
    · exact absurd rfl hbd
    rename_i b
    simp only [T.ok] at ha hb
    have c1 := ih a b (mulow _ _ (by simp only [T.size]; omega) (by simp only [T.size]; omega)) hab ha hb n
    have hx' := kindn_id (castT l a b n)
    unfold CastOK at c1
    generalize hx : castT l a b n = x at *
    cases h1 : x.isId <;> rw [h1] at hx'
    all_goals simp only [CastOK, cast_list, mkList, hx, h1, Bool.false_eq_true, if_true, if_false, K.co, T.ty] at hs c1 ⊢
    all_goals
      refine pcalls_text C_ok Try.func118 rfl (by decide) (Nat.le_of_ble_eq_true rfl) (by decide) (embC_bel _ _) fun ok H => ?_
      rw [Try.results118]
      have h := True.intro
      repeat' (first
       | (with_reducible first | refine goIf_b ?_ ?_ | refine goIf_n ?_ ?_ | refine goIf_d ?_ ?_ | refine goIf_split ?_ ?_ | refine goGb_b ?_ ?_ | refine goGb_n ?_ ?_ | refine goGb_d ?_ ?_ | refine goGb_split ?_ ?_ | refine goDGb_b ?_ ?_ | refine goDGb_n ?_ ?_ | refine goDGb_d ?_ ?_ | refine goDGb_split ?_ ?_) <;> intro h
       | ((first | refine goCall_norm ?_ | refine goDCall_norm ?_); simp only [AV.norm, AV.normL, W2, W2C, Go.Ab.W3, Int.reduceAdd, Int.reduceLT, Int.reduceToNat, Int.reduceBEq, Int.reduceBNe, Int.reduceLE, hs, hx']; first | refine goCall_p (same_ok _ _) (.inl rfl) ?_ | refine goCall_p (c1) (.inl rfl) ?_ | refine goCall_p (tid_ok) (.inl rfl) ?_ | refine goDCall_p (same_ok _ _) (.inl rfl) ?_ | refine goDCall_p (c1) (.inl rfl) ?_ | refine goDCall_p (tid_ok) (.inl rfl) ?_)
       | refine go_draw (id := 5) C_ok mixed 0 Try.f118.ntmps rfl (by kernel_rfl) (by decide) ?_
       | refine go_draw (id := 8) C_ok mixed 0 Try.f118.ntmps rfl (by kernel_rfl) (by decide) ?_
       | refine go_draw (id := 15) C_ok mixed 0 Try.f118.ntmps rfl (by kernel_rfl) (by decide) ?_
       | refine go_draw (id := 17) C_ok mixed 0 Try.f118.ntmps rfl (by kernel_rfl) (by decide) ?_
       | refine go_draw (id := 12) C_ok mixed 0 Try.f118.ntmps rfl (by kernel_rfl) (by decide) ?_
       | refine goRound ?_ C_ok Try.f118.ntmps rfl (by decide)
       | skip) <;> simp only [h, ↓upd_eq, ↓envL_cons, Go.Ab.W0, Go.Ab.WD, Go.Ab.WE, if_true, if_false, reduceIte, Nat.reduceEqDiff, Nat.reduceAdd, Nat.reduceLT, Nat.reduceLeDiff, reduceCtorEq, Nat.reduceMul, implies_true, forall_eq_or_imp, forall_eq, Nat.reducePow, W1, W1C, Go.Ab.W3, Int.reduceAdd, Int.reduceLT, Int.reduceToNat, Int.reduceBEq, Int.reduceBNe, Int.reduceLE, hs, hx', cutNormal_normal]
  | fn a a' =>
    cases b <;> simp only [agreeT, Bool.false_eq_true, Bool.and_eq_true] at hab
    · exact absurd rfl hbd
    rename_i b b'
    simp only [T.ok, Bool.and_eq_true] at ha hb
    have c1 := ih b a (mulow _ _ (by simp only [T.size]; omega) (by simp only [T.size]; omega)) (agreeT_symm _ _ hab.1) hb.1 ha.1 (!n)
    have c2 := ih a' b' (mulow _ _ (by simp only [T.size]; omega) (by simp only [T.size]; omega)) hab.2 ha.2 hb.2 n
    have ha := kindn_id (castT l b a (!n))
    have hb := kindn_id (castT l a' b' n)
    unfold CastOK at c1 c2
    generalize hx : (castT l b a (!n)) = x at *
    generalize hy : (castT l a' b' n) = y at *
    cases h1 : x.isId <;> cases h2 : y.isId <;> rw [h1] at ha <;> rw [h2] at hb
    all_goals simp only [CastOK, cast_fn, mkFn, hx, hy, h1, h2, Bool.and_self, Bool.and_true, Bool.and_false, Bool.false_eq_true, if_true, if_false, K.co, T.ty] at hs c1 c2 ⊢
    all_goals
      refine pcalls_text C_ok Try.func118 rfl (by decide) (Nat.le_of_ble_eq_true rfl) (by decide) (embC_bel _ _) fun ok H => ?_
      rw [Try.results118]
      have h := True.intro
      repeat' (first
       | (with_reducible first | refine goIf_b ?_ ?_ | refine goIf_n ?_ ?_ | refine goIf_d ?_ ?_ | refine goIf_split ?_ ?_ | refine goGb_b ?_ ?_ | refine goGb_n ?_ ?_ | refine goGb_d ?_ ?_ | refine goGb_split ?_ ?_ | refine goDGb_b ?_ ?_ | refine goDGb_n ?_ ?_ | refine goDGb_d ?_ ?_ | refine goDGb_split ?_ ?_) <;> intro h
       | ((first | refine goCall_norm ?_ | refine goDCall_norm ?_); simp only [AV.norm, AV.normL, W2, W2C, Go.Ab.W3, Int.reduceAdd, Int.reduceLT, Int.reduceToNat, Int.reduceBEq, Int.reduceBNe, Int.reduceLE, hs, ha, hb]; first | refine goCall_p (same_ok _ _) (.inl rfl) ?_ | refine goCall_p (c1) (.inl rfl) ?_ | refine goCall_p (c2) (.inl rfl) ?_ | refine goCall_p (tid_ok) (.inl rfl) ?_ | refine goDCall_p (same_ok _ _) (.inl rfl) ?_ | refine goDCall_p (c1) (.inl rfl) ?_ | refine goDCall_p (c2) (.inl rfl) ?_ | refine goDCall_p (tid_ok) (.inl rfl) ?_)
       | refine go_draw (id := 5) C_ok mixed 0 Try.f118.ntmps rfl (by kernel_rfl) (by decide) ?_
       | refine go_draw (id := 8) C_ok mixed 0 Try.f118.ntmps rfl (by kernel_rfl) (by decide) ?_
       | refine go_draw (id := 15) C_ok mixed 0 Try.f118.ntmps rfl (by kernel_rfl) (by decide) ?_
       | refine go_draw (id := 17) C_ok mixed 0 Try.f118.ntmps rfl (by kernel_rfl) (by decide) ?_
       | refine go_draw (id := 12) C_ok mixed 0 Try.f118.ntmps rfl (by kernel_rfl) (by decide) ?_
       | refine goRound ?_ C_ok Try.f118.ntmps rfl (by decide)
       | skip) <;> simp only [h, ↓upd_eq, ↓envL_cons, Go.Ab.W0, Go.Ab.WD, Go.Ab.WE, if_true, if_false, reduceIte, Nat.reduceEqDiff, Nat.reduceAdd, Nat.reduceLT, Nat.reduceLeDiff, reduceCtorEq, Nat.reduceMul, implies_true, forall_eq_or_imp, forall_eq, Nat.reducePow, W1, W1C, Go.Ab.W3, Int.reduceAdd, Int.reduceLT, Int.reduceToNat, Int.reduceBEq, Int.reduceBNe, Int.reduceLE, hs, ha, hb, cutNormal_normal]

theorem rcast_step (l : Int) (a b : T) (hab : agreeT a b = true) (ha : a.ok = true) (hb : b.ok = true) (n : Bool)
    (ih : ∀ x y : T, mu x y < mu a b → agreeT x y = true → x.ok = true → y.ok = true → ∀ n, CastOK 51 l x y n) : CastOK 51 l a b n := by
  by_cases heq : a = b
  · subst heq
    have hs : same a.ty a.ty = true := same_refl _
    rw [CastOK, cast_same, K.co]
    refine pcalls_text C_ok Try.func51 rfl (by decide) (Nat.le_of_ble_eq_true rfl) (by decide) (embC_bel _ _) fun ok H => ?_
    rw [Try.results51]
    have h := True.intro
    repeat' (first
     | (with_reducible first | refine goIf_b ?_ ?_ | refine goIf_n ?_ ?_ | refine goIf_d ?_ ?_ | refine goIf_split ?_ ?_ | refine goGb_b ?_ ?_ | refine goGb_n ?_ ?_ | refine goGb_d ?_ ?_ | refine goGb_split ?_ ?_ | refine goDGb_b ?_ ?_ | refine goDGb_n ?_ ?_ | refine goDGb_d ?_ ?_ | refine goDGb_split ?_ ?_) <;> intro h
     | ((first | refine goCall_norm ?_ | refine goDCall_norm ?_); simp only [AV.norm, AV.normL, W2, W2C, Go.Ab.W3, Int.reduceAdd, Int.reduceLT, Int.reduceToNat, Int.reduceBEq, Int.reduceBNe, Int.reduceLE, hs]; first | refine goCall_p (rsame_ok _ _) (.inl rfl) ?_ | refine goCall_p (rId_ok) (.inl rfl) ?_ | refine goDCall_p (rsame_ok _ _) (.inl rfl) ?_ | refine goDCall_p (rId_ok) (.inl rfl) ?_)
     | refine go_draw (id := 4) C_ok mixed 1 Try.f51.ntmps rfl (by kernel_rfl) (by decide) ?_
     | refine go_draw (id := 7) C_ok mixed 1 Try.f51.ntmps rfl (by kernel_rfl) (by decide) ?_
     | refine go_draw (id := 10) C_ok mixed 0 Try.f51.ntmps rfl (by kernel_rfl) (by decide) ?_
     | refine go_draw (id := 12) C_ok mixed 0 Try.f51.ntmps rfl (by kernel_rfl) (by decide) ?_
     | refine go_draw (id := 13) C_ok mixed 0 Try.f51.ntmps rfl (by kernel_rfl) (by decide) ?_
     | refine goRound ?_ C_ok Try.f51.ntmps rfl (by decide)
     | skip) <;> simp only [h, ↓upd_eq, ↓envL_cons, Go.Ab.W0, Go.Ab.WD, Go.Ab.WE, if_true, if_false, reduceIte, Nat.reduceEqDiff, Nat.reduceAdd, Nat.reduceLT, Nat.reduceLeDiff, reduceCtorEq, Nat.reduceMul, implies_true, forall_eq_or_imp, forall_eq, Nat.reducePow, W1, W1C, Go.Ab.W3, Int.reduceAdd, Int.reduceLT, Int.reduceToNat, Int.reduceBEq, Int.reduceBNe, Int.reduceLE, hs, cutNormal_normal]
  have hs : same a.ty b.ty = false := by rw [T.same_ty]; simpa using heq
  by_cases had : a = .dyn
  · subst had
    have hbd : b ≠ .dyn := fun h => heq h.symm
    have hbc : b.closed = true := hab
    have hh := closed_head hbc hbd
    obtain ⟨g1, g2, g3, g4⟩ := ground_agreeT hbc hbd
    have e1 := (ofH_ty hh).1
    have hbd' : b.isDyn = false := by cases h : b.isDyn with | false => rfl | true => exact absurd (isDyn_iff.1 h) hbd
    have hsz : 1 ≤ b.size := b.size_pos
    have hmu : mu (ofH b.kind) b < mu .dyn b := by
      have e0 : T.dyn.size = 1 := rfl
      have e1 : T.dyn.isDyn = true := rfl
      unfold mu; rw [g4, hbd', e0, e1]; simp only [Bool.or_self, Bool.true_or, Bool.false_eq_true, if_true, if_false]; omega
    have c := ih (ofH b.kind) b hmu g1 (ofH_ty hh).2 hb n
    unfold CastOK at c
    have ek : (T.dyn.ty.kind == 5) = true := rfl
    rw [CastOK, cast_dyn_l, down_ground hbc hbd, K.co, ← T.kind_ty b]
    rw [← T.kind_ty b] at c
    rw [← T.kind_ty b] at e1
    refine pcalls_text C_ok Try.func51 rfl (by decide) (Nat.le_of_ble_eq_true rfl) (by decide) (embC_bel _ _) fun ok H => ?_
    rw [Try.results51]
    have h := True.intro
    repeat' (first
     | (with_reducible first | refine goIf_b ?_ ?_ | refine goIf_n ?_ ?_ | refine goIf_d ?_ ?_ | refine goIf_split ?_ ?_ | refine goGb_b ?_ ?_ | refine goGb_n ?_ ?_ | refine goGb_d ?_ ?_ | refine goGb_split ?_ ?_ | refine goDGb_b ?_ ?_ | refine goDGb_n ?_ ?_ | refine goDGb_d ?_ ?_ | refine goDGb_split ?_ ?_) <;> intro h
     | ((first | refine goCall_norm ?_ | refine goDCall_norm ?_); simp only [AV.norm, AV.normL, W2, W2C, Go.Ab.W3, Int.reduceAdd, Int.reduceLT, Int.reduceToNat, Int.reduceBEq, Int.reduceBNe, Int.reduceLE, hs, ek, e1]; first | refine goCall_p (rsame_ok _ _) (.inl rfl) ?_ | refine goCall_p (of_ok _) (.inl rfl) ?_ | refine goCall_p (c) (.inl rfl) ?_ | refine goDCall_p (rsame_ok _ _) (.inl rfl) ?_ | refine goDCall_p (of_ok _) (.inl rfl) ?_ | refine goDCall_p (c) (.inl rfl) ?_)
     | refine go_draw (id := 4) C_ok mixed 1 Try.f51.ntmps rfl (by kernel_rfl) (by decide) ?_
     | refine go_draw (id := 7) C_ok mixed 1 Try.f51.ntmps rfl (by kernel_rfl) (by decide) ?_
     | refine go_draw (id := 10) C_ok mixed 0 Try.f51.ntmps rfl (by kernel_rfl) (by decide) ?_
     | refine go_draw (id := 12) C_ok mixed 0 Try.f51.ntmps rfl (by kernel_rfl) (by decide) ?_
     | refine go_draw (id := 13) C_ok mixed 0 Try.f51.ntmps rfl (by kernel_rfl) (by decide) ?_
     | refine goRound ?_ C_ok Try.f51.ntmps rfl (by decide)
     | skip) <;> simp only [h, ↓upd_eq, ↓envL_cons, Go.Ab.W0, Go.Ab.WD, Go.Ab.WE, if_true, if_false, reduceIte, Nat.reduceEqDiff, Nat.reduceAdd, Nat.reduceLT, Nat.reduceLeDiff, reduceCtorEq, Nat.reduceMul, implies_true, forall_eq_or_imp, forall_eq, Nat.reducePow, W1, W1C, Go.Ab.W3, Int.reduceAdd, Int.reduceLT, Int.reduceToNat, Int.reduceBEq, Int.reduceBNe, Int.reduceLE, hs, ek, e1, cutNormal_normal]
  have had' : a.isDyn = false := by cases h : a.isDyn with | false => rfl | true => exact absurd (isDyn_iff.1 h) had
  have hak : (a.ty.kind == 5) = false := by rw [kind_b5]; exact had'
  by_cases hbd : b = .dyn
  · subst hbd
    have hac : a.closed = true := by rw [agreeT_comm] at hab; exact hab
    have hh := closed_head hac had
    obtain ⟨g1, g2, g3, g4⟩ := ground_agreeT hac had
    have e1 := (ofH_ty hh).1
    have hsz : 1 ≤ a.size := a.size_pos
    have hmu : mu a (ofH a.kind) < mu a .dyn := by
      have e0 : T.dyn.size = 1 := rfl
      have e1 : T.dyn.isDyn = true := rfl
      unfold mu; rw [g4, had', e0, e1]; simp only [Bool.or_self, Bool.or_true, Bool.false_eq_true, if_true, if_false]; omega
    have c := ih a (ofH a.kind) hmu (by rw [agreeT_comm]; exact g1) ha (ofH_ty hh).2 n
    unfold CastOK at c
    have ek : (T.dyn.ty.kind == 5) = true := rfl
    rw [CastOK, cast_dyn_r, up_ground hac had, K.co, ← T.kind_ty a]
    rw [← T.kind_ty a] at c
    rw [← T.kind_ty a] at e1
    refine pcalls_text C_ok Try.func51 rfl (by decide) (Nat.le_of_ble_eq_true rfl) (by decide) (embC_bel _ _) fun ok H => ?_
    rw [Try.results51]
    have h := True.intro
    repeat' (first
     | (with_reducible first | refine goIf_b ?_ ?_ | refine goIf_n ?_ ?_ | refine goIf_d ?_ ?_ | refine goIf_split ?_ ?_ | refine goGb_b ?_ ?_ | refine goGb_n ?_ ?_ | refine goGb_d ?_ ?_ | refine goGb_split ?_ ?_ | refine goDGb_b ?_ ?_ | refine goDGb_n ?_ ?_ | refine goDGb_d ?_ ?_ | refine goDGb_split ?_ ?_) <;> intro h
     | ((first | refine goCall_norm ?_ | refine goDCall_norm ?_); simp only [AV.norm, AV.normL, W2, W2C, Go.Ab.W3, Int.reduceAdd, Int.reduceLT, Int.reduceToNat, Int.reduceBEq, Int.reduceBNe, Int.reduceLE, hs, hak, ek, e1]; first | refine goCall_p (rsame_ok _ _) (.inl rfl) ?_ | refine goCall_p (of_ok _) (.inl rfl) ?_ | refine goCall_p (c) (.inl rfl) ?_ | refine goDCall_p (rsame_ok _ _) (.inl rfl) ?_ | refine goDCall_p (of_ok _) (.inl rfl) ?_ | refine goDCall_p (c) (.inl rfl) ?_)
     | refine go_draw (id := 4) C_ok mixed 1 Try.f51.ntmps rfl (by kernel_rfl) (by decide) ?_
     | refine go_draw (id := 7) C_ok mixed 1 Try.f51.ntmps rfl (by kernel_rfl) (by decide) ?_
     | refine go_draw (id := 10) C_ok mixed 0 Try.f51.ntmps rfl (by kernel_rfl) (by decide) ?_
     | refine go_draw (id := 12) C_ok mixed 0 Try.f51.ntmps rfl (by kernel_rfl) (by decide) ?_
     | refine go_draw (id := 13) C_ok mixed 0 Try.f51.ntmps rfl (by kernel_rfl) (by decide) ?_
     | refine goRound ?_ C_ok Try.f51.ntmps rfl (by decide)
     | skip) <;> simp only [h, ↓upd_eq, ↓envL_cons, Go.Ab.W0, Go.Ab.WD, Go.Ab.WE, if_true, if_false, reduceIte, Nat.reduceEqDiff, Nat.reduceAdd, Nat.reduceLT, Nat.reduceLeDiff, reduceCtorEq, Nat.reduceMul, implies_true, forall_eq_or_imp, forall_eq, Nat.reducePow, W1, W1C, Go.Ab.W3, Int.reduceAdd, Int.reduceLT, Int.reduceToNat, Int.reduceBEq, Int.reduceBNe, Int.reduceLE, hs, hak, ek, e1, cutNormal_normal]
  have hbd' : b.isDyn = false := by cases h : b.isDyn with | false => rfl | true => exact absurd (isDyn_iff.1 h) hbd
  have mulow : ∀ x y : T, x.size < max a.size b.size → y.size < max a.size b.size → mu x y < mu a b := fun x y h1 h2 => by
    unfold mu; rw [had', hbd']; simp only [Bool.or_self, Bool.false_eq_true, if_false]; split <;> omega
  cases a with
  | base k => cases b <;> simp [agreeT] at hab <;> first | exact absurd rfl hbd | exact absurd (by rw [hab]) heq
  | dyn => exact absurd rfl had
  | var k => cases b <;> simp [agreeT] at hab; exact absurd (by rw [hab]) heq
  | pair a a' =>
    cases b <;> simp only [agreeT, Bool.false_eq_true, Bool.and_eq_true] at hab
    · exact absurd rfl hbd
    rename_i b b'
    simp only [T.ok, Bool.and_eq_true] at ha hb
    have c1 := ih a b (mulow _ _ (by simp only [T.size]; omega) (by simp only [T.size]; omega)) hab.1 ha.1 hb.1 n
    have c2 := ih a' b' (mulow _ _ (by simp only [T.size]; omega) (by simp only [T.size]; omega)) hab.2 ha.2 hb.2 n
    have hf := rformed_two 3 (castT l a b n) (castT l a' b' n)
    rw [mkPair_co, ← cast_pair] at hf
    simp only [CastOK, T.ty] at hs c1 c2 ⊢
    refine pcalls_text C_ok Try.func51 rfl (by decide) (Nat.le_of_ble_eq_true rfl) (by decide) (embC_bel _ _) fun ok H => ?_
    rw [Try.results51]
    have h := True.intro
    repeat' (first
     | (with_reducible first | refine goIf_b ?_ ?_ | refine goIf_n ?_ ?_ | refine goIf_d ?_ ?_ | refine goIf_split ?_ ?_ | refine goGb_b ?_ ?_ | refine goGb_n ?_ ?_ | refine goGb_d ?_ ?_ | refine goGb_split ?_ ?_ | refine goDGb_b ?_ ?_ | refine goDGb_n ?_ ?_ | refine goDGb_d ?_ ?_ | refine goDGb_split ?_ ?_) <;> intro h
     | ((first | refine goCall_norm ?_ | refine goDCall_norm ?_); simp only [AV.norm, AV.normL, W2, W2C, Go.Ab.W3, Int.reduceAdd, Int.reduceLT, Int.reduceToNat, Int.reduceBEq, Int.reduceBNe, Int.reduceLE, hs]; first | refine goCall_p (rsame_ok _ _) (.inl rfl) ?_ | refine goCall_p (c1) (.inl rfl) ?_ | refine goCall_p (c2) (.inl rfl) ?_ | refine goCall_p (hf) (.inl rfl) ?_ | refine goDCall_p (rsame_ok _ _) (.inl rfl) ?_ | refine goDCall_p (c1) (.inl rfl) ?_ | refine goDCall_p (c2) (.inl rfl) ?_ | refine goDCall_p (hf) (.inl rfl) ?_)
     | refine go_draw (id := 4) C_ok mixed 1 Try.f51.ntmps rfl (by kernel_rfl) (by decide) ?_
     | refine go_draw (id := 7) C_ok mixed 1 Try.f51.ntmps rfl (by kernel_rfl) (by decide) ?_
     | refine go_draw (id := 10) C_ok mixed 0 Try.f51.ntmps rfl (by kernel_rfl) (by decide) ?_
     | refine go_draw (id := 12) C_ok mixed 0 Try.f51.ntmps rfl (by kernel_rfl) (by decide) ?_
     | refine go_draw (id := 13) C_ok mixed 0 Try.f51.ntmps rfl (by kernel_rfl) (by decide) ?_
     | refine goRound ?_ C_ok Try.f51.ntmps rfl (by decide)
     | skip) <;> simp only [h, ↓upd_eq, ↓envL_cons, Go.Ab.W0, Go.Ab.WD, Go.Ab.WE, if_true, if_false, reduceIte, Nat.reduceEqDiff, Nat.reduceAdd, Nat.reduceLT, Nat.reduceLeDiff, reduceCtorEq, Nat.reduceMul, implies_true, forall_eq_or_imp, forall_eq, Nat.reducePow, W1, W1C, Go.Ab.W3, Int.reduceAdd, Int.reduceLT, Int.reduceToNat, Int.reduceBEq, Int.reduceBNe, Int.reduceLE, hs, cutNormal_normal]
  | list a =>
    cases b <;> simp only [agreeT, Bool.false_eq_true, Bool.and_eq_true] at hab
    · exact absurd rfl hbd
    rename_i b
    simp only [T.ok] at ha hb
    have c1 := ih a b (mulow _ _ (by simp only [T.size]; omega) (by simp only [T.size]; omega)) hab ha hb n
    have hf := rformed_one 4 (castT l a b n)
    rw [mkList_co, ← cast_list] at hf
    simp only [CastOK, T.ty] at hs c1 ⊢
    refine pcalls_text C_ok Try.func51 rfl (by decide) (Nat.le_of_ble_eq_true rfl) (by decide) (embC_bel _ _) fun ok H => ?_
    rw [Try.results51]
    have h := True.intro
    repeat' (first
     | (with_reducible first | refine goIf_b ?_ ?_ | refine goIf_n ?_ ?_ | refine goIf_d ?_ ?_ | refine goIf_split ?_ ?_ | refine goGb_b ?_ ?_ | refine goGb_n ?_ ?_ | refine goGb_d ?_ ?_ | refine goGb_split ?_ ?_ | refine goDGb_b ?_ ?_ | refine goDGb_n ?_ ?_ | refine goDGb_d ?_ ?_ | refine goDGb_split ?_ ?_) <;> intro h
     | ((first | refine goCall_norm ?_ | refine goDCall_norm ?_); simp only [AV.norm, AV.normL, W2, W2C, Go.Ab.W3, Int.reduceAdd, Int.reduceLT, Int.reduceToNat, Int.reduceBEq, Int.reduceBNe, Int.reduceLE, hs]; first | refine goCall_p (rsame_ok _ _) (.inl rfl) ?_ | refine goCall_p (c1) (.inl rfl) ?_ | refine goCall_p (hf) (.inl rfl) ?_ | refine goDCall_p (rsame_ok _ _) (.inl rfl) ?_ | refine goDCall_p (c1) (.inl rfl) ?_ | refine goDCall_p (hf) (.inl rfl) ?_)
     | refine go_draw (id := 4) C_ok mixed 1 Try.f51.ntmps rfl (by kernel_rfl) (by decide) ?_
     | refine go_draw (id := 7) C_ok mixed 1 Try.f51.ntmps rfl (by kernel_rfl) (by decide) ?_
     | refine go_draw (id := 10) C_ok mixed 0 Try.f51.ntmps rfl (by kernel_rfl) (by decide) ?_
     | refine go_draw (id := 12) C_ok mixed 0 Try.f51.ntmps rfl (by kernel_rfl) (by decide) ?_
     | refine go_draw (id := 13) C_ok mixed 0 Try.f51.ntmps rfl (by kernel_rfl) (by decide) ?_
     | refine goRound ?_ C_ok Try.f51.ntmps rfl (by decide)
     | skip) <;> simp only [h, ↓upd_eq, ↓envL_cons, Go.Ab.W0, Go.Ab.WD, Go.Ab.WE, if_true, if_false, reduceIte, Nat.reduceEqDiff, Nat.reduceAdd, Nat.reduceLT, Nat.reduceLeDiff, reduceCtorEq, Nat.reduceMul, implies_true, forall_eq_or_imp, forall_eq, Nat.reducePow, W1, W1C, Go.Ab.W3, Int.reduceAdd, Int.reduceLT, Int.reduceToNat, Int.reduceBEq, Int.reduceBNe, Int.reduceLE, hs, cutNormal_normal]
  | fn a a' =>
    cases b <;> simp only [agreeT, Bool.false_eq_true, Bool.and_eq_true] at hab
    · exact absurd rfl hbd
    rename_i b b'
    simp only [T.ok, Bool.and_eq_true] at ha hb
    have c1 := ih b a (mulow _ _ (by simp only [T.size]; omega) (by simp only [T.size]; omega)) (agreeT_symm _ _ hab.1) hb.1 ha.1 (!n)
    have c2 := ih a' b' (mulow _ _ (by simp only [T.size]; omega) (by simp only [T.size]; omega)) hab.2 ha.2 hb.2 n
    have hf := rformed_two 2 (castT l b a (!n)) (castT l a' b' n)
    rw [mkFn_co, ← cast_fn] at hf
    simp only [CastOK, T.ty] at hs c1 c2 ⊢
    refine pcalls_text C_ok Try.func51 rfl (by decide) (Nat.le_of_ble_eq_true rfl) (by decide) (embC_bel _ _) fun ok H => ?_
    rw [Try.results51]
    have h := True.intro
    repeat' (first
     | (with_reducible first | refine goIf_b ?_ ?_ | refine goIf_n ?_ ?_ | refine goIf_d ?_ ?_ | refine goIf_split ?_ ?_ | refine goGb_b ?_ ?_ | refine goGb_n ?_ ?_ | refine goGb_d ?_ ?_ | refine goGb_split ?_ ?_ | refine goDGb_b ?_ ?_ | refine goDGb_n ?_ ?_ | refine goDGb_d ?_ ?_ | refine goDGb_split ?_ ?_) <;> intro h
     | ((first | refine goCall_norm ?_ | refine goDCall_norm ?_); simp only [AV.norm, AV.normL, W2, W2C, Go.Ab.W3, Int.reduceAdd, Int.reduceLT, Int.reduceToNat, Int.reduceBEq, Int.reduceBNe, Int.reduceLE, hs]; first | refine goCall_p (rsame_ok _ _) (.inl rfl) ?_ | refine goCall_p (c1) (.inl rfl) ?_ | refine goCall_p (c2) (.inl rfl) ?_ | refine goCall_p (hf) (.inl rfl) ?_ | refine goDCall_p (rsame_ok _ _) (.inl rfl) ?_ | refine goDCall_p (c1) (.inl rfl) ?_ | refine goDCall_p (c2) (.inl rfl) ?_ | refine goDCall_p (hf) (.inl rfl) ?_)
     | refine go_draw (id := 4) C_ok mixed 1 Try.f51.ntmps rfl (by kernel_rfl) (by decide) ?_
     | refine go_draw (id := 7) C_ok mixed 1 Try.f51.ntmps rfl (by kernel_rfl) (by decide) ?_
     | refine go_draw (id := 10) C_ok mixed 0 Try.f51.ntmps rfl (by kernel_rfl) (by decide) ?_
     | refine go_draw (id := 12) C_ok mixed 0 Try.f51.ntmps rfl (by kernel_rfl) (by decide) ?_
     | refine go_draw (id := 13) C_ok mixed 0 Try.f51.ntmps rfl (by kernel_rfl) (by decide) ?_
     | refine goRound ?_ C_ok Try.f51.ntmps rfl (by decide)
     | skip) <;> simp only [h, ↓upd_eq, ↓envL_cons, Go.Ab.W0, Go.Ab.WD, Go.Ab.WE, if_true, if_false, reduceIte, Nat.reduceEqDiff, Nat.reduceAdd, Nat.reduceLT, Nat.reduceLeDiff, reduceCtorEq, Nat.reduceMul, implies_true, forall_eq_or_imp, forall_eq, Nat.reducePow, W1, W1C, Go.Ab.W3, Int.reduceAdd, Int.reduceLT, Int.reduceToNat, Int.reduceBEq, Int.reduceBNe, Int.reduceLE, hs, cutNormal_normal]

theorem cast_all {f : Nat} {l : Int} (step : ∀ a b : T, agreeT a b = true → a.ok = true → b.ok = true → ∀ n, (∀ x y : T, mu x y < mu a b → agreeT x y = true → x.ok = true → y.ok = true → ∀ n, CastOK f l x y n) → CastOK f l a b n) :
    ∀ (m : Nat) (a b : T), mu a b ≤ m → agreeT a b = true → a.ok = true → b.ok = true → ∀ n, CastOK f l a b n := by
  intro m
  induction m with
  | zero => intro a b h; have := a.size_pos; unfold mu at h; omega
  | succ m ih => intro a b h hab ha hb n; exact step a b hab ha hb n fun x y hlt => ih x y (by omega)
theorem cast_ok (l : Int) (a b : T) (hab : agreeT a b = true) (ha : a.ok = true) (hb : b.ok = true) (n : Bool) : PCalls Try.prog 118 [emb a.ty, emb b.ty, .int .i64 l, .bool n] (embC (castT l a b n).co) :=
  cast_all (fun a b h1 h2 h3 n ih => cast_step l a b h1 h2 h3 n ih) _ a b (Nat.le_refl _) hab ha hb n
theorem rcast_ok (l : Int) (a b : T) (hab : agreeT a b = true) (ha : a.ok = true) (hb : b.ok = true) (n : Bool) : PCalls Try.prog 51 [emb a.ty, emb b.ty, .int .i64 l, .bool n] (embC (castT l a b n).co) :=
  cast_all (fun a b h1 h2 h3 n ih => rcast_step l a b h1 h2 h3 n ih) _ a b (Nat.le_refl _) hab ha hb n

/-- The whole. -/
theorem tCast_ok (l : Int) (hl : labelOK l = true) (a b : T) (ha : a.ok = true) (hb : b.ok = true) (n : Bool) :
    PCalls Try.prog 48 [emb a.ty, emb b.ty, .int .i64 l, .bool n] (if agreeT a b = true then .tup [embC (castT l a b n).co, .int .i64 0] else .tup [embC coNone, .int .i64 4]) := by
  have ra : right a.ty = true := by rw [T.right_ty]; exact ha
  have rb : right b.ty = true := by rw [T.right_ty]; exact hb
  simp only [labelOK, Bool.and_eq_true, decide_eq_true_eq] at hl
  have l1 : ¬ l < 0 := by omega
  have l2 : ¬ l > 1048576 := by omega
  have hg := T.agree_ty a b
  by_cases hab : agreeT a b = true
  · rw [if_pos hab]
    rw [hab] at hg
    refine pcalls_text C_ok Try.func48 rfl (by decide) (Nat.le_of_ble_eq_true rfl) (by decide) (by simp only [AV.bel, AV.belL, embC_bel, Bool.and_self]) fun ok H => ?_
    rw [Try.results48]
    have h := True.intro
    repeat' (first
     | (with_reducible first | refine goIf_b ?_ ?_ | refine goIf_n ?_ ?_ | refine goIf_d ?_ ?_ | refine goIf_split ?_ ?_ | refine goGb_b ?_ ?_ | refine goGb_n ?_ ?_ | refine goGb_d ?_ ?_ | refine goGb_split ?_ ?_ | refine goDGb_b ?_ ?_ | refine goDGb_n ?_ ?_ | refine goDGb_d ?_ ?_ | refine goDGb_split ?_ ?_) <;> intro h
     | ((first | refine goCall_norm ?_ | refine goDCall_norm ?_); simp only [AV.norm, AV.normL, W2, W2C, Go.Ab.W3, Int.reduceAdd, Int.reduceLT, Int.reduceToNat, Int.reduceBEq, Int.reduceBNe, Int.reduceLE, ra, rb, l1, l2, hg]; first | refine goCall_p (check_ok _) (.inl rfl) ?_ | refine goCall_p (pagree_ok _ _) (.inl rfl) ?_ | refine goCall_p (cast_ok l a b hab ha hb n) (.inl rfl) ?_ | refine goDCall_p (check_ok _) (.inl rfl) ?_ | refine goDCall_p (pagree_ok _ _) (.inl rfl) ?_ | refine goDCall_p (cast_ok l a b hab ha hb n) (.inl rfl) ?_)
     | refine goRound ?_ C_ok Try.f48.ntmps rfl (by decide)
     | skip) <;> simp only [h, ↓upd_eq, ↓envL_cons, Go.Ab.W0, Go.Ab.WD, Go.Ab.WE, if_true, if_false, reduceIte, Nat.reduceEqDiff, Nat.reduceAdd, Nat.reduceLT, Nat.reduceLeDiff, reduceCtorEq, Nat.reduceMul, implies_true, forall_eq_or_imp, forall_eq, Nat.reducePow, W1, W1C, Go.Ab.W3, Int.reduceAdd, Int.reduceLT, Int.reduceToNat, Int.reduceBEq, Int.reduceBNe, Int.reduceLE, ra, rb, l1, l2, hg, cutNormal_normal]
  · have hab' : agreeT a b = false := by simpa using hab
    rw [if_neg hab]
    rw [hab'] at hg
    show PCalls _ _ _ (.tup [embC (.mk 0 0 0 false []), .int .i64 4])
    refine pcalls_text C_ok Try.func48 rfl (by decide) (Nat.le_of_ble_eq_true rfl) (by decide) (by simp only [AV.bel, AV.belL, embC_bel, Bool.and_self]) fun ok H => ?_
    rw [Try.results48]
    have h := True.intro
    repeat' (first
     | (with_reducible first | refine goIf_b ?_ ?_ | refine goIf_n ?_ ?_ | refine goIf_d ?_ ?_ | refine goIf_split ?_ ?_ | refine goGb_b ?_ ?_ | refine goGb_n ?_ ?_ | refine goGb_d ?_ ?_ | refine goGb_split ?_ ?_ | refine goDGb_b ?_ ?_ | refine goDGb_n ?_ ?_ | refine goDGb_d ?_ ?_ | refine goDGb_split ?_ ?_) <;> intro h
     | ((first | refine goCall_norm ?_ | refine goDCall_norm ?_); simp only [AV.norm, AV.normL, W2, W2C, Go.Ab.W3, Int.reduceAdd, Int.reduceLT, Int.reduceToNat, Int.reduceBEq, Int.reduceBNe, Int.reduceLE, ra, rb, l1, l2, hg]; first | refine goCall_p (check_ok _) (.inl rfl) ?_ | refine goCall_p (pagree_ok _ _) (.inl rfl) ?_ | refine goDCall_p (check_ok _) (.inl rfl) ?_ | refine goDCall_p (pagree_ok _ _) (.inl rfl) ?_)
     | refine goRound ?_ C_ok Try.f48.ntmps rfl (by decide)
     | skip) <;> simp only [h, ↓upd_eq, ↓envL_cons, Go.Ab.W0, Go.Ab.WD, Go.Ab.WE, if_true, if_false, reduceIte, Nat.reduceEqDiff, Nat.reduceAdd, Nat.reduceLT, Nat.reduceLeDiff, reduceCtorEq, Nat.reduceMul, implies_true, forall_eq_or_imp, forall_eq, Nat.reducePow, W1, W1C, Go.Ab.W3, Int.reduceAdd, Int.reduceLT, Int.reduceToNat, Int.reduceBEq, Int.reduceBNe, Int.reduceLE, ra, rb, l1, l2, hg, cutNormal_normal]
theorem tCast_bad (l : Int) (a b : Ty) (h : (right a && right b && labelOK l) = false) (n : Bool) : PCalls Try.prog 48 [emb a, emb b, .int .i64 l, .bool n] (.tup [embC coNone, .int .i64 1]) := by
  show PCalls _ _ _ (.tup [embC (.mk 0 0 0 false []), .int .i64 1])
  cases h1 : right a with
  | false =>
    refine pcalls_text C_ok Try.func48 rfl (by decide) (Nat.le_of_ble_eq_true rfl) (by decide) (by simp only [AV.bel, AV.belL, embC_bel, Bool.and_self]) fun ok H => ?_
    rw [Try.results48]
    have h := True.intro
    repeat' (first
     | (with_reducible first | refine goIf_b ?_ ?_ | refine goIf_n ?_ ?_ | refine goIf_d ?_ ?_ | refine goIf_split ?_ ?_ | refine goGb_b ?_ ?_ | refine goGb_n ?_ ?_ | refine goGb_d ?_ ?_ | refine goGb_split ?_ ?_ | refine goDGb_b ?_ ?_ | refine goDGb_n ?_ ?_ | refine goDGb_d ?_ ?_ | refine goDGb_split ?_ ?_) <;> intro h
     | ((first | refine goCall_norm ?_ | refine goDCall_norm ?_); simp only [AV.norm, AV.normL, W2, W2C, Go.Ab.W3, Int.reduceAdd, Int.reduceLT, Int.reduceToNat, Int.reduceBEq, Int.reduceBNe, Int.reduceLE, h1]; first | refine goCall_p (check_ok _) (.inl rfl) ?_ | refine goDCall_p (check_ok _) (.inl rfl) ?_)
     | refine goRound ?_ C_ok Try.f48.ntmps rfl (by decide)
     | skip) <;> simp only [h, ↓upd_eq, ↓envL_cons, Go.Ab.W0, Go.Ab.WD, Go.Ab.WE, if_true, if_false, reduceIte, Nat.reduceEqDiff, Nat.reduceAdd, Nat.reduceLT, Nat.reduceLeDiff, reduceCtorEq, Nat.reduceMul, implies_true, forall_eq_or_imp, forall_eq, Nat.reducePow, W1, W1C, Go.Ab.W3, Int.reduceAdd, Int.reduceLT, Int.reduceToNat, Int.reduceBEq, Int.reduceBNe, Int.reduceLE, h1, cutNormal_normal]
  | true =>
    cases h2 : right b with
    | false =>
      refine pcalls_text C_ok Try.func48 rfl (by decide) (Nat.le_of_ble_eq_true rfl) (by decide) (by simp only [AV.bel, AV.belL, embC_bel, Bool.and_self]) fun ok H => ?_
      rw [Try.results48]
      have h := True.intro
      repeat' (first
       | (with_reducible first | refine goIf_b ?_ ?_ | refine goIf_n ?_ ?_ | refine goIf_d ?_ ?_ | refine goIf_split ?_ ?_ | refine goGb_b ?_ ?_ | refine goGb_n ?_ ?_ | refine goGb_d ?_ ?_ | refine goGb_split ?_ ?_ | refine goDGb_b ?_ ?_ | refine goDGb_n ?_ ?_ | refine goDGb_d ?_ ?_ | refine goDGb_split ?_ ?_) <;> intro h
       | ((first | refine goCall_norm ?_ | refine goDCall_norm ?_); simp only [AV.norm, AV.normL, W2, W2C, Go.Ab.W3, Int.reduceAdd, Int.reduceLT, Int.reduceToNat, Int.reduceBEq, Int.reduceBNe, Int.reduceLE, h1, h2]; first | refine goCall_p (check_ok _) (.inl rfl) ?_ | refine goDCall_p (check_ok _) (.inl rfl) ?_)
       | refine goRound ?_ C_ok Try.f48.ntmps rfl (by decide)
       | skip) <;> simp only [h, ↓upd_eq, ↓envL_cons, Go.Ab.W0, Go.Ab.WD, Go.Ab.WE, if_true, if_false, reduceIte, Nat.reduceEqDiff, Nat.reduceAdd, Nat.reduceLT, Nat.reduceLeDiff, reduceCtorEq, Nat.reduceMul, implies_true, forall_eq_or_imp, forall_eq, Nat.reducePow, W1, W1C, Go.Ab.W3, Int.reduceAdd, Int.reduceLT, Int.reduceToNat, Int.reduceBEq, Int.reduceBNe, Int.reduceLE, h1, h2, cutNormal_normal]
    | true =>
      have h3 : labelOK l = false := by rw [h1, h2] at h; simpa using h
      by_cases l1 : l < 0
      · refine pcalls_text C_ok Try.func48 rfl (by decide) (Nat.le_of_ble_eq_true rfl) (by decide) (by simp only [AV.bel, AV.belL, embC_bel, Bool.and_self]) fun ok H => ?_
        rw [Try.results48]
        have h := True.intro
        repeat' (first
         | (with_reducible first | refine goIf_b ?_ ?_ | refine goIf_n ?_ ?_ | refine goIf_d ?_ ?_ | refine goIf_split ?_ ?_ | refine goGb_b ?_ ?_ | refine goGb_n ?_ ?_ | refine goGb_d ?_ ?_ | refine goGb_split ?_ ?_ | refine goDGb_b ?_ ?_ | refine goDGb_n ?_ ?_ | refine goDGb_d ?_ ?_ | refine goDGb_split ?_ ?_) <;> intro h
         | ((first | refine goCall_norm ?_ | refine goDCall_norm ?_); simp only [AV.norm, AV.normL, W2, W2C, Go.Ab.W3, Int.reduceAdd, Int.reduceLT, Int.reduceToNat, Int.reduceBEq, Int.reduceBNe, Int.reduceLE, h1, h2, l1]; first | refine goCall_p (check_ok _) (.inl rfl) ?_ | refine goDCall_p (check_ok _) (.inl rfl) ?_)
         | refine goRound ?_ C_ok Try.f48.ntmps rfl (by decide)
         | skip) <;> simp only [h, ↓upd_eq, ↓envL_cons, Go.Ab.W0, Go.Ab.WD, Go.Ab.WE, if_true, if_false, reduceIte, Nat.reduceEqDiff, Nat.reduceAdd, Nat.reduceLT, Nat.reduceLeDiff, reduceCtorEq, Nat.reduceMul, implies_true, forall_eq_or_imp, forall_eq, Nat.reducePow, W1, W1C, Go.Ab.W3, Int.reduceAdd, Int.reduceLT, Int.reduceToNat, Int.reduceBEq, Int.reduceBNe, Int.reduceLE, h1, h2, l1, cutNormal_normal]
      · have l2 : l > 1048576 := by simp only [labelOK, Bool.and_eq_false_iff, decide_eq_false_iff_not] at h3; omega
        refine pcalls_text C_ok Try.func48 rfl (by decide) (Nat.le_of_ble_eq_true rfl) (by decide) (by simp only [AV.bel, AV.belL, embC_bel, Bool.and_self]) fun ok H => ?_
        rw [Try.results48]
        have h := True.intro
        repeat' (first
         | (with_reducible first | refine goIf_b ?_ ?_ | refine goIf_n ?_ ?_ | refine goIf_d ?_ ?_ | refine goIf_split ?_ ?_ | refine goGb_b ?_ ?_ | refine goGb_n ?_ ?_ | refine goGb_d ?_ ?_ | refine goGb_split ?_ ?_ | refine goDGb_b ?_ ?_ | refine goDGb_n ?_ ?_ | refine goDGb_d ?_ ?_ | refine goDGb_split ?_ ?_) <;> intro h
         | ((first | refine goCall_norm ?_ | refine goDCall_norm ?_); simp only [AV.norm, AV.normL, W2, W2C, Go.Ab.W3, Int.reduceAdd, Int.reduceLT, Int.reduceToNat, Int.reduceBEq, Int.reduceBNe, Int.reduceLE, h1, h2, l1, l2]; first | refine goCall_p (check_ok _) (.inl rfl) ?_ | refine goDCall_p (check_ok _) (.inl rfl) ?_)
         | refine goRound ?_ C_ok Try.f48.ntmps rfl (by decide)
         | skip) <;> simp only [h, ↓upd_eq, ↓envL_cons, Go.Ab.W0, Go.Ab.WD, Go.Ab.WE, if_true, if_false, reduceIte, Nat.reduceEqDiff, Nat.reduceAdd, Nat.reduceLT, Nat.reduceLeDiff, reduceCtorEq, Nat.reduceMul, implies_true, forall_eq_or_imp, forall_eq, Nat.reducePow, W1, W1C, Go.Ab.W3, Int.reduceAdd, Int.reduceLT, Int.reduceToNat, Int.reduceBEq, Int.reduceBNe, Int.reduceLE, h1, h2, l1, l2, cutNormal_normal]

end Go.Proofs.Ytajdipeebpmifaa
end

