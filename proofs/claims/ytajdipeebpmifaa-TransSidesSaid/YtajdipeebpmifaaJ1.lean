/- The laws of layer 21: their guards. No condition. -/
import Derived.Test.YtajdipeebpmifaaPHa
import Derived.Test.YtajdipeebpmifaaPMa
import Derived.Test.YtajdipeebpmifaaPFa
set_option linter.unusedSimpArgs false
set_option linter.unusedVariables false
set_option maxHeartbeats 4000000
set_option maxRecDepth 100000
namespace Go.Proofs.Ytajdipeebpmifaa
open Go Go.Ab
attribute [local irreducible] PCalls ACalls CallK GoCall GoDCall GoIf GoGb GoDGb GoO GoD GoX GoDX GoG GoDG GoGv GoDGv Go ALoop

def pairT (a b : Ty) : Bool := small [a, b] && right a && right b
theorem pair21_ok (a b : Ty) : PCalls Try.prog 52 [emb a, emb b] (.bool (pairT a b)) := by
  refine pcalls_text C_ok Try.func52 rfl (by decide) (Nat.le_of_ble_eq_true rfl) (by decide) rfl fun ok H => ?_
  rw [Try.results52]
  have h := True.intro
  repeat' (first
   | (with_reducible first | refine goIf_b ?_ ?_ | refine goIf_n ?_ ?_ | refine goIf_d ?_ ?_ | refine goIf_split ?_ ?_ | refine goGb_b ?_ ?_ | refine goGb_n ?_ ?_ | refine goGb_d ?_ ?_ | refine goGb_split ?_ ?_ | refine goDGb_b ?_ ?_ | refine goDGb_n ?_ ?_ | refine goDGb_d ?_ ?_ | refine goDGb_split ?_ ?_) <;> intro h
   | ((first | refine goCall_norm ?_ | refine goDCall_norm ?_); simp only [AV.norm, AV.normL, W2, W2C, Go.Ab.W3, Int.reduceAdd, Int.reduceLT, Int.reduceToNat, Int.reduceBEq, Int.reduceBNe, Int.reduceLE]; first | refine goCall_p (small2_ok _ _) (.inl rfl) ?_ | refine goCall_p (rright_ok _) (.inl rfl) ?_ | refine goDCall_p (small2_ok _ _) (.inl rfl) ?_ | refine goDCall_p (rright_ok _) (.inl rfl) ?_)
   | refine goRound ?_ C_ok Try.f52.ntmps rfl (by decide)
   | skip) <;> simp only [h, ↓upd_eq, ↓envL_cons, Go.Ab.W0, Go.Ab.WD, Go.Ab.WE, if_true, if_false, reduceIte, Nat.reduceEqDiff, Nat.reduceAdd, Nat.reduceLT, Nat.reduceLeDiff, reduceCtorEq, Nat.reduceMul, implies_true, forall_eq_or_imp, forall_eq, Nat.reducePow, W1, W1C, Go.Ab.W3, Int.reduceAdd, Int.reduceLT, Int.reduceToNat, Int.reduceBEq, Int.reduceBNe, Int.reduceLE, cutNormal_normal]
  all_goals simp_all [pairT]
theorem pairT_iff {a b : Ty} (h : pairT a b = true) : (∃ x : T, a = x.ty ∧ x.ok = true) ∧ (∃ y : T, b = y.ty ∧ y.ok = true) ∧ nodes a ≤ 600 ∧ nodes b ≤ 600 := by
  simp only [pairT, Bool.and_eq_true] at h
  exact ⟨T.of_right' h.1.2, T.of_right' h.2, small_nodes h.1.1 (by simp), small_nodes h.1.1 (by simp)⟩

theorem wakes21_ok : PCalls Try.prog 49 [] (.bool true) := by
  have l3 : labelOK 3 = true := by decide
  have c1 : castC (leafT 5) (twoT 9 (leafT 1) (leafT 2)) 3 false = .mk 6 9 3 false [.mk 2 0 0 false [injC 1, projC 2 3]] := by
    rw [show leafT 5 = T.dyn.ty from rfl, show twoT 9 (leafT 1) (leafT 2) = (T.fn (.base 0) (.base 1)).ty from rfl, castC_co (by decide) (by decide) l3 (by decide)]; rfl
  have e1 : castE (leafT 5) (twoT 9 (leafT 1) (leafT 2)) 3 = 0 := by decide
  have e2 : castE (leafT 1) (leafT 2) 3 = 4 := by decide
  have c2 : castC (leafT 1) (leafT 2) 3 false = .mk 0 0 0 false [] := castC_no (by rw [e2]; decide)
  have e3 : castE (twoT 9 (leafT 1) (leafT 2)) (twoT 9 (leafT 1) (leafT 2)) 3 = 0 := by decide
  have c3 : castC (twoT 9 (leafT 1) (leafT 2)) (twoT 9 (leafT 1) (leafT 2)) 3 true = .mk 1 0 0 false [] := by
    rw [show twoT 9 (leafT 1) (leafT 2) = (T.fn (.base 0) (.base 1)).ty from rfl, castC_co (by decide) (by decide) l3 (by decide)]; rfl
  have f1 : fitsC (.mk 6 9 3 false [.mk 2 0 0 false [injC 1, projC 2 3]]) (leafT 5) (twoT 9 (leafT 1) (leafT 2)) = true := by
    rw [show leafT 5 = T.dyn.ty from rfl, show twoT 9 (leafT 1) (leafT 2) = (T.fn (.base 0) (.base 1)).ty from rfl, show Co.mk 6 9 3 false [.mk 2 0 0 false [injC 1, projC 2 3]] = (K.proj 9 3 false (.fn (.inj 1 .id) (.proj 2 3 false .id))).co from rfl, fitsC_co (by decide) (by decide) (by decide)]
    decide
  have q1 := tCastC_ok (leafT 5) (twoT 9 (leafT 1) (leafT 2)) 3 false
  have q2 := tCastC_ok (leafT 1) (leafT 2) 3 false
  have q3 := tCastC_ok (twoT 9 (leafT 1) (leafT 2)) (twoT 9 (leafT 1) (leafT 2)) 3 true
  have q4 := cFitsC_ok (.mk 6 9 3 false [.mk 2 0 0 false [injC 1, projC 2 3]]) (leafT 5) (twoT 9 (leafT 1) (leafT 2))
  rw [c1, e1] at q1
  rw [c2, e2] at q2
  rw [c3, e3] at q3
  rw [f1] at q4
  refine pcalls_text C_ok Try.func49 rfl (by decide) (Nat.le_of_ble_eq_true rfl) (by decide) rfl fun ok H => ?_
  rw [Try.results49]
  have h := True.intro
  repeat' (first
   | (with_reducible first | refine goIf_b ?_ ?_ | refine goIf_n ?_ ?_ | refine goIf_d ?_ ?_ | refine goIf_split ?_ ?_ | refine goGb_b ?_ ?_ | refine goGb_n ?_ ?_ | refine goGb_d ?_ ?_ | refine goGb_split ?_ ?_ | refine goDGb_b ?_ ?_ | refine goDGb_n ?_ ?_ | refine goDGb_d ?_ ?_ | refine goDGb_split ?_ ?_) <;> intro h
   | ((first | refine goCall_norm ?_ | refine goDCall_norm ?_); simp only [AV.norm, AV.normL, W2, W2C, Go.Ab.W3, Int.reduceAdd, Int.reduceLT, Int.reduceToNat, Int.reduceBEq, Int.reduceBNe, Int.reduceLE]; first | refine goCall_p (leaf_ok _) (.inl rfl) ?_ | refine goCall_p (two_ok _ _ _) (.inl rfl) ?_ | refine goCall_p (q1) (.inl rfl) ?_ | refine goCall_p (q2) (.inl rfl) ?_ | refine goCall_p (q3) (.inl rfl) ?_ | refine goCall_p (q4) (.inl rfl) ?_ | refine goDCall_p (leaf_ok _) (.inl rfl) ?_ | refine goDCall_p (two_ok _ _ _) (.inl rfl) ?_ | refine goDCall_p (q1) (.inl rfl) ?_ | refine goDCall_p (q2) (.inl rfl) ?_ | refine goDCall_p (q3) (.inl rfl) ?_ | refine goDCall_p (q4) (.inl rfl) ?_)
   | refine goRound ?_ C_ok Try.f49.ntmps rfl (by decide)
   | skip) <;> simp only [h, ↓upd_eq, ↓envL_cons, Go.Ab.W0, Go.Ab.WD, Go.Ab.WE, if_true, if_false, reduceIte, Nat.reduceEqDiff, Nat.reduceAdd, Nat.reduceLT, Nat.reduceLeDiff, reduceCtorEq, Nat.reduceMul, implies_true, forall_eq_or_imp, forall_eq, Nat.reducePow, W1, W1C, Go.Ab.W3, Int.reduceAdd, Int.reduceLT, Int.reduceToNat, Int.reduceBEq, Int.reduceBNe, Int.reduceLE, cutNormal_normal]

end Go.Proofs.Ytajdipeebpmifaa
