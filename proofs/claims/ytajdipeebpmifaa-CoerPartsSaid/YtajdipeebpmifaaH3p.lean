/- The law CoerParts answers true, whatever the input. No condition. -/
import Derived.Test.YtajdipeebpmifaaPHa
set_option linter.unusedSimpArgs false
set_option linter.unusedVariables false
set_option maxHeartbeats 4000000
set_option maxRecDepth 100000
namespace Go.Proofs.Ytajdipeebpmifaa
open Go Go.Ab
attribute [local irreducible] PCalls ACalls CallK GoCall GoDCall GoIf GoGb GoDGb GoO GoD GoX GoDX GoG GoDG GoGv GoDGv Go ALoop

theorem coerParts_ok (c d : Co) : PCalls Try.prog 7 [embC c, embC d] (.bool true) := by
  by_cases hv : heavyC [c, d] = true
  · refine pcalls_text C_ok Try.func7 rfl (by decide) (Nat.le_of_ble_eq_true rfl) (by decide) rfl fun ok H => ?_
    rw [Try.results7]
    have h := True.intro
    repeat' (first
     | (with_reducible first | refine goIf_b ?_ ?_ | refine goIf_n ?_ ?_ | refine goIf_d ?_ ?_ | refine goIf_split ?_ ?_ | refine goGb_b ?_ ?_ | refine goGb_n ?_ ?_ | refine goGb_d ?_ ?_ | refine goGb_split ?_ ?_ | refine goDGb_b ?_ ?_ | refine goDGb_n ?_ ?_ | refine goDGb_d ?_ ?_ | refine goDGb_split ?_ ?_) <;> intro h
     | ((first | refine goCall_norm ?_ | refine goDCall_norm ?_); simp only [AV.norm, AV.normL, W2, W2C, Go.Ab.W3, Int.reduceAdd, Int.reduceLT, Int.reduceToNat, Int.reduceBEq, Int.reduceBNe, Int.reduceLE, hv]; first | refine goCall_p (heavyC2_ok _ _) (.inl rfl) ?_ | refine goDCall_p (heavyC2_ok _ _) (.inl rfl) ?_)
     | refine go_draw (id := 6) C_ok mixed 0 Try.f7.ntmps rfl (by kernel_rfl) (by decide) ?_
     | refine go_draw (id := 9) C_ok mixed 0 Try.f7.ntmps rfl (by kernel_rfl) (by decide) ?_
     | refine go_draw (id := 11) C_ok mixed 0 Try.f7.ntmps rfl (by kernel_rfl) (by decide) ?_
     | refine goRound ?_ C_ok Try.f7.ntmps rfl (by decide)
     | skip) <;> simp only [h, ↓upd_eq, ↓envL_cons, Go.Ab.W0, Go.Ab.WD, Go.Ab.WE, if_true, if_false, reduceIte, Nat.reduceEqDiff, Nat.reduceAdd, Nat.reduceLT, Nat.reduceLeDiff, reduceCtorEq, Nat.reduceMul, implies_true, forall_eq_or_imp, forall_eq, Nat.reducePow, W1, W1C, Go.Ab.W3, Int.reduceAdd, Int.reduceLT, Int.reduceToNat, Int.reduceBEq, Int.reduceBNe, Int.reduceLE, hv, cutNormal_normal]
  have hv' : heavyC [c, d] = false := by simpa using hv
  have n1 : nodesC c ≤ 400 := heavyC_nodes hv (by simp)
  have n2 : nodesC d ≤ 400 := heavyC_nodes hv (by simp)
  have n3 : ∀ k, nodesC (.mk k 0 0 false [c, d]) = nodesC c + nodesC d + 1 := fun k => by simp only [nodesC, nodesCL]; omega
  have n4 : nodesC (.mk 4 0 0 false [c]) = nodesC c + 1 := by simp only [nodesC, nodesCL]; omega
  have hc := heightC_le c
  have hd := heightC_le d
  have w1 : IntKind.wrap .i64 ((nodesC c : Int) + (nodesC d : Int)) = ((nodesC c + nodesC d : Nat) : Int) := wrap_nat2 (by omega)
  have w2 : IntKind.wrap .i64 (((nodesC c + nodesC d : Nat) : Int) + 1) = ((nodesC c + nodesC d + 1 : Nat) : Int) := wrap_nat1 (by omega)
  have w3 : IntKind.wrap .i64 (((max (heightC c) (heightC d) : Nat) : Int) + 1) = ((max (heightC c) (heightC d) + 1 : Nat) : Int) := wrap_nat1 (by omega)
  have w4 : IntKind.wrap .i64 ((heightC c : Int) + 1) = ((heightC c + 1 : Nat) : Int) := wrap_nat1 (by omega)
  have s1 := sizeC_ok c (by omega)
  have s2 := sizeC_ok d (by omega)
  have s3 := sizeC_ok (.mk 3 0 0 false [c, d]) (by rw [n3]; omega)
  have t1 := cHeight_ok c (by omega)
  have t2 := cHeight_ok d (by omega)
  have t3 := cHeight_ok (.mk 3 0 0 false [c, d]) (by rw [n3]; omega)
  have t4 := cHeight_ok (.mk 2 0 0 false [c, d]) (by rw [n3]; omega)
  have t5 := cHeight_ok (.mk 4 0 0 false [c]) (by rw [n4]; omega)
  rw [n3] at s3
  rw [h_c2 3 (by decide)] at t3
  rw [h_c2 2 (by decide)] at t4
  rw [h_c1] at t5
  rw [right_c2 3 (by decide)] at t3
  rw [right_c2 2 (by decide)] at t4
  rw [right_c1] at t5
  have k1 := ccheck_ok c
  have k2 := ccheck_ok d
  have k3 := ccheck_ok (.mk 3 0 0 false [c, d])
  have k4 := ccheck_ok (.mk 2 0 0 false [c, d])
  have k5 := ccheck_ok (.mk 4 0 0 false [c])
  rw [right_c2 3 (by decide)] at k3
  rw [right_c2 2 (by decide)] at k4
  rw [right_c1] at k5
  generalize rightC c = p at *
  generalize rightC d = q at *
  generalize hx : (c.kind != 1) = x at *
  generalize hy : (d.kind != 1) = y at *
  have fin : ∀ (p q x y : Bool), True := fun _ _ _ _ => trivial
  cases p <;> cases q <;> cases x <;> cases y <;> simp only [Bool.true_and, Bool.false_and, Bool.and_true, Bool.and_false, Bool.or_true, Bool.or_false, Bool.true_or, Bool.false_or, if_true, Bool.false_eq_true, if_false] at t1 t2 t3 t4 t5 k1 k2 k3 k4 k5 <;>
  · refine pcalls_text C_ok Try.func7 rfl (by decide) (Nat.le_of_ble_eq_true rfl) (by decide) rfl fun ok H => ?_
    rw [Try.results7]
    have h := True.intro
    repeat' (first
     | (with_reducible first | refine goIf_b ?_ ?_ | refine goIf_n ?_ ?_ | refine goIf_d ?_ ?_ | refine goIf_split ?_ ?_ | refine goGb_b ?_ ?_ | refine goGb_n ?_ ?_ | refine goGb_d ?_ ?_ | refine goGb_split ?_ ?_ | refine goDGb_b ?_ ?_ | refine goDGb_n ?_ ?_ | refine goDGb_d ?_ ?_ | refine goDGb_split ?_ ?_) <;> intro h
     | ((first | refine goCall_norm ?_ | refine goDCall_norm ?_); simp only [AV.norm, AV.normL, W2, W2C, Go.Ab.W3, Int.reduceAdd, Int.reduceLT, Int.reduceToNat, Int.reduceBEq, Int.reduceBNe, Int.reduceLE, hv', hx, hy, w1, w2, w3, w4, wrap_max, beq_self_eq_true, bne_self_eq_false]; first | refine goCall_p (heavyC2_ok _ _) (.inl rfl) ?_ | refine goCall_p (s1) (.inl rfl) ?_ | refine goCall_p (s2) (.inl rfl) ?_ | refine goCall_p (s3) (.inl rfl) ?_ | refine goCall_p (t1) (.inl rfl) ?_ | refine goCall_p (t2) (.inl rfl) ?_ | refine goCall_p (t3) (.inl rfl) ?_ | refine goCall_p (t4) (.inl rfl) ?_ | refine goCall_p (t5) (.inl rfl) ?_ | refine goCall_p (k1) (.inl rfl) ?_ | refine goCall_p (k2) (.inl rfl) ?_ | refine goCall_p (k3) (.inl rfl) ?_ | refine goCall_p (k4) (.inl rfl) ?_ | refine goCall_p (k5) (.inl rfl) ?_ | refine goCall_p (wakes20_ok) (.inl rfl) ?_ | refine goDCall_p (heavyC2_ok _ _) (.inl rfl) ?_ | refine goDCall_p (s1) (.inl rfl) ?_ | refine goDCall_p (s2) (.inl rfl) ?_ | refine goDCall_p (s3) (.inl rfl) ?_ | refine goDCall_p (t1) (.inl rfl) ?_ | refine goDCall_p (t2) (.inl rfl) ?_ | refine goDCall_p (t3) (.inl rfl) ?_ | refine goDCall_p (t4) (.inl rfl) ?_ | refine goDCall_p (t5) (.inl rfl) ?_ | refine goDCall_p (k1) (.inl rfl) ?_ | refine goDCall_p (k2) (.inl rfl) ?_ | refine goDCall_p (k3) (.inl rfl) ?_ | refine goDCall_p (k4) (.inl rfl) ?_ | refine goDCall_p (k5) (.inl rfl) ?_ | refine goDCall_p (wakes20_ok) (.inl rfl) ?_)
     | refine go_draw (id := 6) C_ok mixed 0 Try.f7.ntmps rfl (by kernel_rfl) (by decide) ?_
     | refine go_draw (id := 9) C_ok mixed 0 Try.f7.ntmps rfl (by kernel_rfl) (by decide) ?_
     | refine go_draw (id := 11) C_ok mixed 0 Try.f7.ntmps rfl (by kernel_rfl) (by decide) ?_
     | refine goRound ?_ C_ok Try.f7.ntmps rfl (by decide)
     | skip) <;> simp only [h, ↓upd_eq, ↓envL_cons, Go.Ab.W0, Go.Ab.WD, Go.Ab.WE, if_true, if_false, reduceIte, Nat.reduceEqDiff, Nat.reduceAdd, Nat.reduceLT, Nat.reduceLeDiff, reduceCtorEq, Nat.reduceMul, implies_true, forall_eq_or_imp, forall_eq, Nat.reducePow, W1, W1C, Go.Ab.W3, Int.reduceAdd, Int.reduceLT, Int.reduceToNat, Int.reduceBEq, Int.reduceBNe, Int.reduceLE, hv', hx, hy, w1, w2, w3, w4, wrap_max, beq_self_eq_true, bne_self_eq_false, cutNormal_normal]

end Go.Proofs.Ytajdipeebpmifaa
