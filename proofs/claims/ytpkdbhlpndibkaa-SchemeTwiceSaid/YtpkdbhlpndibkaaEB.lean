/- Layer 11: the witness that its functions are there. No condition. -/
import Derived.Test.YtpkdbhlpndibkaaEA
set_option linter.unusedSimpArgs false
set_option linter.unusedVariables false
set_option maxHeartbeats 4000000
set_option maxRecDepth 100000
namespace Go.Proofs.Ytpkdbhlpndibkaa
open Go Go.Ab
attribute [local irreducible] PCalls ACalls CallK GoCall GoDCall GoIf GoGb GoDGb GoO GoD GoX GoDX GoG GoDG GoGv GoDGv Go ALoop

theorem v_ok (n : Int) : PCalls Try.prog 33 [.int .i64 n] (emb (.mk 6 n [])) := by
  refine pcalls_text C_ok Try.func33 rfl (by decide) (Nat.le_of_ble_eq_true rfl) (by decide) (emb_bel _ _) fun ok H => ?_
  rw [Try.results33]
  have h := True.intro
  repeat' (first
   | (with_reducible first | refine goIf_b ?_ ?_ | refine goIf_n ?_ ?_ | refine goIf_d ?_ ?_ | refine goIf_split ?_ ?_ | refine goGb_b ?_ ?_ | refine goGb_n ?_ ?_ | refine goGb_d ?_ ?_ | refine goGb_split ?_ ?_ | refine goDGb_b ?_ ?_ | refine goDGb_n ?_ ?_ | refine goDGb_d ?_ ?_ | refine goDGb_split ?_ ?_) <;> intro h
   | skip) <;> simp only [h, ↓upd_eq, ↓envL_cons, Go.Ab.W0, Go.Ab.WD, Go.Ab.WE, if_true, if_false, reduceIte, Nat.reduceEqDiff, Nat.reduceAdd, Nat.reduceLT, Nat.reduceLeDiff, reduceCtorEq, Nat.reduceMul, implies_true, forall_eq_or_imp, forall_eq, Nat.reducePow, W1, W1B]
theorem wk_subst : substR (.mk 9 0 [.mk 6 4 [], .mk 6 4 []]) [(4, .mk 1 0 [])] = .tup [emb (.mk 9 0 [.mk 1 0 [], .mk 1 0 []]), .int .i64 0] := by
  have h1 : right (.mk 9 0 [.mk 6 4 [], .mk 6 4 []]) = true := by decide
  have h2 : okBs [((4 : Int), Ty.mk 1 0 [])] = true := by decide
  have e : Ty.mk 9 0 [.mk 6 4 [], .mk 6 4 []] = (T.fn (.var 4) (.var 4)).ty := rfl
  have s4 : sigB [((4 : Int), Ty.mk 1 0 [])] 4 = .base 0 := by
    simp only [sigB, lookB, if_true]
    exact tOf_ty (.base 0)
  rw [substR, if_pos ⟨h1, h2⟩, e, tOf_ty]
  simp only [putS, s4]
  rfl
theorem wk_match : matchV (.mk 9 0 [.mk 6 4 [], .mk 6 4 []]) (.mk 9 0 [.mk 1 0 [], .mk 1 0 []]) = .tup [.sl [embB (4, .mk 1 0 [])] .no, .bool true] := by
  have h1 : right (.mk 9 0 [.mk 6 4 [], .mk 6 4 []]) = true ∧ right (.mk 9 0 [.mk 1 0 [], .mk 1 0 []]) = true := by decide
  have e : Ty.mk 9 0 [.mk 6 4 [], .mk 6 4 []] = (T.fn (.var 4) (.var 4)).ty := rfl
  have e2 : Ty.mk 9 0 [.mk 1 0 [], .mk 1 0 []] = (T.fn (.base 0) (.base 0)).ty := rfl
  rw [matchV, if_pos h1, e, e2, tOf_ty, tOf_ty]
  rfl
theorem wk_match2 : matchV (.mk 6 0 []) (.mk 5 0 []) = .tup [.sl [] .no, .bool false] := by
  have h1 : right (.mk 6 0 []) = true ∧ right (.mk 5 0 []) = true := by decide
  have e : Ty.mk 6 0 [] = (T.var 0).ty := rfl
  have e2 : Ty.mk 5 0 [] = T.dyn.ty := rfl
  rw [matchV, if_pos h1, e, e2, tOf_ty, tOf_ty]
  rfl
theorem wk_canon : canonR (.mk 9 0 [.mk 6 4 [], .mk 6 4 []]) = .tup [emb (.mk 9 0 [.mk 6 0 [], .mk 6 0 []]), .int .i64 0] := by
  have h1 : right (.mk 9 0 [.mk 6 4 [], .mk 6 4 []]) = true := by decide
  have e : Ty.mk 9 0 [.mk 6 4 [], .mk 6 4 []] = (T.fn (.var 4) (.var 4)).ty := rfl
  rw [canonR, if_pos h1, e, tOf_ty]
  rfl
theorem wakes11_ok : PCalls Try.prog 22 [] (.bool true) := by
  have q1 := subst_ok (.mk 9 0 [.mk 6 4 [], .mk 6 4 []]) [(4, .mk 1 0 [])]
  rw [wk_subst] at q1
  have q2 := match_ok (.mk 9 0 [.mk 6 4 [], .mk 6 4 []]) (.mk 9 0 [.mk 1 0 [], .mk 1 0 []]) (by decide)
  rw [wk_match] at q2
  have q3 := match_ok (.mk 6 0 []) (.mk 5 0 []) (by decide)
  rw [wk_match2] at q3
  have q4 := canon_ok (.mk 9 0 [.mk 6 4 [], .mk 6 4 []]) (by decide)
  rw [wk_canon] at q4
  simp only [List.map_cons, List.map_nil] at q1
  have s1 := ksame_ok (.mk 9 0 [.mk 1 0 [], .mk 1 0 []]) (.mk 9 0 [.mk 1 0 [], .mk 1 0 []])
  have s2 := ksame_ok (.mk 9 0 [.mk 6 0 [], .mk 6 0 []]) (.mk 9 0 [.mk 6 0 [], .mk 6 0 []])
  rw [same_refl] at s1 s2
  have l1 := leaf_ok 1
  have l5 := leaf_ok 5
  have t1 := two_ok 9 (.mk 6 4 []) (.mk 6 4 [])
  have t2 := two_ok 9 (.mk 1 0 []) (.mk 1 0 [])
  have t3 := two_ok 9 (.mk 6 0 []) (.mk 6 0 [])
  have t4 := two_ok 9 (.mk 5 0 []) (.mk 1 0 [])
  have i1 := list_ok (.mk 5 0 [])
  have i2 := list_ok (.mk 6 0 [])
  have u1 := under_1
  have u2 := under_2
  have v4 := v_ok 4
  have v0 := v_ok 0
  simp only [leafT, twoT, listT] at l1 l5 t1 t2 t3 t4 i1 i2
  refine pcalls_text C_ok Try.func22 rfl (by decide) (Nat.le_of_ble_eq_true rfl) (by decide) rfl fun ok H => ?_
  rw [Try.results22]
  have h := True.intro
  repeat' (first
   | (with_reducible first | refine goIf_b ?_ ?_ | refine goIf_n ?_ ?_ | refine goIf_d ?_ ?_ | refine goIf_split ?_ ?_ | refine goGb_b ?_ ?_ | refine goGb_n ?_ ?_ | refine goGb_d ?_ ?_ | refine goGb_split ?_ ?_ | refine goDGb_b ?_ ?_ | refine goDGb_n ?_ ?_ | refine goDGb_d ?_ ?_ | refine goDGb_split ?_ ?_) <;> intro h
   | ((first | refine goCall_norm ?_ | refine goDCall_norm ?_); simp only [AV.norm, AV.normL, W2, W2B, Go.Ab.W3, Int.reduceAdd, Int.reduceLT, Int.reduceToNat, Int.reduceBEq, Int.reduceBNe, Int.reduceLE]; first | refine goCall_p (v4) (.inl rfl) ?_ | refine goCall_p (v0) (.inl rfl) ?_ | refine goCall_p (l1) (.inl rfl) ?_ | refine goCall_p (l5) (.inl rfl) ?_ | refine goCall_p (t1) (.inl rfl) ?_ | refine goCall_p (t2) (.inl rfl) ?_ | refine goCall_p (t3) (.inl rfl) ?_ | refine goCall_p (t4) (.inl rfl) ?_ | refine goCall_p (i1) (.inl rfl) ?_ | refine goCall_p (i2) (.inl rfl) ?_ | refine goCall_p (q1) (.inl rfl) ?_ | refine goCall_p (q2) (.inl rfl) ?_ | refine goCall_p (q3) (.inl rfl) ?_ | refine goCall_p (q4) (.inl rfl) ?_ | refine goCall_p (s1) (.inl rfl) ?_ | refine goCall_p (s2) (.inl rfl) ?_ | refine goCall_p (u1) (.inl rfl) ?_ | refine goCall_p (u2) (.inl rfl) ?_ | refine goDCall_p (v4) (.inl rfl) ?_ | refine goDCall_p (v0) (.inl rfl) ?_ | refine goDCall_p (l1) (.inl rfl) ?_ | refine goDCall_p (l5) (.inl rfl) ?_ | refine goDCall_p (t1) (.inl rfl) ?_ | refine goDCall_p (t2) (.inl rfl) ?_ | refine goDCall_p (t3) (.inl rfl) ?_ | refine goDCall_p (t4) (.inl rfl) ?_ | refine goDCall_p (i1) (.inl rfl) ?_ | refine goDCall_p (i2) (.inl rfl) ?_ | refine goDCall_p (q1) (.inl rfl) ?_ | refine goDCall_p (q2) (.inl rfl) ?_ | refine goDCall_p (q3) (.inl rfl) ?_ | refine goDCall_p (q4) (.inl rfl) ?_ | refine goDCall_p (s1) (.inl rfl) ?_ | refine goDCall_p (s2) (.inl rfl) ?_ | refine goDCall_p (u1) (.inl rfl) ?_ | refine goDCall_p (u2) (.inl rfl) ?_)
   | refine go_draw (id := 7) C_ok (fun _ => trivial) mixed 0 Try.f22.ntmps rfl (by kernel_rfl) (by decide) ?_
   | refine goRound ?_ C_ok Try.f22.ntmps rfl (by decide)
   | skip) <;> simp only [h, ↓upd_eq, ↓envL_cons, Go.Ab.W0, Go.Ab.WD, Go.Ab.WE, if_true, if_false, reduceIte, Nat.reduceEqDiff, Nat.reduceAdd, Nat.reduceLT, Nat.reduceLeDiff, reduceCtorEq, Nat.reduceMul, implies_true, forall_eq_or_imp, forall_eq, Nat.reducePow, W1, W1B, Go.Ab.W3, Int.reduceAdd, Int.reduceLT, Int.reduceToNat, Int.reduceBEq, Int.reduceBNe, Int.reduceLE, cutNormal_normal]

end Go.Proofs.Ytpkdbhlpndibkaa
