/- Walks: whether an instance is below another one: the two calls of the statements' witness. No condition. -/
import Derived.Test.YtpkdbhlpndibkaaE9
set_option linter.unusedSimpArgs false
set_option linter.unusedVariables false
set_option maxHeartbeats 4000000
set_option maxRecDepth 100000
namespace Go.Proofs.Ytpkdbhlpndibkaa
open Go Go.Ab
attribute [local irreducible] PCalls ACalls CallK GoCall GoDCall GoIf GoGb GoDGb GoO GoD GoX GoDX GoG GoDG GoGv GoDGv Go ALoop

def CU : Cfg := { C with inpl := fun d => d == 30 }
theorem CU_ok : CfgOK Try.prog CU := C_ok
theorem CU_ty (t : Nat) : CU.ty t = C.ty t := rfl
theorem CU_inpl (t : Nat) : CU.inpl t = (t == 30) := rfl
theorem under_1 : PCalls Try.prog 16 [emb (.mk 9 0 [.mk 6 4 [], .mk 6 4 []]), emb (.mk 9 0 [.mk 5 0 [], .mk 1 0 []])] (.bool true) := by
  refine pcalls_of rfl fun F => ?_
  have q1 := check_ok (.mk 9 0 [.mk 6 4 [], .mk 6 4 []])
  have q2 := check_ok (.mk 9 0 [.mk 5 0 [], .mk 1 0 []])
  rw [if_pos (by decide)] at q1 q2
  have qb := gbelow_two (unJ_d F (.mk 9 0 [.mk 6 4 [], .mk 6 4 []]) (.mk 9 0 [.mk 5 0 [], .mk 1 0 []]) [] [] 0 []) (x3 := bxT (.mk 9 0 [.mk 6 4 [], .mk 6 4 []])) (x6 := bxT (.mk 9 0 [.mk 5 0 [], .mk 1 0 []])) rfl (fun F hD => gbelow_dyn hD (.mk 6 4 []) 0 [] [] []) (fun F hD => gbelow_int hD 0 [] [] rfl)
  rw [unJ_eq, unJ_eq] at qb
  have qc := under_call qb
  have o0 := gopen_0 (x3 := bxT (.mk 9 0 [.mk 6 4 [], .mk 6 4 []])) (unS_d F (.mk 9 0 [.mk 6 4 [], .mk 6 4 []]) (.mk 9 0 [.mk 5 0 [], .mk 1 0 []]) [(4, 0)] [] 2 [(0, 1), (1, 1)] 0 0) 2 [(4, 0)] []
  have o1 := gopen_1 (x3 := bxT (.mk 9 0 [.mk 6 4 [], .mk 6 4 []])) (unS_d F (.mk 9 0 [.mk 6 4 [], .mk 6 4 []]) (.mk 9 0 [.mk 5 0 [], .mk 1 0 []]) [(4, 0)] [] 2 [(0, 1), (1, 1)] 0 2) 2 [(4, 0)] []
  simp only [unS_eq] at o0 o1
  simp only [unS] at o0 o1
  have hmk : ∀ x y : Int, embG (x, y) = emb (.mk x y []) := fun _ _ => rfl
  have w2 : Int.toNat 2 = 2 := rfl
  have n16 : ((2 : Int) * 8 ≤ 140737488355328) = True := by simp
  clear qb
  generalize hT1 : Ty.mk 9 0 [.mk 6 4 [], .mk 6 4 []] = t1 at *
  generalize hU1 : Ty.mk 9 0 [.mk 5 0 [], .mk 1 0 []] = u1 at *
  unfold DCalls
  refine acallsD_text CU_ok Try.func16 rfl (by decide) (Nat.le_of_ble_eq_true rfl) (by decide) fun ok => ?_
  rw [Try.results16]
  have h := True.intro
  repeat' (first
   | (with_reducible first | refine goIf_b ?_ ?_ | refine goIf_n ?_ ?_ | refine goIf_d ?_ ?_ | refine goIf_split ?_ ?_ | refine goGb_b ?_ ?_ | refine goGb_n ?_ ?_ | refine goGb_d ?_ ?_ | refine goGb_split ?_ ?_ | refine goDGb_b ?_ ?_ | refine goDGb_n ?_ ?_ | refine goDGb_d ?_ ?_ | refine goDGb_split ?_ ?_) <;> intro h
   | ((first | refine goCall_norm ?_ | refine goDCall_norm ?_); simp only [AV.norm, AV.normL, W2, W2B, CU_ty, CU_inpl, bne_self_eq_false, AV.belL, AV.bel, retD_ret, retD_normal]; first | refine goCall_p (q1) (.inl rfl) ?_ | refine goCall_p (q2) (.inl rfl) ?_ | refine goDCall_p (q1) (.inl rfl) ?_ | refine goDCall_p (q2) (.inl rfl) ?_)
   | skip) <;> simp only [h, ↓upd_eq, ↓envL_cons, Go.Ab.W0, Go.Ab.WD, if_true, if_false, reduceIte, Nat.reduceEqDiff, Nat.reduceAdd, Nat.reduceLT, Nat.reduceLeDiff, reduceCtorEq, Nat.reduceMul, implies_true, forall_eq_or_imp, forall_eq, Nat.reducePow, W1, W1B, fs_frz, fs_frz0, fs_env, fs_b, fs_n, fs_put, fs_put0, fs_tmp, fs_const, fs_func, fs_obj, fs_setObj, fs_new, fs_next, fs_mk, fs_H, le_app, le_set, app_get, app_set, app_get0c, app_getkc, app_set0c, app_setkc, List.append_assoc, not_false_eq_true, not_true_eq_false, retE_ret, retP_ret, List.length_append, List.length_set, Nat.le_succ, CU_ty, CU_inpl, bne_self_eq_false, AV.belL, AV.bel, retD_ret, retD_normal]
  refine fsCall qc (.inl rfl) fun x G hG hlen => ?_
  obtain ⟨rfl, rfl⟩ := hG
  refine ⟨fun hbel => ?_, ?_⟩
  · rw [List.take_left' rfl] at hbel
    rw [unJ, List.take_left' rfl]; exact hbel
  · simp only [unJ, bxT]
    unfold stA bxT at o0 o1
    have h := True.intro
    repeat' (first
     | (with_reducible first | refine goIf_b ?_ ?_ | refine goIf_n ?_ ?_ | refine goIf_d ?_ ?_ | refine goIf_split ?_ ?_ | refine goGb_b ?_ ?_ | refine goGb_n ?_ ?_ | refine goGb_d ?_ ?_ | refine goGb_split ?_ ?_ | refine goDGb_b ?_ ?_ | refine goDGb_n ?_ ?_ | refine goDGb_d ?_ ?_ | refine goDGb_split ?_ ?_) <;> intro h
     | ((first | refine goCall_norm ?_ | refine goDCall_norm ?_); simp only [AV.norm, AV.normL, W2, W2B, Go.Ab.W3, Int.reduceAdd, Int.reduceLT, Int.reduceToNat, Int.reduceBEq, Int.reduceBNe, Int.reduceLE, CU_ty, CU_inpl, Nat.reduceBEq, w2, n16, List.map_cons, List.map_nil, List.replicate_succ, List.replicate_zero, AV.belL, AV.bel, retD_ret, retD_normal]; first  | refine fsCallD (o0) (.inl rfl) (fun hb => by rw [List.take_left' rfl] at hb ⊢; exact hb) ?_ | refine fsCallD (o1) (.inl rfl) (fun hb => by rw [List.take_left' rfl] at hb ⊢; exact hb) ?_)
     | refine goRound ?_ CU_ok Try.f16.ntmps rfl (by decide)
     | skip) <;> simp only [h, ↓upd_eq, ↓envL_cons, Go.Ab.W0, Go.Ab.WD, if_true, if_false, reduceIte, Nat.reduceEqDiff, Nat.reduceAdd, Nat.reduceLT, Nat.reduceLeDiff, reduceCtorEq, Nat.reduceMul, implies_true, forall_eq_or_imp, forall_eq, Nat.reducePow, W1, W1B, fs_frz, fs_frz0, fs_env, fs_b, fs_n, fs_put, fs_put0, fs_tmp, fs_const, fs_func, fs_obj, fs_setObj, fs_new, fs_next, fs_mk, fs_H, le_app, le_set, app_get, app_set, app_get0c, app_getkc, app_set0c, app_setkc, List.append_assoc, not_false_eq_true, not_true_eq_false, retE_ret, retP_ret, List.length_append, List.length_set, Nat.le_succ, Go.Ab.W3, Int.reduceAdd, Int.reduceLT, Int.reduceToNat, Int.reduceBEq, Int.reduceBNe, Int.reduceLE, CU_ty, CU_inpl, Nat.reduceBEq, w2, n16, List.map_cons, List.map_nil, List.replicate_succ, List.replicate_zero, AV.belL, AV.bel, retD_ret, retD_normal, cutNormal_normal]
    all_goals first | exact List.take_left' rfl | exact ⟨rfl, List.take_left' rfl⟩ | trace_state
theorem under_2 : PCalls Try.prog 16 [emb (.mk 8 0 [.mk 5 0 []]), emb (.mk 8 0 [.mk 6 0 []])] (.bool false) := by
  refine pcalls_of rfl fun F => ?_
  have q1 := check_ok (.mk 8 0 [.mk 5 0 []])
  have q2 := check_ok (.mk 8 0 [.mk 6 0 []])
  rw [if_pos (by decide)] at q1 q2
  have qb := gbelow_one0 (unJ_d F (.mk 8 0 [.mk 5 0 []]) (.mk 8 0 [.mk 6 0 []]) [] [] 0 []) (x3 := bxT (.mk 8 0 [.mk 5 0 []])) (x6 := bxT (.mk 8 0 [.mk 6 0 []])) (fun F hD => gbelow_no hD 0 0 [] [] [])
  rw [unJ_eq] at qb
  have qc := under_call qb
  clear qb
  generalize Ty.mk 8 0 [.mk 5 0 []] = t1 at *
  generalize Ty.mk 8 0 [.mk 6 0 []] = u1 at *
  unfold DCalls
  refine acallsD_text CU_ok Try.func16 rfl (by decide) (Nat.le_of_ble_eq_true rfl) (by decide) fun ok => ?_
  rw [Try.results16]
  have h := True.intro
  repeat' (first
   | (with_reducible first | refine goIf_b ?_ ?_ | refine goIf_n ?_ ?_ | refine goIf_d ?_ ?_ | refine goIf_split ?_ ?_ | refine goGb_b ?_ ?_ | refine goGb_n ?_ ?_ | refine goGb_d ?_ ?_ | refine goGb_split ?_ ?_ | refine goDGb_b ?_ ?_ | refine goDGb_n ?_ ?_ | refine goDGb_d ?_ ?_ | refine goDGb_split ?_ ?_) <;> intro h
   | ((first | refine goCall_norm ?_ | refine goDCall_norm ?_); simp only [AV.norm, AV.normL, W2, W2B, CU_ty, CU_inpl, bne_self_eq_false, AV.belL, AV.bel, retD_ret, retD_normal]; first | refine goCall_p (q1) (.inl rfl) ?_ | refine goCall_p (q2) (.inl rfl) ?_ | refine goDCall_p (q1) (.inl rfl) ?_ | refine goDCall_p (q2) (.inl rfl) ?_)
   | skip) <;> simp only [h, ↓upd_eq, ↓envL_cons, Go.Ab.W0, Go.Ab.WD, if_true, if_false, reduceIte, Nat.reduceEqDiff, Nat.reduceAdd, Nat.reduceLT, Nat.reduceLeDiff, reduceCtorEq, Nat.reduceMul, implies_true, forall_eq_or_imp, forall_eq, Nat.reducePow, W1, W1B, fs_frz, fs_frz0, fs_env, fs_b, fs_n, fs_put, fs_put0, fs_tmp, fs_const, fs_func, fs_obj, fs_setObj, fs_new, fs_next, fs_mk, fs_H, le_app, le_set, app_get, app_set, app_get0c, app_getkc, app_set0c, app_setkc, List.append_assoc, not_false_eq_true, not_true_eq_false, retE_ret, retP_ret, List.length_append, List.length_set, Nat.le_succ, CU_ty, CU_inpl, bne_self_eq_false, AV.belL, AV.bel, retD_ret, retD_normal]
  refine fsCall qc (.inl rfl) fun x G hG hlen => ?_
  obtain ⟨rfl, rfl⟩ := hG
  refine ⟨fun hbel => ?_, ?_⟩
  · rw [List.take_left' rfl] at hbel
    rw [unJ, List.take_left' rfl]; exact hbel
  · simp only [unJ, bxT]
    have h := True.intro
    repeat' (first
     | (with_reducible first | refine goIf_b ?_ ?_ | refine goIf_n ?_ ?_ | refine goIf_d ?_ ?_ | refine goIf_split ?_ ?_ | refine goGb_b ?_ ?_ | refine goGb_n ?_ ?_ | refine goGb_d ?_ ?_ | refine goGb_split ?_ ?_ | refine goDGb_b ?_ ?_ | refine goDGb_n ?_ ?_ | refine goDGb_d ?_ ?_ | refine goDGb_split ?_ ?_) <;> intro h
     | skip) <;> simp only [h, ↓upd_eq, ↓envL_cons, Go.Ab.W0, Go.Ab.WD, if_true, if_false, reduceIte, Nat.reduceEqDiff, Nat.reduceAdd, Nat.reduceLT, Nat.reduceLeDiff, reduceCtorEq, Nat.reduceMul, implies_true, forall_eq_or_imp, forall_eq, Nat.reducePow, W1, W1B, fs_frz, fs_frz0, fs_env, fs_b, fs_n, fs_put, fs_put0, fs_tmp, fs_const, fs_func, fs_obj, fs_setObj, fs_new, fs_next, fs_mk, fs_H, le_app, le_set, app_get, app_set, app_get0c, app_getkc, app_set0c, app_setkc, List.append_assoc, not_false_eq_true, not_true_eq_false, retE_ret, retP_ret, List.length_append, List.length_set, Nat.le_succ, CU_ty, CU_inpl, AV.belL, AV.bel, retD_ret, retD_normal]
    all_goals first | exact List.take_left' rfl | exact ⟨rfl, List.take_left' rfl⟩ | trace_state

end Go.Proofs.Ytpkdbhlpndibkaa
