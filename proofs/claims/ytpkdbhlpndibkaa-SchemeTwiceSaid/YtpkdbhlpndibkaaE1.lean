/- Walks: types for variables. No condition. -/
import Derived.Test.YtpkdbhlpndibkaaP2a
import Derived.Test.YtpkdbhlpndibkaaA9
import Derived.Test.YtpkdbhlpndibkaaPSb
import Derived.Test.YtpkdbhlpndibkaaPVa
set_option linter.unusedSimpArgs false
set_option linter.unusedVariables false
set_option maxHeartbeats 4000000
set_option maxRecDepth 100000
namespace Go.Proofs.Ytpkdbhlpndibkaa
open Go Go.Ab
attribute [local irreducible] PCalls ACalls CallK GoCall GoDCall GoIf GoGb GoDGb GoO GoD GoX GoDX GoG GoDG GoGv GoDGv Go ALoop

def putM (l : List Bd) (M : List (Int × Int)) : T → Ty
  | .base k => (T.base k).ty
  | .dyn => T.dyn.ty
  | .var n => match mget M n with | some i => (l.getD i.toNat default).2 | none => .mk 6 n []
  | .pair a b => .mk 7 0 [putM l M a, putM l M b]
  | .fn a b => .mk 9 0 [putM l M a, putM l M b]
  | .list a => .mk 8 0 [putM l M a]
theorem qcalls_of {P : Program} {f : Nat} {args : List AV} {x : AV} {X : AObj} {q : Nat} {e : Nat → AV} {G : List AObj} {b k : Nat} (h : ∀ F : List AObj, F[q]? = some X → DCalls P f args F x F) (hg : G[q]? = some X) (hm : X.mute = false) : QCalls P f args x (FS e G b k).obj :=
  fun F' hF => h F' (hF _ _ (by rw [fs_obj]; exact hg) hm)
section
variable {l : List Bd} {M : List (Int × Int)} {mr : Nat}
def SPut (l : List Bd) (M : List (Int × Int)) (mr : Nat) (t r : Ty) : Prop := ∀ F : List AObj, F[mr]? = some (.map (embM M)) → DCalls Try.prog 38 [emb t, .sl (l.map embB) .no, .mp mr] F (emb r) F
theorem sput_leaf' (k : Int) (hk : (k == 6) = false) : SPut l M mr (.mk k 0 []) (.mk k 0 []) := by
  intro F hm
  unfold DCalls
  have hml := get_lt hm
  refine acallsD_text C_ok Try.func38 rfl (by decide) (Nat.le_of_ble_eq_true rfl) (by decide) fun ok => ?_
  rw [Try.results38]
  have h := True.intro
  repeat' (first
   | (with_reducible first | refine goIf_b ?_ ?_ | refine goIf_n ?_ ?_ | refine goIf_d ?_ ?_ | refine goIf_split ?_ ?_ | refine goGb_b ?_ ?_ | refine goGb_n ?_ ?_ | refine goGb_d ?_ ?_ | refine goGb_split ?_ ?_ | refine goDGb_b ?_ ?_ | refine goDGb_n ?_ ?_ | refine goDGb_d ?_ ?_ | refine goDGb_split ?_ ?_) <;> intro h
   | refine go_drawF (id := 12) C_ok (fun _ => trivial) mixed 0 Try.f38.ntmps (by first | (simp; done) | (simp; omega)) rfl (by kernel_rfl) (by decide) ?_
   | refine goRound ?_ C_ok Try.f38.ntmps rfl (by decide)
   | skip) <;> simp only [h, ↓upd_eq, ↓envL_cons, Go.Ab.W0, Go.Ab.WD, if_true, if_false, reduceIte, Nat.reduceEqDiff, Nat.reduceAdd, Nat.reduceLT, Nat.reduceLeDiff, reduceCtorEq, Nat.reduceMul, implies_true, forall_eq_or_imp, forall_eq, Nat.reducePow, W1, W1B, fs_frz, fs_frz0, fs_env, fs_b, fs_n, fs_put, fs_put0, fs_tmp, fs_const, fs_func, fs_obj, fs_setObj, fs_new, fs_next, fs_mk, fs_H, le_app, le_set, app_get, app_set, app_get0c, app_getkc, app_set0c, app_setkc, List.append_assoc, not_false_eq_true, not_true_eq_false, retE_ret, retP_ret, List.length_append, List.length_set, Nat.le_succ, Go.Ab.W3, Int.reduceAdd, Int.reduceLT, Int.reduceToNat, Int.reduceBEq, Int.reduceBNe, Int.reduceLE, hk, hml, app_get hml, hm, emb_bel, retD_ret, retD_normal, cutNormal_normal]
  all_goals exact List.take_left' rfl
theorem sput_two' (k : Int) (hk : (k == 6) = false) {x y x' y' : Ty} (i1 : SPut l M mr x x') (i2 : SPut l M mr y y') : SPut l M mr (.mk k 0 [x, y]) (.mk k 0 [x', y']) := by
  intro F hm
  unfold DCalls
  have hml := get_lt hm
  have hG : ∀ J, (F ++ J)[mr]? = some (.map (embM M)) := fun J => by rw [List.getElem?_append_left hml]; exact hm
  refine acallsD_text C_ok Try.func38 rfl (by decide) (Nat.le_of_ble_eq_true rfl) (by decide) fun ok => ?_
  rw [Try.results38]
  have h := True.intro
  repeat' (first
   | (with_reducible first | refine goIf_b ?_ ?_ | refine goIf_n ?_ ?_ | refine goIf_d ?_ ?_ | refine goIf_split ?_ ?_ | refine goGb_b ?_ ?_ | refine goGb_n ?_ ?_ | refine goGb_d ?_ ?_ | refine goGb_split ?_ ?_ | refine goDGb_b ?_ ?_ | refine goDGb_n ?_ ?_ | refine goDGb_d ?_ ?_ | refine goDGb_split ?_ ?_) <;> intro h
   | ((first | refine goCall_norm ?_ | refine goDCall_norm ?_); simp only [AV.norm, AV.normL, W2, W2B, Go.Ab.W3, Int.reduceAdd, Int.reduceLT, Int.reduceToNat, Int.reduceBEq, Int.reduceBNe, Int.reduceLE, hk, hml, hG, hm, emb_bel, retD_ret, retD_normal]; first  | refine goDCall_q rfl (qcalls_of i1 (hG _) rfl) (.inl rfl) ?_ | refine goDCall_q rfl (qcalls_of i2 (hG _) rfl) (.inl rfl) ?_)
   | refine go_drawF (id := 12) C_ok (fun _ => trivial) mixed 0 Try.f38.ntmps (by first | (simp; done) | (simp; omega)) rfl (by kernel_rfl) (by decide) ?_
   | refine goRound ?_ C_ok Try.f38.ntmps rfl (by decide)
   | skip) <;> simp only [h, ↓upd_eq, ↓envL_cons, Go.Ab.W0, Go.Ab.WD, if_true, if_false, reduceIte, Nat.reduceEqDiff, Nat.reduceAdd, Nat.reduceLT, Nat.reduceLeDiff, reduceCtorEq, Nat.reduceMul, implies_true, forall_eq_or_imp, forall_eq, Nat.reducePow, W1, W1B, fs_frz, fs_frz0, fs_env, fs_b, fs_n, fs_put, fs_put0, fs_tmp, fs_const, fs_func, fs_obj, fs_setObj, fs_new, fs_next, fs_mk, fs_H, le_app, le_set, app_get, app_set, app_get0c, app_getkc, app_set0c, app_setkc, List.append_assoc, not_false_eq_true, not_true_eq_false, retE_ret, retP_ret, List.length_append, List.length_set, Nat.le_succ, Go.Ab.W3, Int.reduceAdd, Int.reduceLT, Int.reduceToNat, Int.reduceBEq, Int.reduceBNe, Int.reduceLE, hk, hml, hG, hm, emb_bel, retD_ret, retD_normal, cutNormal_normal]
  all_goals exact List.take_left' rfl
theorem sput_one' (k : Int) (hk : (k == 6) = false) {x x' : Ty} (i1 : SPut l M mr x x') : SPut l M mr (.mk k 0 [x]) (.mk k 0 [x']) := by
  intro F hm
  unfold DCalls
  have hml := get_lt hm
  have hG : ∀ J, (F ++ J)[mr]? = some (.map (embM M)) := fun J => by rw [List.getElem?_append_left hml]; exact hm
  refine acallsD_text C_ok Try.func38 rfl (by decide) (Nat.le_of_ble_eq_true rfl) (by decide) fun ok => ?_
  rw [Try.results38]
  have h := True.intro
  repeat' (first
   | (with_reducible first | refine goIf_b ?_ ?_ | refine goIf_n ?_ ?_ | refine goIf_d ?_ ?_ | refine goIf_split ?_ ?_ | refine goGb_b ?_ ?_ | refine goGb_n ?_ ?_ | refine goGb_d ?_ ?_ | refine goGb_split ?_ ?_ | refine goDGb_b ?_ ?_ | refine goDGb_n ?_ ?_ | refine goDGb_d ?_ ?_ | refine goDGb_split ?_ ?_) <;> intro h
   | ((first | refine goCall_norm ?_ | refine goDCall_norm ?_); simp only [AV.norm, AV.normL, W2, W2B, Go.Ab.W3, Int.reduceAdd, Int.reduceLT, Int.reduceToNat, Int.reduceBEq, Int.reduceBNe, Int.reduceLE, hk, hml, hG, hm, emb_bel, retD_ret, retD_normal]; first  | refine goDCall_q rfl (qcalls_of i1 (hG _) rfl) (.inl rfl) ?_)
   | refine go_drawF (id := 12) C_ok (fun _ => trivial) mixed 0 Try.f38.ntmps (by first | (simp; done) | (simp; omega)) rfl (by kernel_rfl) (by decide) ?_
   | refine goRound ?_ C_ok Try.f38.ntmps rfl (by decide)
   | skip) <;> simp only [h, ↓upd_eq, ↓envL_cons, Go.Ab.W0, Go.Ab.WD, if_true, if_false, reduceIte, Nat.reduceEqDiff, Nat.reduceAdd, Nat.reduceLT, Nat.reduceLeDiff, reduceCtorEq, Nat.reduceMul, implies_true, forall_eq_or_imp, forall_eq, Nat.reducePow, W1, W1B, fs_frz, fs_frz0, fs_env, fs_b, fs_n, fs_put, fs_put0, fs_tmp, fs_const, fs_func, fs_obj, fs_setObj, fs_new, fs_next, fs_mk, fs_H, le_app, le_set, app_get, app_set, app_get0c, app_getkc, app_set0c, app_setkc, List.append_assoc, not_false_eq_true, not_true_eq_false, retE_ret, retP_ret, List.length_append, List.length_set, Nat.le_succ, Go.Ab.W3, Int.reduceAdd, Int.reduceLT, Int.reduceToNat, Int.reduceBEq, Int.reduceBNe, Int.reduceLE, hk, hml, hG, hm, emb_bel, retD_ret, retD_normal, cutNormal_normal]
  all_goals exact List.take_left' rfl
theorem sput_var (hM : ∀ n i, mget M n = some i → ∃ k : Nat, i = k ∧ k < l.length) (n : Int) : SPut l M mr (.mk 6 n []) (putM l M (.var n)) := by
  intro F hm
  unfold DCalls
  have hml := get_lt hm
  have hG : ∀ J, (F ++ J)[mr]? = some (.map (embM M)) := fun J => by rw [List.getElem?_append_left hml]; exact hm
  cases hg : mget M n with
  | none =>
    have hp : putM l M (.var n) = .mk 6 n [] := by simp [putM, hg]
    rw [hp]
    refine acallsD_text C_ok Try.func38 rfl (by decide) (Nat.le_of_ble_eq_true rfl) (by decide) fun ok => ?_
    rw [Try.results38]
    have h := True.intro
    repeat' (first
     | (with_reducible first | refine goIf_b ?_ ?_ | refine goIf_n ?_ ?_ | refine goIf_d ?_ ?_ | refine goIf_split ?_ ?_ | refine goGb_b ?_ ?_ | refine goGb_n ?_ ?_ | refine goGb_d ?_ ?_ | refine goGb_split ?_ ?_ | refine goDGb_b ?_ ?_ | refine goDGb_n ?_ ?_ | refine goDGb_d ?_ ?_ | refine goDGb_split ?_ ?_) <;> intro h
     | refine go_drawF (id := 12) C_ok (fun _ => trivial) mixed 0 Try.f38.ntmps (by first | (simp; done) | (simp; omega)) rfl (by kernel_rfl) (by decide) ?_
     | refine goRound ?_ C_ok Try.f38.ntmps rfl (by decide)
     | skip) <;> simp only [h, ↓upd_eq, ↓envL_cons, Go.Ab.W0, Go.Ab.WD, if_true, if_false, reduceIte, Nat.reduceEqDiff, Nat.reduceAdd, Nat.reduceLT, Nat.reduceLeDiff, reduceCtorEq, Nat.reduceMul, implies_true, forall_eq_or_imp, forall_eq, Nat.reducePow, W1, W1B, fs_frz, fs_frz0, fs_env, fs_b, fs_n, fs_put, fs_put0, fs_tmp, fs_const, fs_func, fs_obj, fs_setObj, fs_new, fs_next, fs_mk, fs_H, le_app, le_set, app_get, app_set, app_get0c, app_getkc, app_set0c, app_setkc, List.append_assoc, not_false_eq_true, not_true_eq_false, retE_ret, retP_ret, List.length_append, List.length_set, Nat.le_succ, Go.Ab.W3, Int.reduceAdd, Int.reduceLT, Int.reduceToNat, Int.reduceBEq, Int.reduceBNe, Int.reduceLE, hml, hG, hm, findA_m, foundOr_m, mfind_some, keyOK, hg, Option.getD_none, Option.isSome_none, emb_bel, retD_ret, retD_normal, cutNormal_normal]
    all_goals exact List.take_left' rfl
  | some i =>
    obtain ⟨k, rfl, hk⟩ := hM n i hg
    have hp : putM l M (.var n) = (l.getD k default).2 := by simp [putM, hg]
    rw [hp]
    have hb := mapB_get hk
    generalize l.getD k default = p at *
    refine acallsD_text C_ok Try.func38 rfl (by decide) (Nat.le_of_ble_eq_true rfl) (by decide) fun ok => ?_
    rw [Try.results38]
    have h := True.intro
    repeat' (first
     | (with_reducible first | refine goIf_b ?_ ?_ | refine goIf_n ?_ ?_ | refine goIf_d ?_ ?_ | refine goIf_split ?_ ?_ | refine goGb_b ?_ ?_ | refine goGb_n ?_ ?_ | refine goGb_d ?_ ?_ | refine goGb_split ?_ ?_ | refine goDGb_b ?_ ?_ | refine goDGb_n ?_ ?_ | refine goDGb_d ?_ ?_ | refine goDGb_split ?_ ?_) <;> intro h
     | refine go_drawF (id := 12) C_ok (fun _ => trivial) mixed 0 Try.f38.ntmps (by first | (simp; done) | (simp; omega)) rfl (by kernel_rfl) (by decide) ?_
     | refine goRound ?_ C_ok Try.f38.ntmps rfl (by decide)
     | skip) <;> simp only [h, ↓upd_eq, ↓envL_cons, Go.Ab.W0, Go.Ab.WD, if_true, if_false, reduceIte, Nat.reduceEqDiff, Nat.reduceAdd, Nat.reduceLT, Nat.reduceLeDiff, reduceCtorEq, Nat.reduceMul, implies_true, forall_eq_or_imp, forall_eq, Nat.reducePow, W1, W1B, fs_frz, fs_frz0, fs_env, fs_b, fs_n, fs_put, fs_put0, fs_tmp, fs_const, fs_func, fs_obj, fs_setObj, fs_new, fs_next, fs_mk, fs_H, le_app, le_set, app_get, app_set, app_get0c, app_getkc, app_set0c, app_setkc, List.append_assoc, not_false_eq_true, not_true_eq_false, retE_ret, retP_ret, List.length_append, List.length_set, Nat.le_succ, Go.Ab.W3, Int.reduceAdd, Int.reduceLT, Int.reduceToNat, Int.reduceBEq, Int.reduceBNe, Int.reduceLE, hml, hG, hm, findA_m, foundOr_m, mfind_some, keyOK, hg, hk, hb, Option.getD_some, Option.isSome_some, List.length_map, emb_bel, retD_ret, retD_normal, cutNormal_normal]
    all_goals exact List.take_left' rfl
theorem scput_ok (hM : ∀ n i, mget M n = some i → ∃ k : Nat, i = k ∧ k < l.length) : ∀ t : T, SPut l M mr t.ty (putM l M t) := by
  intro t
  induction t with
  | base k => exact sput_leaf' _ (by rw [beq_eq_false_iff_ne]; have := k.isLt; omega)
  | dyn => exact sput_leaf' 5 rfl
  | var n => exact sput_var hM n
  | pair a b ih1 ih2 => exact sput_two' 7 rfl ih1 ih2
  | fn a b ih1 ih2 => exact sput_two' 9 rfl ih1 ih2
  | list a ih1 => exact sput_one' 8 rfl ih1
end

end Go.Proofs.Ytpkdbhlpndibkaa
