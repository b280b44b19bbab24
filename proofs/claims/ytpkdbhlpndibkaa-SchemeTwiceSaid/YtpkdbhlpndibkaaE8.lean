/- Walks: what the statements' witness asks of a graph. No condition. -/
import Derived.Test.YtpkdbhlpndibkaaE7
set_option linter.unusedSimpArgs false
set_option linter.unusedVariables false
set_option maxHeartbeats 4000000
set_option maxRecDepth 100000
namespace Go.Proofs.Ytpkdbhlpndibkaa
open Go Go.Ab
attribute [local irreducible] PCalls ACalls CallK GoCall GoDCall GoIf GoGb GoDGb GoO GoD GoX GoDX GoG GoDG GoGv GoDGv Go ALoop

section
variable {F : List AObj} {g q c a b d : Nat} {x3 x6 : AObj}
def stA (s0 s1 : Int) : AObj := .arr 0 1 [.int .i64 s0, .int .i64 s1]
theorem gopen_0 (hD : SixD F g q c a b d) (v : Nat) (A B : List (Int × Int)) :
    DCalls Try.prog 42 [.bptr g 0, .int .i64 0, .ms d 0 2] (hpG F g q c a b d v [(0, 1), (1, 1)] A B x3 (stA 0 0)) (.bool true) (hpG F g q c a b d v [(0, 1), (1, 1)] A B x3 (stA 0 2)) := by
  have hP := sixP hD
  have hmk : ∀ x y : Int, embG (x, y) = emb (.mk x y []) := fun _ _ => rfl
  have g00 : ((0 : Int) > 0) = False := by simp
  have g20 : ((2 : Int) > 0) = True := by simp
  have qr := fun F hD => groot_step (F := F) (g := g) (q := q) (c := c) (a := a) (b := b) (d := d) (x3 := x3) (x6 := stA 0 0) hD v [(0, 1), (1, 1)] A B 0 1 (by decide) (by decide) (by decide) rfl rfl
  unfold stA at *
  unfold DCalls
  refine acallsD_text C_ok Try.func42 rfl (by decide) (Nat.le_of_ble_eq_true rfl) (by decide) fun ok => ?_
  rw [Try.results42]
  have h := True.intro
  repeat' (first
   | (with_reducible first | refine goIf_b ?_ ?_ | refine goIf_n ?_ ?_ | refine goIf_d ?_ ?_ | refine goIf_split ?_ ?_ | refine goGb_b ?_ ?_ | refine goGb_n ?_ ?_ | refine goGb_d ?_ ?_ | refine goGb_split ?_ ?_ | refine goDGb_b ?_ ?_ | refine goDGb_n ?_ ?_ | refine goDGb_d ?_ ?_ | refine goDGb_split ?_ ?_) <;> intro h
   | ((first | refine goCall_norm ?_ | refine goDCall_norm ?_); simp only [AV.norm, AV.normL, W2, W2B, Go.Ab.W3, Int.reduceAdd, Int.reduceLT, Int.reduceToNat, Int.reduceBEq, Int.reduceBNe, Int.reduceLE, hpG, hP, hmk, g00, g20, List.map_cons, List.map_nil, List.length_map, emb_bel, emb_cells, AV.belL, AV.bel, implies_true, retD_ret, retD_normal]; first  | refine fsCallD (qr _ (by first | exact hD | exact hD.app _)) (.inl rfl) (fun hb => grB (by first | exact hD | exact hD.app _) hb) ?_)
   | refine goRound ?_ C_ok Try.f42.ntmps rfl (by decide)
   | skip) <;> simp only [h, ↓upd_eq, ↓envL_cons, Go.Ab.W0, Go.Ab.WD, if_true, if_false, reduceIte, Nat.reduceEqDiff, Nat.reduceAdd, Nat.reduceLT, Nat.reduceLeDiff, reduceCtorEq, Nat.reduceMul, implies_true, forall_eq_or_imp, forall_eq, Nat.reducePow, W1, W1B, fs_frz, fs_frz0, fs_env, fs_b, fs_n, fs_put, fs_put0, fs_tmp, fs_const, fs_func, fs_obj, fs_setObj, fs_new, fs_next, fs_mk, fs_H, le_app, le_set, app_get, app_set, app_get0c, app_getkc, app_set0c, app_setkc, List.append_assoc, not_false_eq_true, not_true_eq_false, retE_ret, retP_ret, List.length_append, List.length_set, Nat.le_succ, Go.Ab.W3, Int.reduceAdd, Int.reduceLT, Int.reduceToNat, Int.reduceBEq, Int.reduceBNe, Int.reduceLE, hpG, hP, hmk, g00, g20, List.map_cons, List.map_nil, List.length_map, emb_bel, emb_cells, AV.belL, AV.bel, implies_true, retD_ret, retD_normal, cutNormal_normal]
  all_goals first | rfl | trace_state
theorem gopen_1 (hD : SixD F g q c a b d) (v : Nat) (A B : List (Int × Int)) :
    DCalls Try.prog 42 [.bptr g 0, .int .i64 1, .ms d 0 2] (hpG F g q c a b d v [(0, 1), (1, 1)] A B x3 (stA 0 2)) (.bool true) (hpG F g q c a b d v [(0, 1), (1, 1)] A B x3 (stA 0 2)) := by
  have hP := sixP hD
  have hmk : ∀ x y : Int, embG (x, y) = emb (.mk x y []) := fun _ _ => rfl
  have g00 : ((0 : Int) > 0) = False := by simp
  have g20 : ((2 : Int) > 0) = True := by simp
  have qr := fun F hD => groot_self (F := F) (g := g) (q := q) (c := c) (a := a) (b := b) (d := d) (x3 := x3) (x6 := stA 0 2) hD v [(0, 1), (1, 1)] A B 1 (by decide) rfl
  unfold stA at *
  unfold DCalls
  refine acallsD_text C_ok Try.func42 rfl (by decide) (Nat.le_of_ble_eq_true rfl) (by decide) fun ok => ?_
  rw [Try.results42]
  have h := True.intro
  repeat' (first
   | (with_reducible first | refine goIf_b ?_ ?_ | refine goIf_n ?_ ?_ | refine goIf_d ?_ ?_ | refine goIf_split ?_ ?_ | refine goGb_b ?_ ?_ | refine goGb_n ?_ ?_ | refine goGb_d ?_ ?_ | refine goGb_split ?_ ?_ | refine goDGb_b ?_ ?_ | refine goDGb_n ?_ ?_ | refine goDGb_d ?_ ?_ | refine goDGb_split ?_ ?_) <;> intro h
   | ((first | refine goCall_norm ?_ | refine goDCall_norm ?_); simp only [AV.norm, AV.normL, W2, W2B, Go.Ab.W3, Int.reduceAdd, Int.reduceLT, Int.reduceToNat, Int.reduceBEq, Int.reduceBNe, Int.reduceLE, hpG, hP, hmk, g00, g20, List.map_cons, List.map_nil, List.length_map, emb_bel, emb_cells, AV.belL, AV.bel, implies_true, retD_ret, retD_normal]; first  | refine fsCallD (qr _ (by first | exact hD | exact hD.app _)) (.inl rfl) (fun hb => grB (by first | exact hD | exact hD.app _) hb) ?_)
   | refine goRound ?_ C_ok Try.f42.ntmps rfl (by decide)
   | skip) <;> simp only [h, ↓upd_eq, ↓envL_cons, Go.Ab.W0, Go.Ab.WD, if_true, if_false, reduceIte, Nat.reduceEqDiff, Nat.reduceAdd, Nat.reduceLT, Nat.reduceLeDiff, reduceCtorEq, Nat.reduceMul, implies_true, forall_eq_or_imp, forall_eq, Nat.reducePow, W1, W1B, fs_frz, fs_frz0, fs_env, fs_b, fs_n, fs_put, fs_put0, fs_tmp, fs_const, fs_func, fs_obj, fs_setObj, fs_new, fs_next, fs_mk, fs_H, le_app, le_set, app_get, app_set, app_get0c, app_getkc, app_set0c, app_setkc, List.append_assoc, not_false_eq_true, not_true_eq_false, retE_ret, retP_ret, List.length_append, List.length_set, Nat.le_succ, Go.Ab.W3, Int.reduceAdd, Int.reduceLT, Int.reduceToNat, Int.reduceBEq, Int.reduceBNe, Int.reduceLE, hpG, hP, hmk, g00, g20, List.map_cons, List.map_nil, List.length_map, emb_bel, emb_cells, AV.belL, AV.bel, implies_true, retD_ret, retD_normal, cutNormal_normal]
  all_goals first | rfl | trace_state
def CZB : Cfg := { C with zfr := some (0, 0), zld := [(5, 3), (37, 1)] }
theorem CZB_ok : CfgOK Try.prog CZB := C_ok
theorem CZB_ty (t : Nat) : CZB.ty t = C.ty t := rfl
theorem CZB_inpl (t : Nat) : CZB.inpl t = false := rfl
theorem zld_CZB (s : AState) : ZLd CZB s = ∃ r0, s.env 0 = .bptr r0 0 ∧ LdOK r0 0 (s.env 5) 3 ∧ LdOK r0 0 (s.env 37) 1 := by simp [ZLd, CZB]
theorem gbelow_dyn (hD : SixD F g q c a b d) (t : Ty) (v : Nat) (N : List GN) (A B : List (Int × Int)) :
    DCalls Try.prog 41 [.bptr g 0, emb t, emb (.mk 5 0 [])] (hpG F g q c a b d v N A B x3 x6) (.bool true) (hpG F g q c a b d v N A B x3 x6) := by
  have hP := sixP hD
  unfold DCalls
  refine acallsD_text CZB_ok Try.func41 rfl (by decide) (Nat.le_of_ble_eq_true rfl) (by decide) fun ok => ?_
  rw [Try.results41]
  have h := True.intro
  repeat' (first
   | (with_reducible first | refine goIf_b ?_ ?_ | refine goIf_n ?_ ?_ | refine goIf_d ?_ ?_ | refine goIf_split ?_ ?_ | refine goGb_b ?_ ?_ | refine goGb_n ?_ ?_ | refine goGb_d ?_ ?_ | refine goGb_split ?_ ?_ | refine goDGb_b ?_ ?_ | refine goDGb_n ?_ ?_ | refine goDGb_d ?_ ?_ | refine goDGb_split ?_ ?_) <;> intro h
   | refine go_drawFZ (id := 4) CZB_ok mixed [] 0 Try.f41.ntmps (by first | (simp; done) | (simp; omega)) rfl (by kernel_rfl) (by decide) ?_
   | refine go_drawFZ (id := 10) CZB_ok mixed [] 0 Try.f41.ntmps (by first | (simp; done) | (simp; omega)) rfl (by kernel_rfl) (by decide) ?_
   | refine goRound ?_ CZB_ok Try.f41.ntmps rfl (by decide)
   | skip) <;> simp only [h, ↓upd_eq, ↓envL_cons, Go.Ab.W0, Go.Ab.WD, if_true, if_false, reduceIte, Nat.reduceEqDiff, Nat.reduceAdd, Nat.reduceLT, Nat.reduceLeDiff, reduceCtorEq, Nat.reduceMul, implies_true, forall_eq_or_imp, forall_eq, Nat.reducePow, W1, W1B, fs_frz, fs_frz0, fs_env, fs_b, fs_n, fs_put, fs_put0, fs_tmp, fs_const, fs_func, fs_obj, fs_setObj, fs_new, fs_next, fs_mk, fs_H, le_app, le_set, app_get, app_set, app_get0c, app_getkc, app_set0c, app_setkc, List.append_assoc, not_false_eq_true, not_true_eq_false, retE_ret, retP_ret, List.length_append, List.length_set, Nat.le_succ, Go.Ab.W3, Int.reduceAdd, Int.reduceLT, Int.reduceToNat, Int.reduceBEq, Int.reduceBNe, Int.reduceLE, CZB_ty, CZB_inpl, hpG, hP, emb_bel, emb_cells, AV.belL, AV.bel, retD_ret, retD_normal, cutNormal_normal]
  all_goals first | rfl | trace_state
theorem gbelow_no (hD : SixD F g q c a b d) (n : Int) (v : Nat) (N : List GN) (A B : List (Int × Int)) :
    DCalls Try.prog 41 [.bptr g 0, emb (.mk 5 0 []), emb (.mk 6 n [])] (hpG F g q c a b d v N A B x3 x6) (.bool false) (hpG F g q c a b d v N A B x3 x6) := by
  have hP := sixP hD
  have hst := static_ok (.mk 5 0 [])
  rw [show without 5 (.mk 5 0 []) = false from by decide] at hst
  have hgl := hD.hs
  have f0 : (F.length = g) = False := by simp only [eq_iff_iff, iff_false]; omega
  have f1 : ∀ k, (F.length + k = g) = False := fun k => by simp only [eq_iff_iff, iff_false]; omega
  unfold DCalls
  refine acallsD_text CZB_ok Try.func41 rfl (by decide) (Nat.le_of_ble_eq_true rfl) (by decide) fun ok => ?_
  rw [Try.results41]
  have h := True.intro
  repeat' (first
   | (with_reducible first | refine goIf_b ?_ ?_ | refine goIf_n ?_ ?_ | refine goIf_d ?_ ?_ | refine goIf_split ?_ ?_ | refine goGb_b ?_ ?_ | refine goGb_n ?_ ?_ | refine goGb_d ?_ ?_ | refine goGb_split ?_ ?_ | refine goDGb_b ?_ ?_ | refine goDGb_n ?_ ?_ | refine goDGb_d ?_ ?_ | refine goDGb_split ?_ ?_) <;> intro h
   | ((first | refine goCall_norm ?_ | refine goDCall_norm ?_); simp only [AV.norm, AV.normL, W2, W2B, Go.Ab.W3, Int.reduceAdd, Int.reduceLT, Int.reduceToNat, Int.reduceBEq, Int.reduceBNe, Int.reduceLE, CZB_ty, CZB_inpl, zld_CZB, exB, exB0, ldOK_b, ldOK_t, f0, f1, hpG, hP, emb_bel, emb_cells, AV.belL, AV.bel, retD_ret, retD_normal]; first | refine goCall_p (hst) (.inl rfl) ?_ | refine goDCall_p (hst) (.inl rfl) ?_)
   | refine go_drawFZ (id := 4) CZB_ok mixed [] 0 Try.f41.ntmps (by first | (simp; done) | (simp; omega)) rfl (by kernel_rfl) (by decide) ?_
   | refine go_drawFZ (id := 10) CZB_ok mixed [] 0 Try.f41.ntmps (by first | (simp; done) | (simp; omega)) rfl (by kernel_rfl) (by decide) ?_
   | refine goRound ?_ CZB_ok Try.f41.ntmps rfl (by decide)
   | skip) <;> simp only [h, ↓upd_eq, ↓envL_cons, Go.Ab.W0, Go.Ab.WD, if_true, if_false, reduceIte, Nat.reduceEqDiff, Nat.reduceAdd, Nat.reduceLT, Nat.reduceLeDiff, reduceCtorEq, Nat.reduceMul, implies_true, forall_eq_or_imp, forall_eq, Nat.reducePow, W1, W1B, fs_frz, fs_frz0, fs_env, fs_b, fs_n, fs_put, fs_put0, fs_tmp, fs_const, fs_func, fs_obj, fs_setObj, fs_new, fs_next, fs_mk, fs_H, le_app, le_set, app_get, app_set, app_get0c, app_getkc, app_set0c, app_setkc, List.append_assoc, not_false_eq_true, not_true_eq_false, retE_ret, retP_ret, List.length_append, List.length_set, Nat.le_succ, Go.Ab.W3, Int.reduceAdd, Int.reduceLT, Int.reduceToNat, Int.reduceBEq, Int.reduceBNe, Int.reduceLE, CZB_ty, CZB_inpl, zld_CZB, exB, exB0, ldOK_b, ldOK_t, f0, f1, hpG, hP, emb_bel, emb_cells, AV.belL, AV.bel, retD_ret, retD_normal, cutNormal_normal]
  all_goals first | rfl | trace_state
theorem gbelow_int (hD : SixD F g q c a b d) (v : Nat) (A B : List (Int × Int)) (hA : mget A 4 = none) :
    DCalls Try.prog 41 [.bptr g 0, emb (.mk 6 4 []), emb (.mk 1 0 [])] (hpG F g q c a b d v [] A B x3 x6) (.bool true) (hpG F g q c a b d (v + 1 + 1) [(0, 1), (1, 1)] (mput A 4 0) B x3 x6) := by
  have hP := sixP hD
  have hst := static_ok (.mk 6 4 [])
  rw [show without 5 (.mk 6 4 []) = true from by decide] at hst
  have hgl := hD.hs
  have f0 : (F.length = g) = False := by simp only [eq_iff_iff, iff_false]; omega
  have f1 : ∀ k, (F.length + k = g) = False := fun k => by simp only [eq_iff_iff, iff_false]; omega
  have p1 := fun F hD => gput_var (F := F) (g := g) (q := q) (c := c) (a := a) (b := b) (d := d) (x3 := x3) (x6 := x6) hD 4 v [] A B (by simp) hA
  have p2 := fun F hD => gput_leaf (F := F) (g := g) (q := q) (c := c) (a := a) (b := b) (d := d) (x3 := x3) (x6 := x6) hD 1 rfl rfl (v + 1) [(0, 0)] (mput A 4 0) B (by simp) b
  have p3 := fun F hD => gsame_01 (F := F) (g := g) (q := q) (c := c) (a := a) (b := b) (d := d) (x3 := x3) (x6 := x6) hD (v + 1 + 1) (mput A 4 0) B
  simp only [List.nil_append, List.length_nil, Int.natCast_zero, List.length_cons, Nat.zero_add, Int.natCast_one, List.cons_append] at p1 p2
  have hmk : ∀ x y : Int, embG (x, y) = emb (.mk x y []) := fun _ _ => rfl
  unfold DCalls
  refine acallsD_text CZB_ok Try.func41 rfl (by decide) (Nat.le_of_ble_eq_true rfl) (by decide) fun ok => ?_
  rw [Try.results41]
  have h := True.intro
  repeat' (first
   | (with_reducible first | refine goIf_b ?_ ?_ | refine goIf_n ?_ ?_ | refine goIf_d ?_ ?_ | refine goIf_split ?_ ?_ | refine goGb_b ?_ ?_ | refine goGb_n ?_ ?_ | refine goGb_d ?_ ?_ | refine goGb_split ?_ ?_ | refine goDGb_b ?_ ?_ | refine goDGb_n ?_ ?_ | refine goDGb_d ?_ ?_ | refine goDGb_split ?_ ?_) <;> intro h
   | ((first | refine goCall_norm ?_ | refine goDCall_norm ?_); simp only [AV.norm, AV.normL, W2, W2B, Go.Ab.W3, Int.reduceAdd, Int.reduceLT, Int.reduceToNat, Int.reduceBEq, Int.reduceBNe, Int.reduceLE, CZB_ty, CZB_inpl, zld_CZB, exB, exB0, ldOK_b, ldOK_t, f0, f1, hpG, hP, hmk, List.map_cons, List.map_nil, emb_bel, emb_cells, AV.belL, AV.bel, implies_true, retD_ret, retD_normal]; first | refine goCall_p (hst) (.inl rfl) ?_ | refine goDCall_p (hst) (.inl rfl) ?_ | refine goDCall_z rfl (zfrI rfl rfl (grBag (hD.app _))) (p1 _ (hD.app _)) (.inl rfl) (fun hb => grB (hD.app _) hb) ?_ | refine goDCall_z rfl (zfrI rfl rfl (grBag hD)) (p1 _ hD) (.inl rfl) (fun hb => grB hD hb) ?_ | refine goDCall_z rfl (zfrI rfl rfl (grBag (hD.app _))) (p2 _ (hD.app _)) (.inl rfl) (fun hb => grB (hD.app _) hb) ?_ | refine goDCall_z rfl (zfrI rfl rfl (grBag hD)) (p2 _ hD) (.inl rfl) (fun hb => grB hD hb) ?_ | refine goDCall_z rfl (zfrI rfl rfl (grBag (hD.app _))) (p3 _ (hD.app _)) (.inl rfl) (fun hb => grB (hD.app _) hb) ?_ | refine goDCall_z rfl (zfrI rfl rfl (grBag hD)) (p3 _ hD) (.inl rfl) (fun hb => grB hD hb) ?_)
   | refine go_drawFZ (id := 4) CZB_ok mixed [] 0 Try.f41.ntmps (by first | (simp; done) | (simp; omega)) rfl (by kernel_rfl) (by decide) ?_
   | refine go_drawFZ (id := 10) CZB_ok mixed [] 0 Try.f41.ntmps (by first | (simp; done) | (simp; omega)) rfl (by kernel_rfl) (by decide) ?_
   | refine goRound ?_ CZB_ok Try.f41.ntmps rfl (by decide)
   | skip) <;> simp only [h, ↓upd_eq, ↓envL_cons, Go.Ab.W0, Go.Ab.WD, if_true, if_false, reduceIte, Nat.reduceEqDiff, Nat.reduceAdd, Nat.reduceLT, Nat.reduceLeDiff, reduceCtorEq, Nat.reduceMul, implies_true, forall_eq_or_imp, forall_eq, Nat.reducePow, W1, W1B, fs_frz, fs_frz0, fs_env, fs_b, fs_n, fs_put, fs_put0, fs_tmp, fs_const, fs_func, fs_obj, fs_setObj, fs_new, fs_next, fs_mk, fs_H, le_app, le_set, app_get, app_set, app_get0c, app_getkc, app_set0c, app_setkc, List.append_assoc, not_false_eq_true, not_true_eq_false, retE_ret, retP_ret, List.length_append, List.length_set, Nat.le_succ, Go.Ab.W3, Int.reduceAdd, Int.reduceLT, Int.reduceToNat, Int.reduceBEq, Int.reduceBNe, Int.reduceLE, CZB_ty, CZB_inpl, zld_CZB, exB, exB0, ldOK_b, ldOK_t, f0, f1, hpG, hP, hmk, List.map_cons, List.map_nil, emb_bel, emb_cells, AV.belL, AV.bel, implies_true, retD_ret, retD_normal, cutNormal_normal]
  all_goals first | rfl | trace_state
end

end Go.Proofs.Ytpkdbhlpndibkaa
