/- Walks: a graph: leaves and variables put, made the same, gone through. No condition. -/
import Derived.Test.YtpkdbhlpndibkaaE6
set_option linter.unusedSimpArgs false
set_option linter.unusedVariables false
set_option maxHeartbeats 4000000
set_option maxRecDepth 100000
namespace Go.Proofs.Ytpkdbhlpndibkaa
open Go Go.Ab
attribute [local irreducible] PCalls ACalls CallK GoCall GoDCall GoIf GoGb GoDGb GoO GoD GoX GoDX GoG GoDG GoGv GoDGv Go ALoop

section
variable {F : List AObj} {g q c a b d : Nat} {x3 x6 : AObj}
theorem gput_leaf (hD : SixD F g q c a b d) (k : Int) (h5 : (k == 5) = false) (h6 : (k == 6) = false) (v : Nat) (N : List GN) (A B : List (Int × Int)) (hN : N.length ≤ 1000) (m : Nat) :
    DCalls Try.prog 59 [.bptr g 0, emb (.mk k 0 []), .mp m] (hpG F g q c a b d v N A B x3 x6) (.int .i64 N.length) (hpG F g q c a b d (v + 1) (N ++ [(k, (N.length : Int))]) A B x3 x6) := by
  have hP := sixP hD
  have qm := fun F hD => gmake_ok (F := F) (g := g) (q := q) (c := c) (a := a) (b := b) (d := d) (x3 := x3) (x6 := x6) hD k v N A B hN
  unfold DCalls
  refine acallsD_text C_ok Try.func59 rfl (by decide) (Nat.le_of_ble_eq_true rfl) (by decide) fun ok => ?_
  rw [Try.results59]
  have h := True.intro
  repeat' (first
   | (with_reducible first | refine goIf_b ?_ ?_ | refine goIf_n ?_ ?_ | refine goIf_d ?_ ?_ | refine goIf_split ?_ ?_ | refine goGb_b ?_ ?_ | refine goGb_n ?_ ?_ | refine goGb_d ?_ ?_ | refine goGb_split ?_ ?_ | refine goDGb_b ?_ ?_ | refine goDGb_n ?_ ?_ | refine goDGb_d ?_ ?_ | refine goDGb_split ?_ ?_) <;> intro h
   | ((first | refine goCall_norm ?_ | refine goDCall_norm ?_); simp only [AV.norm, AV.normL, W2, W2B, Go.Ab.W3, Int.reduceAdd, Int.reduceLT, Int.reduceToNat, Int.reduceBEq, Int.reduceBNe, Int.reduceLE, hpG, hP, h5, h6, List.length_map, emb_bel, AV.belL, AV.bel, retD_ret, retD_normal]; first  | refine fsCallD (qm _ (by first | exact hD | exact hD.app _)) (.inl rfl) (fun hb => grB (by first | exact hD | exact hD.app _) hb) ?_)
   | refine go_drawF (id := 7) C_ok (fun _ => trivial) mixed 0 Try.f59.ntmps (by first | (simp; done) | (simp; omega)) rfl (by kernel_rfl) (by decide) ?_
   | refine goRound ?_ C_ok Try.f59.ntmps rfl (by decide)
   | skip) <;> simp only [h, ↓upd_eq, ↓envL_cons, Go.Ab.W0, Go.Ab.WD, if_true, if_false, reduceIte, Nat.reduceEqDiff, Nat.reduceAdd, Nat.reduceLT, Nat.reduceLeDiff, reduceCtorEq, Nat.reduceMul, implies_true, forall_eq_or_imp, forall_eq, Nat.reducePow, W1, W1B, fs_frz, fs_frz0, fs_env, fs_b, fs_n, fs_put, fs_put0, fs_tmp, fs_const, fs_func, fs_obj, fs_setObj, fs_new, fs_next, fs_mk, fs_H, le_app, le_set, app_get, app_set, app_get0c, app_getkc, app_set0c, app_setkc, List.append_assoc, not_false_eq_true, not_true_eq_false, retE_ret, retP_ret, List.length_append, List.length_set, Nat.le_succ, Go.Ab.W3, Int.reduceAdd, Int.reduceLT, Int.reduceToNat, Int.reduceBEq, Int.reduceBNe, Int.reduceLE, hpG, hP, h5, h6, List.length_map, emb_bel, AV.belL, AV.bel, retD_ret, retD_normal, cutNormal_normal]
  all_goals rfl
def CZP : Cfg := { C with zfr := some (0, 0), zld := [(30, 1)] }
theorem CZP_ok : CfgOK Try.prog CZP := C_ok
theorem CZP_ty (t : Nat) : CZP.ty t = C.ty t := rfl
theorem CZP_inpl (t : Nat) : CZP.inpl t = false := rfl
theorem zld_CZP (s : AState) : ZLd CZP s = ∃ r0, s.env 0 = .bptr r0 0 ∧ LdOK r0 0 (s.env 30) 1 := by simp [ZLd, CZP]
theorem gput_var (hD : SixD F g q c a b d) (n : Int) (v : Nat) (N : List GN) (A B : List (Int × Int)) (hN : N.length ≤ 1000) (hA : mget A n = none) :
    DCalls Try.prog 59 [.bptr g 0, emb (.mk 6 n []), .mp a] (hpG F g q c a b d v N A B x3 x6) (.int .i64 N.length) (hpG F g q c a b d (v + 1) (N ++ [(0, (N.length : Int))]) (mput A n N.length) B x3 x6) := by
  have hP := sixP hD
  have qm := fun F hD => gmake_ok (F := F) (g := g) (q := q) (c := c) (a := a) (b := b) (d := d) (x3 := x3) (x6 := x6) hD 0 v N A B hN
  have hg2 : mget (mput A n N.length) n = some (N.length : Int) := by rw [mget_put, if_pos rfl]
  have hgl := hD.hs
  have f0 : (F.length = g) = False := by simp only [eq_iff_iff, iff_false]; omega
  unfold DCalls
  refine acallsD_text CZP_ok Try.func59 rfl (by decide) (Nat.le_of_ble_eq_true rfl) (by decide) fun ok => ?_
  rw [Try.results59]
  have h := True.intro
  repeat' (first
   | (with_reducible first | refine goIf_b ?_ ?_ | refine goIf_n ?_ ?_ | refine goIf_d ?_ ?_ | refine goIf_split ?_ ?_ | refine goGb_b ?_ ?_ | refine goGb_n ?_ ?_ | refine goGb_d ?_ ?_ | refine goGb_split ?_ ?_ | refine goDGb_b ?_ ?_ | refine goDGb_n ?_ ?_ | refine goDGb_d ?_ ?_ | refine goDGb_split ?_ ?_) <;> intro h
   | ((first | refine goCall_norm ?_ | refine goDCall_norm ?_); simp only [AV.norm, AV.normL, W2, W2B, Go.Ab.W3, Int.reduceAdd, Int.reduceLT, Int.reduceToNat, Int.reduceBEq, Int.reduceBNe, Int.reduceLE, CZP_ty, CZP_inpl, zld_CZP, exB, exB0, ldOK_b, ldOK_t, f0, hpG, hP, findA_m, foundOr_m, mfind_some, mapPut_m, keyOK, hA, hg2, Option.getD_none, Option.isSome_none, Option.getD_some, Option.isSome_some, List.length_map, emb_bel, AV.belL, AV.bel, implies_true, retD_ret, retD_normal]; first  | refine goDCall_z rfl (zfrI rfl rfl (grBag (hD.app _))) (qm _ (hD.app _)) (.inl rfl) (fun hb => grB (hD.app _) hb) ?_ | refine goDCall_z rfl (zfrI rfl rfl (grBag hD)) (qm _ hD) (.inl rfl) (fun hb => grB hD hb) ?_)
   | refine go_drawFZ (id := 7) CZP_ok mixed [] 0 Try.f59.ntmps (by first | (simp; done) | (simp; omega)) rfl (by kernel_rfl) (by decide) ?_
   | refine goRound ?_ CZP_ok Try.f59.ntmps rfl (by decide)
   | skip) <;> simp only [h, ↓upd_eq, ↓envL_cons, Go.Ab.W0, Go.Ab.WD, if_true, if_false, reduceIte, Nat.reduceEqDiff, Nat.reduceAdd, Nat.reduceLT, Nat.reduceLeDiff, reduceCtorEq, Nat.reduceMul, implies_true, forall_eq_or_imp, forall_eq, Nat.reducePow, W1, W1B, fs_frz, fs_frz0, fs_env, fs_b, fs_n, fs_put, fs_put0, fs_tmp, fs_const, fs_func, fs_obj, fs_setObj, fs_new, fs_next, fs_mk, fs_H, le_app, le_set, app_get, app_set, app_get0c, app_getkc, app_set0c, app_setkc, List.append_assoc, not_false_eq_true, not_true_eq_false, retE_ret, retP_ret, List.length_append, List.length_set, Nat.le_succ, Go.Ab.W3, Int.reduceAdd, Int.reduceLT, Int.reduceToNat, Int.reduceBEq, Int.reduceBNe, Int.reduceLE, CZP_ty, CZP_inpl, zld_CZP, exB, exB0, ldOK_b, ldOK_t, f0, hpG, hP, findA_m, foundOr_m, mfind_some, mapPut_m, keyOK, hA, hg2, Option.getD_none, Option.isSome_none, Option.getD_some, Option.isSome_some, List.length_map, emb_bel, AV.belL, AV.bel, implies_true, retD_ret, retD_normal, cutNormal_normal]
def CZS : Cfg := { C with zfr := some (0, 0), zld := [(36, 1)] }
theorem CZS_ok : CfgOK Try.prog CZS := C_ok
theorem CZS_ty (t : Nat) : CZS.ty t = C.ty t := rfl
theorem CZS_inpl (t : Nat) : CZS.inpl t = false := rfl
theorem zld_CZS (s : AState) : ZLd CZS s = ∃ r0, s.env 0 = .bptr r0 0 ∧ LdOK r0 0 (s.env 36) 1 := by simp [ZLd, CZS]
theorem gsame_01 (hD : SixD F g q c a b d) (v : Nat) (A B : List (Int × Int)) :
    DCalls Try.prog 58 [.bptr g 0, .int .i64 0, .int .i64 1] (hpG F g q c a b d v [(0, 0), (1, 1)] A B x3 x6) (.bool true) (hpG F g q c a b d v [(0, 1), (1, 1)] A B x3 x6) := by
  have hP := sixP hD
  have q0 := fun F hD => groot_self (F := F) (g := g) (q := q) (c := c) (a := a) (b := b) (d := d) (x3 := x3) (x6 := x6) hD v [(0, 0), (1, 1)] A B 0 (by decide) rfl
  have q1 := fun F hD => groot_self (F := F) (g := g) (q := q) (c := c) (a := a) (b := b) (d := d) (x3 := x3) (x6 := x6) hD v [(0, 0), (1, 1)] A B 1 (by decide) rfl
  have hgl := hD.hs
  have f0 : (F.length = g) = False := by simp only [eq_iff_iff, iff_false]; omega
  have hmk : ∀ x y : Int, embG (x, y) = emb (.mk x y []) := fun _ _ => rfl
  have w10 : IntKind.wrap .i64 (1 - 1) = 0 := by decide
  have g10 : ((1 : Int) > 0) = True := by simp
  have g00 : ((0 : Int) > 0) = False := by simp
  unfold DCalls
  refine acallsD_text CZS_ok Try.func58 rfl (by decide) (Nat.le_of_ble_eq_true rfl) (by decide) fun ok => ?_
  rw [Try.results58]
  have h := True.intro
  repeat' (first
   | (with_reducible first | refine goIf_b ?_ ?_ | refine goIf_n ?_ ?_ | refine goIf_d ?_ ?_ | refine goIf_split ?_ ?_ | refine goGb_b ?_ ?_ | refine goGb_n ?_ ?_ | refine goGb_d ?_ ?_ | refine goGb_split ?_ ?_ | refine goDGb_b ?_ ?_ | refine goDGb_n ?_ ?_ | refine goDGb_d ?_ ?_ | refine goDGb_split ?_ ?_) <;> intro h
   | ((first | refine goCall_norm ?_ | refine goDCall_norm ?_); simp only [AV.norm, AV.normL, W2, W2B, Go.Ab.W3, Int.reduceAdd, Int.reduceLT, Int.reduceToNat, Int.reduceBEq, Int.reduceBNe, Int.reduceLE, CZS_ty, CZS_inpl, zld_CZS, exB, exB0, ldOK_b, ldOK_t, f0, hpG, hP, hmk, w10, g10, g00, List.map_cons, List.map_nil, List.length_map, emb_bel, emb_cells, AV.belL, AV.bel, implies_true, retD_ret, retD_normal]; first  | refine goDCall_z rfl (zfrI rfl rfl (grBag (hD.app _))) (q0 _ (hD.app _)) (.inl rfl) (fun hb => grB (hD.app _) hb) ?_ | refine goDCall_z rfl (zfrI rfl rfl (grBag hD)) (q0 _ hD) (.inl rfl) (fun hb => grB hD hb) ?_ | refine goDCall_z rfl (zfrI rfl rfl (grBag (hD.app _))) (q1 _ (hD.app _)) (.inl rfl) (fun hb => grB (hD.app _) hb) ?_ | refine goDCall_z rfl (zfrI rfl rfl (grBag hD)) (q1 _ hD) (.inl rfl) (fun hb => grB hD hb) ?_)
   | refine go_drawFZ (id := 5) CZS_ok mixed [] 0 Try.f58.ntmps (by first | (simp; done) | (simp; omega)) rfl (by kernel_rfl) (by decide) ?_
   | refine go_drawFZ (id := 11) CZS_ok mixed [] 0 Try.f58.ntmps (by first | (simp; done) | (simp; omega)) rfl (by kernel_rfl) (by decide) ?_
   | refine goRound ?_ CZS_ok Try.f58.ntmps rfl (by decide)
   | skip) <;> simp only [h, ↓upd_eq, ↓envL_cons, Go.Ab.W0, Go.Ab.WD, if_true, if_false, reduceIte, Nat.reduceEqDiff, Nat.reduceAdd, Nat.reduceLT, Nat.reduceLeDiff, reduceCtorEq, Nat.reduceMul, implies_true, forall_eq_or_imp, forall_eq, Nat.reducePow, W1, W1B, fs_frz, fs_frz0, fs_env, fs_b, fs_n, fs_put, fs_put0, fs_tmp, fs_const, fs_func, fs_obj, fs_setObj, fs_new, fs_next, fs_mk, fs_H, le_app, le_set, app_get, app_set, app_get0c, app_getkc, app_set0c, app_setkc, List.append_assoc, not_false_eq_true, not_true_eq_false, retE_ret, retP_ret, List.length_append, List.length_set, Nat.le_succ, Go.Ab.W3, Int.reduceAdd, Int.reduceLT, Int.reduceToNat, Int.reduceBEq, Int.reduceBNe, Int.reduceLE, CZS_ty, CZS_inpl, zld_CZS, exB, exB0, ldOK_b, ldOK_t, f0, hpG, hP, hmk, w10, g10, g00, List.map_cons, List.map_nil, List.length_map, emb_bel, emb_cells, AV.belL, AV.bel, implies_true, retD_ret, retD_normal, cutNormal_normal]
  all_goals first | rfl | trace_state
end

end Go.Proofs.Ytpkdbhlpndibkaa
