/- The law TypBad answers true, whatever the input. No condition. -/
import Derived.Test.YtcpfjabjonpdaaaL3
import Derived.Test.YtcpfjabjonpdaaaF3b
import Derived.Test.YtcpfjabjonpdaaaI1
set_option linter.unusedSimpArgs false
set_option linter.unusedVariables false
set_option maxHeartbeats 8000000
set_option maxRecDepth 100000
namespace Go.Proofs.Ytcpfjabjonpdaaa
open Go Go.Ab
attribute [local irreducible] PCalls ACalls CallK GoCall GoDCall GoIf GoGb GoDGb GoO GoD GoX GoDX GoG GoDG GoGv GoDGv Go ALoop

theorem bad_more {t : Ty} (h : right t = true) (x : Ty) : right (.mk t.kind t.num (t.kids ++ [x])) = false := by
  have h1 := (right_kids h).1
  rw [right_eq]
  simp only [okN, Ty.kids_mk, Ty.kind_mk, List.length_append, List.length_cons, List.length_nil, Bool.and_eq_false_iff, decide_eq_false_iff_not]
  exact .inl (.inl (by omega))
theorem bad_less {t : Ty} (h : right t = true) (h0 : t.kids.length ≠ 0) : right (.mk t.kind t.num (t.kids.drop 1)) = false := by
  have h1 := (right_kids h).1
  rw [right_eq]
  simp only [okN, Ty.kids_mk, Ty.kind_mk, List.length_drop, Bool.and_eq_false_iff, decide_eq_false_iff_not]
  exact .inl (.inl (by omega))
theorem bad_num {t : Ty} {n : Int} (h6 : t.kind ≠ 6) (hn : n ≠ 0) : right (.mk t.kind n t.kids) = false := by
  rw [right_eq]
  simp [okN, Ty.kids_mk, Ty.kind_mk, Ty.num_mk, h6, hn]
theorem bad_kind {t : Ty} {k : Int} (hk : 10 ≤ k) : right (.mk k t.num t.kids) = false := by
  rw [right_eq]
  have : arity k = -1 := by unfold arity; (repeat' split) <;> omega
  simp only [okN, Ty.kids_mk, Ty.kind_mk, this, Bool.and_eq_false_iff, decide_eq_false_iff_not]
  exact .inl (.inl (by omega))
theorem var_num {t : Ty} (h : right t = true) (h6 : t.kind = 6) (n : Int) : right (.mk t.kind n t.kids) = (decide (0 ≤ n) && decide (n ≤ 1048576)) := by
  have h1 := (right_kids h).1
  rw [h6] at h1
  have h0 : t.kids.length = 0 := by have : arity 6 = 0 := by decide
                                    omega
  rw [right_eq, Ty.kids_mk, h0, allN_zero]
  simp [okN, Ty.kids_mk, Ty.kind_mk, Ty.num_mk, h6, h0, arity]

theorem typBad_ok (t : Ty) (how n : Int) : PCalls Try.prog 20 [emb t, .int .i64 how, .int .i64 n] (.bool true) := by
  by_cases hv : heavy [t] = true
  · refine pcalls_text C_ok Try.func20 rfl (by decide) (Nat.le_of_ble_eq_true rfl) (by decide) rfl fun ok H => ?_
    rw [Try.results20]
    try simp only [↓upd_eq, ↓envL_cons, Go.Ab.W0, guardOf, eff, effBuiltin, abin, abinInt, cellsAt, shift, AState.ev, AState.put, AState.new, ofVal, ofVal1, setRange, inplOf, if_true, if_false, reduceIte, Nat.reduceEqDiff, Nat.reduceAdd, Nat.reduceLT, Nat.reduceLeDiff, reduceCtorEq, Nat.reduceMul, implies_true, fillA, placeSt, fillE, elemsOf, effAppend, effSlice, optInt, reCells, forall_eq_or_imp, forall_eq, isAl, retP, AV.norm, AV.normL, Nat.reducePow, W1, hv]
    repeat' ((first
      | with_reducible refine goIf_b (fun h => ?_) (fun h => ?_)
      | with_reducible refine goIf_n (fun h => ?_) (fun h => ?_)
      | with_reducible refine goIf_d (fun h => ?_) (fun h => ?_)
      | with_reducible refine goIf_split (fun h => ?_) (fun h => ?_)
      | with_reducible refine goGb_b (fun h => ?_) (fun h => ?_)
      | with_reducible refine goGb_n (fun h => ?_) (fun h => ?_)
      | with_reducible refine goGb_d (fun h => ?_) (fun h => ?_)
      | with_reducible refine goGb_split (fun h => ?_) (fun h => ?_)
      | with_reducible refine goDGb_b (fun h => ?_) (fun h => ?_)
      | with_reducible refine goDGb_n (fun h => ?_) (fun h => ?_)
      | with_reducible refine goDGb_d (fun h => ?_) (fun h => ?_)
      | with_reducible refine goDGb_split (fun h => ?_) (fun h => ?_)
      | (refine goCall_norm ?_; simp only [AV.norm, AV.normL, W2, hv]; first | refine goCall_p (heavy1_ok _) (.inl rfl) ?_)
      | (refine goDCall_norm ?_; simp only [AV.norm, AV.normL, W2, hv]; first | refine goDCall_p (heavy1_ok _) (.inl rfl) ?_)) <;> first | simp only [h, ↓upd_eq, ↓envL_cons, Go.Ab.W0, guardOf, eff, effBuiltin, abin, abinInt, cellsAt, shift, AState.ev, AState.put, AState.new, ofVal, ofVal1, setRange, inplOf, if_true, if_false, reduceIte, Nat.reduceEqDiff, Nat.reduceAdd, Nat.reduceLT, Nat.reduceLeDiff, reduceCtorEq, Nat.reduceMul, implies_true, fillA, placeSt, fillE, elemsOf, effAppend, effSlice, optInt, reCells, forall_eq_or_imp, forall_eq, isAl, retP, AV.norm, AV.normL, Nat.reducePow, W1, hv] | simp only [↓upd_eq, ↓envL_cons, Go.Ab.W0, guardOf, eff, effBuiltin, abin, abinInt, cellsAt, shift, AState.ev, AState.put, AState.new, ofVal, ofVal1, setRange, inplOf, if_true, if_false, reduceIte, Nat.reduceEqDiff, Nat.reduceAdd, Nat.reduceLT, Nat.reduceLeDiff, reduceCtorEq, Nat.reduceMul, implies_true, fillA, placeSt, fillE, elemsOf, effAppend, effSlice, optInt, reCells, forall_eq_or_imp, forall_eq, isAl, retP, AV.norm, AV.normL, Nat.reducePow, W1, hv] | skip)
  · by_cases hr : right t = true
    · have na := heavy_nodes hv (t := t) (by simp)
      have hb : ∀ H : List AObj, H.length ≤ H.length := fun H => Nat.le_refl _
      obtain ⟨k, ek, hk⟩ := kint_nat n (show (1 : Int) ≤ 1000 by decide)
      have er := rem_small n (n := 1000) (by decide) (by decide)
      rw [show IntKind.wrap .u64 1000 = 1000 by decide, show n % 18446744073709551616 % 1000 = kint n 1000 from rfl, ek] at er
      have w1 : IntKind.wrap .i64 (1 + (k : Int)) = 1 + (k : Int) := wrap_i (by omega) (by omega)
      have w2 : IntKind.wrap .i64 (10 + (k : Int)) = 10 + (k : Int) := wrap_i (by omega) (by omega)
      refine pcalls_text C_ok Try.func20 rfl (by decide) (Nat.le_of_ble_eq_true rfl) (by decide) rfl fun ok H => ?_
      rw [Try.results20]
      rw [initS_fs]
      try simp only [↓upd_eq, ↓envL_cons, Go.Ab.W0, guardOf, eff, effBuiltin, abin, abinInt, cellsAt, shift, ofVal, ofVal1, setRange, inplOf, if_true, if_false, reduceIte, Nat.reduceEqDiff, Nat.reduceAdd, Nat.reduceLT, Nat.reduceLeDiff, reduceCtorEq, Nat.reduceMul, implies_true, fillA, placeSt, fillE, elemsOf, effAppend, effSlice, optInt, reCells, forall_eq_or_imp, forall_eq, isAl, AV.norm, AV.normL, Nat.reducePow, W1, fs_frz, fs_frz0, fs_env, fs_b, fs_n, fs_put, fs_put0, fs_tmp, fs_const, fs_func, fs_obj, fs_setObj, fs_new, fs_next, fs_mk, fs_H, le_app, le_set, app_get, app_set, app_get0c, app_getkc, app_set0c, app_setkc, List.append_assoc, not_false_eq_true, not_true_eq_false, retE_ret, retP_ret, List.length_append, List.length_set, Nat.le_succ, hb, hv, hr]
      repeat' ((first
        | with_reducible refine goIf_b (fun h => ?_) (fun h => ?_)
        | with_reducible refine goIf_n (fun h => ?_) (fun h => ?_)
        | with_reducible refine goIf_d (fun h => ?_) (fun h => ?_)
        | with_reducible refine goIf_split (fun h => ?_) (fun h => ?_)
        | with_reducible refine goGb_b (fun h => ?_) (fun h => ?_)
        | with_reducible refine goGb_n (fun h => ?_) (fun h => ?_)
        | with_reducible refine goGb_d (fun h => ?_) (fun h => ?_)
        | with_reducible refine goGb_split (fun h => ?_) (fun h => ?_)
        | with_reducible refine goDGb_b (fun h => ?_) (fun h => ?_)
        | with_reducible refine goDGb_n (fun h => ?_) (fun h => ?_)
        | with_reducible refine goDGb_d (fun h => ?_) (fun h => ?_)
        | with_reducible refine goDGb_split (fun h => ?_) (fun h => ?_)
        | (refine goCall_norm ?_; simp only [AV.norm, AV.normL, W2, hb, hv, hr]; first | refine goCall_p (heavy1_ok _) (.inl rfl) ?_ | refine goCall_p (rright_ok _) (.inl rfl) ?_)
        | (refine goDCall_norm ?_; simp only [AV.norm, AV.normL, W2, hb, hv, hr]; first | refine goDCall_p (heavy1_ok _) (.inl rfl) ?_ | refine goDCall_p (rright_ok _) (.inl rfl) ?_)) <;> first | simp only [h, ↓upd_eq, ↓envL_cons, Go.Ab.W0, guardOf, eff, effBuiltin, abin, abinInt, cellsAt, shift, ofVal, ofVal1, setRange, inplOf, if_true, if_false, reduceIte, Nat.reduceEqDiff, Nat.reduceAdd, Nat.reduceLT, Nat.reduceLeDiff, reduceCtorEq, Nat.reduceMul, implies_true, fillA, placeSt, fillE, elemsOf, effAppend, effSlice, optInt, reCells, forall_eq_or_imp, forall_eq, isAl, AV.norm, AV.normL, Nat.reducePow, W1, fs_frz, fs_frz0, fs_env, fs_b, fs_n, fs_put, fs_put0, fs_tmp, fs_const, fs_func, fs_obj, fs_setObj, fs_new, fs_next, fs_mk, fs_H, le_app, le_set, app_get, app_set, app_get0c, app_getkc, app_set0c, app_setkc, List.append_assoc, not_false_eq_true, not_true_eq_false, retE_ret, retP_ret, List.length_append, List.length_set, Nat.le_succ, hb, hv, hr] | simp only [↓upd_eq, ↓envL_cons, Go.Ab.W0, guardOf, eff, effBuiltin, abin, abinInt, cellsAt, shift, ofVal, ofVal1, setRange, inplOf, if_true, if_false, reduceIte, Nat.reduceEqDiff, Nat.reduceAdd, Nat.reduceLT, Nat.reduceLeDiff, reduceCtorEq, Nat.reduceMul, implies_true, fillA, placeSt, fillE, elemsOf, effAppend, effSlice, optInt, reCells, forall_eq_or_imp, forall_eq, isAl, AV.norm, AV.normL, Nat.reducePow, W1, fs_frz, fs_frz0, fs_env, fs_b, fs_n, fs_put, fs_put0, fs_tmp, fs_const, fs_func, fs_obj, fs_setObj, fs_new, fs_next, fs_mk, fs_H, le_app, le_set, app_get, app_set, app_get0c, app_getkc, app_set0c, app_setkc, List.append_assoc, not_false_eq_true, not_true_eq_false, retE_ret, retP_ret, List.length_append, List.length_set, Nat.le_succ, hb, hv, hr] | skip)
      refine fsCall (ktypeA_ok t (by omega) _) (.inl rfl) fun r F' hr' hlen => ?_
      obtain ⟨a, rfl, J, hF, hacc⟩ := hr'
      have hbox : F'[H.length]? = some (.box [.int .i64 t.kind, .int .i64 t.num, .sl (t.kids.map emb) .no]) := by rw [hF]; simp
      have htake : F'.take H.length = H := by rw [hF]; simp
      have hlt : H.length < F'.length := by rw [hF]; simp
      have hb' : H.length ≤ F'.length := by omega
      have h4 : ((4 : Int) ≠ 0) = True := by simp
      have h1000 : ((1000 : Int) ≠ 0) = True := by simp
      have hbk : ∀ k, (H.length ≤ F'.length + k) = True := fun k => by simp only [eq_iff_iff, iff_true]; omega
      have ht2 : ∀ l, (F' ++ l).take H.length = H := fun l => by rw [List.take_append_of_le_length hb', htake]
      have hge : (F'.length < H.length) = False := by simp only [eq_iff_iff, iff_false]; omega
      refine ⟨fun hbel => ?_, ?_⟩
      · rw [htake]; simpa using hbel
      simp only [List.length_append, List.length_cons, List.length_nil] at hacc
      clear hF hlen
      have hna : AV.normL (t.kids.map emb ++ [.agg [.int .i64 1, .int .i64 0, .sl [] .full]]) = (t.kids ++ [leafT 1]).map emb := by
        rw [normL_append, map_norm, List.map_append]; rfl
      have r1 := bad_more hr (leafT 1)
      have r2 := @bad_less t hr
      have r3 : t.kind ≠ 6 → right (.mk t.kind (1 + (k : Int)) t.kids) = false := fun h => bad_num h (by omega)
      have r4 : right (.mk (10 + (k : Int)) t.num t.kids) = false := bad_kind (by omega)
      have r6 := fun h => var_num hr h n
      have c1 : t.kids.length ≤ 2 := right_len2 hr
      have c2 : (t.kids.length ≤ 9223372036854775806) = True := by simp only [eq_iff_iff, iff_true]; omega
      have c3 : ((t.kids.length + 1) * 40 ≤ 140737488355328) = True := by simp only [eq_iff_iff, iff_true]; omega
      have z01 : ((0 : Int) ≤ 1) = True := by simp
      rcases hacc with ⟨e1, rfl⟩ | ⟨q, hq0, rfl, hq⟩
      · have k0 : t.kids = [] := List.map_eq_nil_iff.1 e1
        rw [k0] at hna r1 r3 r4 r6
        simp only [List.nil_append, List.map_nil, List.map_cons] at hna r1
        have rT : right (.mk t.kind t.num []) = true := by rw [← k0, Ty.eta]; exact hr
        have r1' : right (.mk t.kind t.num [.mk 1 0 []]) = false := r1
        by_cases h6 : t.kind = 6
        · have b6 : (t.kind == 6) = true := by simp [h6]
          have r6' := r6 h6
          try simp only [↓upd_eq, ↓envL_cons, Go.Ab.W0, guardOf, eff, effBuiltin, abin, abinInt, cellsAt, shift, ofVal, ofVal1, setRange, inplOf, if_true, if_false, reduceIte, Nat.reduceEqDiff, Nat.reduceAdd, Nat.reduceLT, Nat.reduceLeDiff, reduceCtorEq, Nat.reduceMul, implies_true, fillA, placeSt, fillE, elemsOf, effAppend, effSlice, optInt, reCells, forall_eq_or_imp, forall_eq, isAl, AV.norm, AV.normL, Nat.reducePow, W1, fs_frz, fs_frz0, fs_env, fs_b, fs_n, fs_put, fs_put0, fs_tmp, fs_const, fs_func, fs_obj, fs_setObj, fs_new, fs_next, fs_mk, fs_H, le_app, le_set, app_get, app_set, app_get0c, app_getkc, app_set0c, app_setkc, List.append_assoc, not_false_eq_true, not_true_eq_false, retE_ret, retP_ret, List.length_append, List.length_set, Nat.le_succ, hr, rT, r1, r1', r4, r6', b6, k0, h4, h1000, hb', hbk, ht2, hge, hlt, hbox, htake, er, w1, w2, all_emb3, hna, List.length_map, z01, Int.toNat_one, Int.natCast_zero]
          repeat' ((first
            | with_reducible refine goIf_b (fun h => ?_) (fun h => ?_)
            | with_reducible refine goIf_n (fun h => ?_) (fun h => ?_)
            | with_reducible refine goIf_d (fun h => ?_) (fun h => ?_)
            | with_reducible refine goIf_split (fun h => ?_) (fun h => ?_)
            | with_reducible refine goGb_b (fun h => ?_) (fun h => ?_)
            | with_reducible refine goGb_n (fun h => ?_) (fun h => ?_)
            | with_reducible refine goGb_d (fun h => ?_) (fun h => ?_)
            | with_reducible refine goGb_split (fun h => ?_) (fun h => ?_)
            | with_reducible refine goDGb_b (fun h => ?_) (fun h => ?_)
            | with_reducible refine goDGb_n (fun h => ?_) (fun h => ?_)
            | with_reducible refine goDGb_d (fun h => ?_) (fun h => ?_)
            | with_reducible refine goDGb_split (fun h => ?_) (fun h => ?_)
            | (refine goCall_norm ?_; simp only [AV.norm, AV.normL, W2, hr, rT, r1, r1', r4, r6', b6, k0, h4, h1000, hb', hbk, ht2, hge, hlt, hbox, htake, er, w1, w2, all_emb3, hna, List.length_map, z01, Int.toNat_one, Int.natCast_zero]; first | refine goCall_p (check_ok _) (.inl rfl) ?_ | refine goCall_p (wakes3_ok) (.inl rfl) ?_)
            | (refine goDCall_norm ?_; simp only [AV.norm, AV.normL, W2, hr, rT, r1, r1', r4, r6', b6, k0, h4, h1000, hb', hbk, ht2, hge, hlt, hbox, htake, er, w1, w2, all_emb3, hna, List.length_map, z01, Int.toNat_one, Int.natCast_zero]; first | refine goDCall_p (check_ok _) (.inl rfl) ?_ | refine goDCall_p (wakes3_ok) (.inl rfl) ?_)) <;> first | simp only [h, ↓upd_eq, ↓envL_cons, Go.Ab.W0, guardOf, eff, effBuiltin, abin, abinInt, cellsAt, shift, ofVal, ofVal1, setRange, inplOf, if_true, if_false, reduceIte, Nat.reduceEqDiff, Nat.reduceAdd, Nat.reduceLT, Nat.reduceLeDiff, reduceCtorEq, Nat.reduceMul, implies_true, fillA, placeSt, fillE, elemsOf, effAppend, effSlice, optInt, reCells, forall_eq_or_imp, forall_eq, isAl, AV.norm, AV.normL, Nat.reducePow, W1, fs_frz, fs_frz0, fs_env, fs_b, fs_n, fs_put, fs_put0, fs_tmp, fs_const, fs_func, fs_obj, fs_setObj, fs_new, fs_next, fs_mk, fs_H, le_app, le_set, app_get, app_set, app_get0c, app_getkc, app_set0c, app_setkc, List.append_assoc, not_false_eq_true, not_true_eq_false, retE_ret, retP_ret, List.length_append, List.length_set, Nat.le_succ, hr, rT, r1, r1', r4, r6', b6, k0, h4, h1000, hb', hbk, ht2, hge, hlt, hbox, htake, er, w1, w2, all_emb3, hna, List.length_map, z01, Int.toNat_one, Int.natCast_zero] | simp only [↓upd_eq, ↓envL_cons, Go.Ab.W0, guardOf, eff, effBuiltin, abin, abinInt, cellsAt, shift, ofVal, ofVal1, setRange, inplOf, if_true, if_false, reduceIte, Nat.reduceEqDiff, Nat.reduceAdd, Nat.reduceLT, Nat.reduceLeDiff, reduceCtorEq, Nat.reduceMul, implies_true, fillA, placeSt, fillE, elemsOf, effAppend, effSlice, optInt, reCells, forall_eq_or_imp, forall_eq, isAl, AV.norm, AV.normL, Nat.reducePow, W1, fs_frz, fs_frz0, fs_env, fs_b, fs_n, fs_put, fs_put0, fs_tmp, fs_const, fs_func, fs_obj, fs_setObj, fs_new, fs_next, fs_mk, fs_H, le_app, le_set, app_get, app_set, app_get0c, app_getkc, app_set0c, app_setkc, List.append_assoc, not_false_eq_true, not_true_eq_false, retE_ret, retP_ret, List.length_append, List.length_set, Nat.le_succ, hr, rT, r1, r1', r4, r6', b6, k0, h4, h1000, hb', hbk, ht2, hge, hlt, hbox, htake, er, w1, w2, all_emb3, hna, List.length_map, z01, Int.toNat_one, Int.natCast_zero] | skip)
          all_goals first | (simp_all; done) | (simp_all <;> split at h <;> simp_all)
        · have b6 : (t.kind == 6) = false := by simp [h6]
          have r3' := r3 h6
          try simp only [↓upd_eq, ↓envL_cons, Go.Ab.W0, guardOf, eff, effBuiltin, abin, abinInt, cellsAt, shift, ofVal, ofVal1, setRange, inplOf, if_true, if_false, reduceIte, Nat.reduceEqDiff, Nat.reduceAdd, Nat.reduceLT, Nat.reduceLeDiff, reduceCtorEq, Nat.reduceMul, implies_true, fillA, placeSt, fillE, elemsOf, effAppend, effSlice, optInt, reCells, forall_eq_or_imp, forall_eq, isAl, AV.norm, AV.normL, Nat.reducePow, W1, fs_frz, fs_frz0, fs_env, fs_b, fs_n, fs_put, fs_put0, fs_tmp, fs_const, fs_func, fs_obj, fs_setObj, fs_new, fs_next, fs_mk, fs_H, le_app, le_set, app_get, app_set, app_get0c, app_getkc, app_set0c, app_setkc, List.append_assoc, not_false_eq_true, not_true_eq_false, retE_ret, retP_ret, List.length_append, List.length_set, Nat.le_succ, hr, rT, r1, r1', r4, r3', b6, k0, h4, h1000, hb', hbk, ht2, hge, hlt, hbox, htake, er, w1, w2, all_emb3, hna, List.length_map, z01, Int.toNat_one, Int.natCast_zero]
          repeat' ((first
            | with_reducible refine goIf_b (fun h => ?_) (fun h => ?_)
            | with_reducible refine goIf_n (fun h => ?_) (fun h => ?_)
            | with_reducible refine goIf_d (fun h => ?_) (fun h => ?_)
            | with_reducible refine goIf_split (fun h => ?_) (fun h => ?_)
            | with_reducible refine goGb_b (fun h => ?_) (fun h => ?_)
            | with_reducible refine goGb_n (fun h => ?_) (fun h => ?_)
            | with_reducible refine goGb_d (fun h => ?_) (fun h => ?_)
            | with_reducible refine goGb_split (fun h => ?_) (fun h => ?_)
            | with_reducible refine goDGb_b (fun h => ?_) (fun h => ?_)
            | with_reducible refine goDGb_n (fun h => ?_) (fun h => ?_)
            | with_reducible refine goDGb_d (fun h => ?_) (fun h => ?_)
            | with_reducible refine goDGb_split (fun h => ?_) (fun h => ?_)
            | (refine goCall_norm ?_; simp only [AV.norm, AV.normL, W2, hr, rT, r1, r1', r4, r3', b6, k0, h4, h1000, hb', hbk, ht2, hge, hlt, hbox, htake, er, w1, w2, all_emb3, hna, List.length_map, z01, Int.toNat_one, Int.natCast_zero]; first | refine goCall_p (check_ok _) (.inl rfl) ?_ | refine goCall_p (wakes3_ok) (.inl rfl) ?_)
            | (refine goDCall_norm ?_; simp only [AV.norm, AV.normL, W2, hr, rT, r1, r1', r4, r3', b6, k0, h4, h1000, hb', hbk, ht2, hge, hlt, hbox, htake, er, w1, w2, all_emb3, hna, List.length_map, z01, Int.toNat_one, Int.natCast_zero]; first | refine goDCall_p (check_ok _) (.inl rfl) ?_ | refine goDCall_p (wakes3_ok) (.inl rfl) ?_)) <;> first | simp only [h, ↓upd_eq, ↓envL_cons, Go.Ab.W0, guardOf, eff, effBuiltin, abin, abinInt, cellsAt, shift, ofVal, ofVal1, setRange, inplOf, if_true, if_false, reduceIte, Nat.reduceEqDiff, Nat.reduceAdd, Nat.reduceLT, Nat.reduceLeDiff, reduceCtorEq, Nat.reduceMul, implies_true, fillA, placeSt, fillE, elemsOf, effAppend, effSlice, optInt, reCells, forall_eq_or_imp, forall_eq, isAl, AV.norm, AV.normL, Nat.reducePow, W1, fs_frz, fs_frz0, fs_env, fs_b, fs_n, fs_put, fs_put0, fs_tmp, fs_const, fs_func, fs_obj, fs_setObj, fs_new, fs_next, fs_mk, fs_H, le_app, le_set, app_get, app_set, app_get0c, app_getkc, app_set0c, app_setkc, List.append_assoc, not_false_eq_true, not_true_eq_false, retE_ret, retP_ret, List.length_append, List.length_set, Nat.le_succ, hr, rT, r1, r1', r4, r3', b6, k0, h4, h1000, hb', hbk, ht2, hge, hlt, hbox, htake, er, w1, w2, all_emb3, hna, List.length_map, z01, Int.toNat_one, Int.natCast_zero] | simp only [↓upd_eq, ↓envL_cons, Go.Ab.W0, guardOf, eff, effBuiltin, abin, abinInt, cellsAt, shift, ofVal, ofVal1, setRange, inplOf, if_true, if_false, reduceIte, Nat.reduceEqDiff, Nat.reduceAdd, Nat.reduceLT, Nat.reduceLeDiff, reduceCtorEq, Nat.reduceMul, implies_true, fillA, placeSt, fillE, elemsOf, effAppend, effSlice, optInt, reCells, forall_eq_or_imp, forall_eq, isAl, AV.norm, AV.normL, Nat.reducePow, W1, fs_frz, fs_frz0, fs_env, fs_b, fs_n, fs_put, fs_put0, fs_tmp, fs_const, fs_func, fs_obj, fs_setObj, fs_new, fs_next, fs_mk, fs_H, le_app, le_set, app_get, app_set, app_get0c, app_getkc, app_set0c, app_setkc, List.append_assoc, not_false_eq_true, not_true_eq_false, retE_ret, retP_ret, List.length_append, List.length_set, Nat.le_succ, hr, rT, r1, r1', r4, r3', b6, k0, h4, h1000, hb', hbk, ht2, hge, hlt, hbox, htake, er, w1, w2, all_emb3, hna, List.length_map, z01, Int.toNat_one, Int.natCast_zero] | skip)
          all_goals first | (simp_all; done) | (simp_all <;> split at h <;> simp_all)
      · have hql := get_lt hq
        rw [List.length_map] at hq
        have hqH : q ≠ H.length := by omega
        have ht3 : ∀ x l, (F'.set q x ++ l).take H.length = H := fun x l => by
          rw [List.take_append_of_le_length (by simpa using hb'), List.take_set_of_le (by omega), htake]
        have hdp : List.drop 1 (List.take t.kids.length (List.map emb t.kids)) = List.map emb (t.kids.drop 1) := by
          rw [List.take_of_length_le (by simp), List.map_drop]
        by_cases hz : t.kids.length = 0
        · have bz : ((t.kids.length : Int) == 0) = true := by simp [hz]
          by_cases h6 : t.kind = 6
          · have b6 : (t.kind == 6) = true := by simp [h6]
            have r6' := r6 h6
            try simp only [↓upd_eq, ↓envL_cons, Go.Ab.W0, guardOf, eff, effBuiltin, abin, abinInt, cellsAt, shift, ofVal, ofVal1, setRange, inplOf, if_true, if_false, reduceIte, Nat.reduceEqDiff, Nat.reduceAdd, Nat.reduceLT, Nat.reduceLeDiff, reduceCtorEq, Nat.reduceMul, implies_true, fillA, placeSt, fillE, elemsOf, effAppend, effSlice, optInt, reCells, forall_eq_or_imp, forall_eq, isAl, AV.norm, AV.normL, Nat.reducePow, W1, fs_frz, fs_frz0, fs_env, fs_b, fs_n, fs_put, fs_put0, fs_tmp, fs_const, fs_func, fs_obj, fs_setObj, fs_new, fs_next, fs_mk, fs_H, le_app, le_set, app_get, app_set, app_get0c, app_getkc, app_set0c, app_setkc, List.append_assoc, not_false_eq_true, not_true_eq_false, retE_ret, retP_ret, List.length_append, List.length_set, Nat.le_succ, hr, r1, r4, r6', b6, bz, hql, hq, set_get hqH, ht3, c2, c3, h4, h1000, hb', hbk, ht2, hge, hlt, hbox, htake, er, w1, w2, all_emb3, hna, List.length_map, z01, Int.toNat_one, Int.natCast_zero]
            repeat' ((first
              | with_reducible refine goIf_b (fun h => ?_) (fun h => ?_)
              | with_reducible refine goIf_n (fun h => ?_) (fun h => ?_)
              | with_reducible refine goIf_d (fun h => ?_) (fun h => ?_)
              | with_reducible refine goIf_split (fun h => ?_) (fun h => ?_)
              | with_reducible refine goGb_b (fun h => ?_) (fun h => ?_)
              | with_reducible refine goGb_n (fun h => ?_) (fun h => ?_)
              | with_reducible refine goGb_d (fun h => ?_) (fun h => ?_)
              | with_reducible refine goGb_split (fun h => ?_) (fun h => ?_)
              | with_reducible refine goDGb_b (fun h => ?_) (fun h => ?_)
              | with_reducible refine goDGb_n (fun h => ?_) (fun h => ?_)
              | with_reducible refine goDGb_d (fun h => ?_) (fun h => ?_)
              | with_reducible refine goDGb_split (fun h => ?_) (fun h => ?_)
              | (refine goCall_norm ?_; simp only [AV.norm, AV.normL, W2, hr, r1, r4, r6', b6, bz, hql, hq, set_get hqH, ht3, c2, c3, h4, h1000, hb', hbk, ht2, hge, hlt, hbox, htake, er, w1, w2, all_emb3, hna, List.length_map, z01, Int.toNat_one, Int.natCast_zero]; first | refine goCall_p (check_ok _) (.inl rfl) ?_ | refine goCall_p (wakes3_ok) (.inl rfl) ?_)
              | (refine goDCall_norm ?_; simp only [AV.norm, AV.normL, W2, hr, r1, r4, r6', b6, bz, hql, hq, set_get hqH, ht3, c2, c3, h4, h1000, hb', hbk, ht2, hge, hlt, hbox, htake, er, w1, w2, all_emb3, hna, List.length_map, z01, Int.toNat_one, Int.natCast_zero]; first | refine goDCall_p (check_ok _) (.inl rfl) ?_ | refine goDCall_p (wakes3_ok) (.inl rfl) ?_)) <;> first | simp only [h, ↓upd_eq, ↓envL_cons, Go.Ab.W0, guardOf, eff, effBuiltin, abin, abinInt, cellsAt, shift, ofVal, ofVal1, setRange, inplOf, if_true, if_false, reduceIte, Nat.reduceEqDiff, Nat.reduceAdd, Nat.reduceLT, Nat.reduceLeDiff, reduceCtorEq, Nat.reduceMul, implies_true, fillA, placeSt, fillE, elemsOf, effAppend, effSlice, optInt, reCells, forall_eq_or_imp, forall_eq, isAl, AV.norm, AV.normL, Nat.reducePow, W1, fs_frz, fs_frz0, fs_env, fs_b, fs_n, fs_put, fs_put0, fs_tmp, fs_const, fs_func, fs_obj, fs_setObj, fs_new, fs_next, fs_mk, fs_H, le_app, le_set, app_get, app_set, app_get0c, app_getkc, app_set0c, app_setkc, List.append_assoc, not_false_eq_true, not_true_eq_false, retE_ret, retP_ret, List.length_append, List.length_set, Nat.le_succ, hr, r1, r4, r6', b6, bz, hql, hq, set_get hqH, ht3, c2, c3, h4, h1000, hb', hbk, ht2, hge, hlt, hbox, htake, er, w1, w2, all_emb3, hna, List.length_map, z01, Int.toNat_one, Int.natCast_zero] | simp only [↓upd_eq, ↓envL_cons, Go.Ab.W0, guardOf, eff, effBuiltin, abin, abinInt, cellsAt, shift, ofVal, ofVal1, setRange, inplOf, if_true, if_false, reduceIte, Nat.reduceEqDiff, Nat.reduceAdd, Nat.reduceLT, Nat.reduceLeDiff, reduceCtorEq, Nat.reduceMul, implies_true, fillA, placeSt, fillE, elemsOf, effAppend, effSlice, optInt, reCells, forall_eq_or_imp, forall_eq, isAl, AV.norm, AV.normL, Nat.reducePow, W1, fs_frz, fs_frz0, fs_env, fs_b, fs_n, fs_put, fs_put0, fs_tmp, fs_const, fs_func, fs_obj, fs_setObj, fs_new, fs_next, fs_mk, fs_H, le_app, le_set, app_get, app_set, app_get0c, app_getkc, app_set0c, app_setkc, List.append_assoc, not_false_eq_true, not_true_eq_false, retE_ret, retP_ret, List.length_append, List.length_set, Nat.le_succ, hr, r1, r4, r6', b6, bz, hql, hq, set_get hqH, ht3, c2, c3, h4, h1000, hb', hbk, ht2, hge, hlt, hbox, htake, er, w1, w2, all_emb3, hna, List.length_map, z01, Int.toNat_one, Int.natCast_zero] | skip)
            all_goals first | (simp_all; done) | (simp_all <;> split at h <;> simp_all)
          · have b6 : (t.kind == 6) = false := by simp [h6]
            have r3' := r3 h6
            try simp only [↓upd_eq, ↓envL_cons, Go.Ab.W0, guardOf, eff, effBuiltin, abin, abinInt, cellsAt, shift, ofVal, ofVal1, setRange, inplOf, if_true, if_false, reduceIte, Nat.reduceEqDiff, Nat.reduceAdd, Nat.reduceLT, Nat.reduceLeDiff, reduceCtorEq, Nat.reduceMul, implies_true, fillA, placeSt, fillE, elemsOf, effAppend, effSlice, optInt, reCells, forall_eq_or_imp, forall_eq, isAl, AV.norm, AV.normL, Nat.reducePow, W1, fs_frz, fs_frz0, fs_env, fs_b, fs_n, fs_put, fs_put0, fs_tmp, fs_const, fs_func, fs_obj, fs_setObj, fs_new, fs_next, fs_mk, fs_H, le_app, le_set, app_get, app_set, app_get0c, app_getkc, app_set0c, app_setkc, List.append_assoc, not_false_eq_true, not_true_eq_false, retE_ret, retP_ret, List.length_append, List.length_set, Nat.le_succ, hr, r1, r4, r3', b6, bz, hql, hq, set_get hqH, ht3, c2, c3, h4, h1000, hb', hbk, ht2, hge, hlt, hbox, htake, er, w1, w2, all_emb3, hna, List.length_map, z01, Int.toNat_one, Int.natCast_zero]
            repeat' ((first
              | with_reducible refine goIf_b (fun h => ?_) (fun h => ?_)
              | with_reducible refine goIf_n (fun h => ?_) (fun h => ?_)
              | with_reducible refine goIf_d (fun h => ?_) (fun h => ?_)
              | with_reducible refine goIf_split (fun h => ?_) (fun h => ?_)
              | with_reducible refine goGb_b (fun h => ?_) (fun h => ?_)
              | with_reducible refine goGb_n (fun h => ?_) (fun h => ?_)
              | with_reducible refine goGb_d (fun h => ?_) (fun h => ?_)
              | with_reducible refine goGb_split (fun h => ?_) (fun h => ?_)
              | with_reducible refine goDGb_b (fun h => ?_) (fun h => ?_)
              | with_reducible refine goDGb_n (fun h => ?_) (fun h => ?_)
              | with_reducible refine goDGb_d (fun h => ?_) (fun h => ?_)
              | with_reducible refine goDGb_split (fun h => ?_) (fun h => ?_)
              | (refine goCall_norm ?_; simp only [AV.norm, AV.normL, W2, hr, r1, r4, r3', b6, bz, hql, hq, set_get hqH, ht3, c2, c3, h4, h1000, hb', hbk, ht2, hge, hlt, hbox, htake, er, w1, w2, all_emb3, hna, List.length_map, z01, Int.toNat_one, Int.natCast_zero]; first | refine goCall_p (check_ok _) (.inl rfl) ?_ | refine goCall_p (wakes3_ok) (.inl rfl) ?_)
              | (refine goDCall_norm ?_; simp only [AV.norm, AV.normL, W2, hr, r1, r4, r3', b6, bz, hql, hq, set_get hqH, ht3, c2, c3, h4, h1000, hb', hbk, ht2, hge, hlt, hbox, htake, er, w1, w2, all_emb3, hna, List.length_map, z01, Int.toNat_one, Int.natCast_zero]; first | refine goDCall_p (check_ok _) (.inl rfl) ?_ | refine goDCall_p (wakes3_ok) (.inl rfl) ?_)) <;> first | simp only [h, ↓upd_eq, ↓envL_cons, Go.Ab.W0, guardOf, eff, effBuiltin, abin, abinInt, cellsAt, shift, ofVal, ofVal1, setRange, inplOf, if_true, if_false, reduceIte, Nat.reduceEqDiff, Nat.reduceAdd, Nat.reduceLT, Nat.reduceLeDiff, reduceCtorEq, Nat.reduceMul, implies_true, fillA, placeSt, fillE, elemsOf, effAppend, effSlice, optInt, reCells, forall_eq_or_imp, forall_eq, isAl, AV.norm, AV.normL, Nat.reducePow, W1, fs_frz, fs_frz0, fs_env, fs_b, fs_n, fs_put, fs_put0, fs_tmp, fs_const, fs_func, fs_obj, fs_setObj, fs_new, fs_next, fs_mk, fs_H, le_app, le_set, app_get, app_set, app_get0c, app_getkc, app_set0c, app_setkc, List.append_assoc, not_false_eq_true, not_true_eq_false, retE_ret, retP_ret, List.length_append, List.length_set, Nat.le_succ, hr, r1, r4, r3', b6, bz, hql, hq, set_get hqH, ht3, c2, c3, h4, h1000, hb', hbk, ht2, hge, hlt, hbox, htake, er, w1, w2, all_emb3, hna, List.length_map, z01, Int.toNat_one, Int.natCast_zero] | simp only [↓upd_eq, ↓envL_cons, Go.Ab.W0, guardOf, eff, effBuiltin, abin, abinInt, cellsAt, shift, ofVal, ofVal1, setRange, inplOf, if_true, if_false, reduceIte, Nat.reduceEqDiff, Nat.reduceAdd, Nat.reduceLT, Nat.reduceLeDiff, reduceCtorEq, Nat.reduceMul, implies_true, fillA, placeSt, fillE, elemsOf, effAppend, effSlice, optInt, reCells, forall_eq_or_imp, forall_eq, isAl, AV.norm, AV.normL, Nat.reducePow, W1, fs_frz, fs_frz0, fs_env, fs_b, fs_n, fs_put, fs_put0, fs_tmp, fs_const, fs_func, fs_obj, fs_setObj, fs_new, fs_next, fs_mk, fs_H, le_app, le_set, app_get, app_set, app_get0c, app_getkc, app_set0c, app_setkc, List.append_assoc, not_false_eq_true, not_true_eq_false, retE_ret, retP_ret, List.length_append, List.length_set, Nat.le_succ, hr, r1, r4, r3', b6, bz, hql, hq, set_get hqH, ht3, c2, c3, h4, h1000, hb', hbk, ht2, hge, hlt, hbox, htake, er, w1, w2, all_emb3, hna, List.length_map, z01, Int.toNat_one, Int.natCast_zero] | skip)
            all_goals first | (simp_all; done) | (simp_all <;> split at h <;> simp_all)
        · have bz : ((t.kids.length : Int) == 0) = false := by simpa using hz
          have h1k : (1 ≤ (t.kids.length : Int)) = True := by simp only [eq_iff_iff, iff_true]; omega
          have r2' := r2 hz
          have h6 : t.kind ≠ 6 := by
            intro h6
            have := (right_kids hr).1
            rw [h6] at this
            have h0 : arity 6 = 0 := by decide
            omega
          have b6 : (t.kind == 6) = false := by simp [h6]
          have r3' := r3 h6
          try simp only [↓upd_eq, ↓envL_cons, Go.Ab.W0, guardOf, eff, effBuiltin, abin, abinInt, cellsAt, shift, ofVal, ofVal1, setRange, inplOf, if_true, if_false, reduceIte, Nat.reduceEqDiff, Nat.reduceAdd, Nat.reduceLT, Nat.reduceLeDiff, reduceCtorEq, Nat.reduceMul, implies_true, fillA, placeSt, fillE, elemsOf, effAppend, effSlice, optInt, reCells, forall_eq_or_imp, forall_eq, isAl, AV.norm, AV.normL, Nat.reducePow, W1, fs_frz, fs_frz0, fs_env, fs_b, fs_n, fs_put, fs_put0, fs_tmp, fs_const, fs_func, fs_obj, fs_setObj, fs_new, fs_next, fs_mk, fs_H, le_app, le_set, app_get, app_set, app_get0c, app_getkc, app_set0c, app_setkc, List.append_assoc, not_false_eq_true, not_true_eq_false, retE_ret, retP_ret, List.length_append, List.length_set, Nat.le_succ, hr, r1, r4, r2', r3', b6, bz, h1k, hdp, hql, hq, set_get hqH, ht3, c2, c3, h4, h1000, hb', hbk, ht2, hge, hlt, hbox, htake, er, w1, w2, all_emb3, hna, List.length_map, z01, Int.toNat_one, Int.natCast_zero, Int.le_refl]
          repeat' ((first
            | with_reducible refine goIf_b (fun h => ?_) (fun h => ?_)
            | with_reducible refine goIf_n (fun h => ?_) (fun h => ?_)
            | with_reducible refine goIf_d (fun h => ?_) (fun h => ?_)
            | with_reducible refine goIf_split (fun h => ?_) (fun h => ?_)
            | with_reducible refine goGb_b (fun h => ?_) (fun h => ?_)
            | with_reducible refine goGb_n (fun h => ?_) (fun h => ?_)
            | with_reducible refine goGb_d (fun h => ?_) (fun h => ?_)
            | with_reducible refine goGb_split (fun h => ?_) (fun h => ?_)
            | with_reducible refine goDGb_b (fun h => ?_) (fun h => ?_)
            | with_reducible refine goDGb_n (fun h => ?_) (fun h => ?_)
            | with_reducible refine goDGb_d (fun h => ?_) (fun h => ?_)
            | with_reducible refine goDGb_split (fun h => ?_) (fun h => ?_)
            | (refine goCall_norm ?_; simp only [AV.norm, AV.normL, W2, hr, r1, r4, r2', r3', b6, bz, h1k, hdp, hql, hq, set_get hqH, ht3, c2, c3, h4, h1000, hb', hbk, ht2, hge, hlt, hbox, htake, er, w1, w2, all_emb3, hna, List.length_map, z01, Int.toNat_one, Int.natCast_zero, Int.le_refl]; first | refine goCall_p (check_ok _) (.inl rfl) ?_ | refine goCall_p (wakes3_ok) (.inl rfl) ?_)
            | (refine goDCall_norm ?_; simp only [AV.norm, AV.normL, W2, hr, r1, r4, r2', r3', b6, bz, h1k, hdp, hql, hq, set_get hqH, ht3, c2, c3, h4, h1000, hb', hbk, ht2, hge, hlt, hbox, htake, er, w1, w2, all_emb3, hna, List.length_map, z01, Int.toNat_one, Int.natCast_zero, Int.le_refl]; first | refine goDCall_p (check_ok _) (.inl rfl) ?_ | refine goDCall_p (wakes3_ok) (.inl rfl) ?_)) <;> first | simp only [h, ↓upd_eq, ↓envL_cons, Go.Ab.W0, guardOf, eff, effBuiltin, abin, abinInt, cellsAt, shift, ofVal, ofVal1, setRange, inplOf, if_true, if_false, reduceIte, Nat.reduceEqDiff, Nat.reduceAdd, Nat.reduceLT, Nat.reduceLeDiff, reduceCtorEq, Nat.reduceMul, implies_true, fillA, placeSt, fillE, elemsOf, effAppend, effSlice, optInt, reCells, forall_eq_or_imp, forall_eq, isAl, AV.norm, AV.normL, Nat.reducePow, W1, fs_frz, fs_frz0, fs_env, fs_b, fs_n, fs_put, fs_put0, fs_tmp, fs_const, fs_func, fs_obj, fs_setObj, fs_new, fs_next, fs_mk, fs_H, le_app, le_set, app_get, app_set, app_get0c, app_getkc, app_set0c, app_setkc, List.append_assoc, not_false_eq_true, not_true_eq_false, retE_ret, retP_ret, List.length_append, List.length_set, Nat.le_succ, hr, r1, r4, r2', r3', b6, bz, h1k, hdp, hql, hq, set_get hqH, ht3, c2, c3, h4, h1000, hb', hbk, ht2, hge, hlt, hbox, htake, er, w1, w2, all_emb3, hna, List.length_map, z01, Int.toNat_one, Int.natCast_zero, Int.le_refl] | simp only [↓upd_eq, ↓envL_cons, Go.Ab.W0, guardOf, eff, effBuiltin, abin, abinInt, cellsAt, shift, ofVal, ofVal1, setRange, inplOf, if_true, if_false, reduceIte, Nat.reduceEqDiff, Nat.reduceAdd, Nat.reduceLT, Nat.reduceLeDiff, reduceCtorEq, Nat.reduceMul, implies_true, fillA, placeSt, fillE, elemsOf, effAppend, effSlice, optInt, reCells, forall_eq_or_imp, forall_eq, isAl, AV.norm, AV.normL, Nat.reducePow, W1, fs_frz, fs_frz0, fs_env, fs_b, fs_n, fs_put, fs_put0, fs_tmp, fs_const, fs_func, fs_obj, fs_setObj, fs_new, fs_next, fs_mk, fs_H, le_app, le_set, app_get, app_set, app_get0c, app_getkc, app_set0c, app_setkc, List.append_assoc, not_false_eq_true, not_true_eq_false, retE_ret, retP_ret, List.length_append, List.length_set, Nat.le_succ, hr, r1, r4, r2', r3', b6, bz, h1k, hdp, hql, hq, set_get hqH, ht3, c2, c3, h4, h1000, hb', hbk, ht2, hge, hlt, hbox, htake, er, w1, w2, all_emb3, hna, List.length_map, z01, Int.toNat_one, Int.natCast_zero, Int.le_refl] | skip)
          all_goals first | (simp_all; done) | (simp_all <;> split at h <;> simp_all)
    · refine pcalls_text C_ok Try.func20 rfl (by decide) (Nat.le_of_ble_eq_true rfl) (by decide) rfl fun ok H => ?_
      rw [Try.results20]
      try simp only [↓upd_eq, ↓envL_cons, Go.Ab.W0, guardOf, eff, effBuiltin, abin, abinInt, cellsAt, shift, AState.ev, AState.put, AState.new, ofVal, ofVal1, setRange, inplOf, if_true, if_false, reduceIte, Nat.reduceEqDiff, Nat.reduceAdd, Nat.reduceLT, Nat.reduceLeDiff, reduceCtorEq, Nat.reduceMul, implies_true, fillA, placeSt, fillE, elemsOf, effAppend, effSlice, optInt, reCells, forall_eq_or_imp, forall_eq, isAl, retP, AV.norm, AV.normL, Nat.reducePow, W1, hv, hr]
      repeat' ((first
        | with_reducible refine goIf_b (fun h => ?_) (fun h => ?_)
        | with_reducible refine goIf_n (fun h => ?_) (fun h => ?_)
        | with_reducible refine goIf_d (fun h => ?_) (fun h => ?_)
        | with_reducible refine goIf_split (fun h => ?_) (fun h => ?_)
        | with_reducible refine goGb_b (fun h => ?_) (fun h => ?_)
        | with_reducible refine goGb_n (fun h => ?_) (fun h => ?_)
        | with_reducible refine goGb_d (fun h => ?_) (fun h => ?_)
        | with_reducible refine goGb_split (fun h => ?_) (fun h => ?_)
        | with_reducible refine goDGb_b (fun h => ?_) (fun h => ?_)
        | with_reducible refine goDGb_n (fun h => ?_) (fun h => ?_)
        | with_reducible refine goDGb_d (fun h => ?_) (fun h => ?_)
        | with_reducible refine goDGb_split (fun h => ?_) (fun h => ?_)
        | (refine goCall_norm ?_; simp only [AV.norm, AV.normL, W2, hv, hr]; first | refine goCall_p (heavy1_ok _) (.inl rfl) ?_ | refine goCall_p (rright_ok _) (.inl rfl) ?_)
        | (refine goDCall_norm ?_; simp only [AV.norm, AV.normL, W2, hv, hr]; first | refine goDCall_p (heavy1_ok _) (.inl rfl) ?_ | refine goDCall_p (rright_ok _) (.inl rfl) ?_)) <;> first | simp only [h, ↓upd_eq, ↓envL_cons, Go.Ab.W0, guardOf, eff, effBuiltin, abin, abinInt, cellsAt, shift, AState.ev, AState.put, AState.new, ofVal, ofVal1, setRange, inplOf, if_true, if_false, reduceIte, Nat.reduceEqDiff, Nat.reduceAdd, Nat.reduceLT, Nat.reduceLeDiff, reduceCtorEq, Nat.reduceMul, implies_true, fillA, placeSt, fillE, elemsOf, effAppend, effSlice, optInt, reCells, forall_eq_or_imp, forall_eq, isAl, retP, AV.norm, AV.normL, Nat.reducePow, W1, hv, hr] | simp only [↓upd_eq, ↓envL_cons, Go.Ab.W0, guardOf, eff, effBuiltin, abin, abinInt, cellsAt, shift, AState.ev, AState.put, AState.new, ofVal, ofVal1, setRange, inplOf, if_true, if_false, reduceIte, Nat.reduceEqDiff, Nat.reduceAdd, Nat.reduceLT, Nat.reduceLeDiff, reduceCtorEq, Nat.reduceMul, implies_true, fillA, placeSt, fillE, elemsOf, effAppend, effSlice, optInt, reCells, forall_eq_or_imp, forall_eq, isAl, retP, AV.norm, AV.normL, Nat.reducePow, W1, hv, hr] | skip)

end Go.Proofs.Ytcpfjabjonpdaaa
