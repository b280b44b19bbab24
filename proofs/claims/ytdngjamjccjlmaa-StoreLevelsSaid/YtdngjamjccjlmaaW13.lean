/- Layer 12: as many are made as the limit is. No condition. -/
import Derived.Test.YtdngjamjccjlmaaW12
set_option linter.unusedSimpArgs false
set_option linter.unusedVariables false
set_option maxHeartbeats 4000000
set_option maxRecDepth 100000
namespace Go.Proofs.Ytdngjamjccjlmaa
open Go Go.Ab
attribute [local irreducible] PCalls ACalls CallK GoCall GoDCall GoIf GoGb GoDGb GoO GoD GoX GoDX GoG GoDG GoGv GoDGv Go ALoop

section
variable {F : List AObj} {s r v : Nat} {L : Mem} {lim cnt rd : Int}
theorem kind_out (hs : s < F.length) (hr : r < F.length) (hne : r ≠ s) (n : Int) (hn : n < 0 ∨ (L.length : Int) ≤ n) : DCalls Try.prog 32 [.bptr s 0, .int .i64 n] (hpS F s r v L lim cnt rd) (.int .i64 0) (hpS F s r v L lim cnt rd) := by
  unfold DCalls
  refine acallsD_text C_ok Try.func32 rfl (by decide) (Nat.le_of_ble_eq_true rfl) (by decide) fun ok => ?_
  rw [Try.results32]
  have h := True.intro
  repeat' (first
   | (with_reducible first | refine goIf_b ?_ ?_ | refine goIf_n ?_ ?_ | refine goIf_d ?_ ?_ | refine goIf_split ?_ ?_ | refine goGb_b ?_ ?_ | refine goGb_n ?_ ?_ | refine goGb_d ?_ ?_ | refine goGb_split ?_ ?_ | refine goDGb_b ?_ ?_ | refine goDGb_n ?_ ?_ | refine goDGb_d ?_ ?_ | refine goDGb_split ?_ ?_) <;> intro h
   | ((first | refine goCall_norm ?_ | refine goDCall_norm ?_); simp only [AV.norm, AV.normL, W2, hpS, bxS, arS, stP hs hr hne, retD_ret, retD_normal, AV.bel, mapN_len]; first  | refine fsCallR (is_no hs hr hne hn) (.inl rfl) ?_)
   | refine go_drawF (id := 3) C_ok mixed 0 Try.f32.ntmps (by first | (simp; done) | (simp; omega)) rfl (by kernel_rfl) (by decide) ?_
   | skip) <;> simp only [h, ↓upd_eq, ↓envL_cons, Go.Ab.W0, Go.Ab.WD, if_true, if_false, reduceIte, Nat.reduceEqDiff, Nat.reduceAdd, Nat.reduceLT, Nat.reduceLeDiff, reduceCtorEq, Nat.reduceMul, implies_true, forall_eq_or_imp, forall_eq, Nat.reducePow, W1, fs_frz, fs_frz0, fs_env, fs_b, fs_n, fs_put, fs_put0, fs_tmp, fs_const, fs_func, fs_obj, fs_setObj, fs_new, fs_next, fs_mk, fs_H, le_app, le_set, app_get, app_set, app_get0c, app_getkc, app_set0c, app_setkc, List.append_assoc, not_false_eq_true, not_true_eq_false, retE_ret, retP_ret, List.length_append, List.length_set, Nat.le_succ, hpS, bxS, arS, stP hs hr hne, retD_ret, retD_normal, AV.bel, mapN_len]
end
def limL (k : Nat) : Mem := mem0 ++ (List.range k).map fun j : Nat => varN (j : Int)
theorem limL_len (k : Nat) : (limL k).length = 5 + k := by simp [limL, mem0]; omega
theorem limL_succ (k : Nat) : limL k ++ [varN (k : Int)] = limL (k + 1) := by simp [limL, List.range_succ]
theorem limL_si : ∀ k, SI (limL k) 0
  | 0 => SI.mem0
  | k + 1 => by rw [← limL_succ]; exact (limL_si k).var k
theorem limL_nd {k j : Nat} (h : j < k) : (limL k).st.nd (5 + j) = ⟨6, j, none, []⟩ := by
  rw [Mem.nd, limL, List.getD_eq_getElem?_getD, List.getElem?_append_right (by simp [mem0])]
  simp [mem0, h, varN]
section
variable {F : List AObj} {s r M : Nat} {i : Nat}
theorem lq_var (hs : s < F.length) (hr : r < F.length) (hne : r ≠ s) (h : i < M) (hM : M ≤ 2000) : DCalls Try.prog 34 [.bptr s 0, .int .i64 i] (hpS F s r (4 + i) (limL i) M i 0) (.tup [.int .i64 (5 + (i : Int)), .int .i64 0]) (hpS F s r (4 + (i + 1)) (limL (i + 1)) M ((i : Int) + 1) 0) := by
  have := var_ok (F := F) (v := 4 + i) (L := limL i) (lim := M) (cnt := i) (rd := 0) hs hr hne (i : Int) (by omega) (by rw [beq_eq_false_iff_ne]; omega) (by rw [limL_len]; omega) ⟨by omega, by omega⟩
  rw [limL_len, limL_succ] at this
  exact this
theorem lq_full (hs : s < F.length) (hr : r < F.length) (hne : r ≠ s) : DCalls Try.prog 34 [.bptr s 0, .int .i64 i] (hpS F s r (4 + M) (limL M) M M 0) (.tup [.int .i64 0, .int .i64 7]) (hpS F s r (4 + M) (limL M) M M 0) :=
  var_full hs hr hne i (by omega) (by simp)
theorem lq_root : (limL (i + 1)).st.root (5 + i) = 5 + i := root_none (by rw [St.link, limL_nd (Nat.lt_succ_self i)])
theorem lq_Root {c : Int} (hs : s < F.length) (hr : r < F.length) (hne : r ≠ s) : DCalls Try.prog 29 [.bptr s 0, .int .i64 (5 + (i : Int))] (hpS F s r (4 + (i + 1)) (limL (i + 1)) M c 0) (.int .i64 (5 + (i : Int))) (hpS F s r (4 + (i + 1)) (limL (i + 1)) M c 0) := by
  have := root_in (F := F) (v := 4 + (i + 1)) (lim := M) (cnt := c) (rd := 0) hs hr hne (limL_si (i + 1)).wf (5 + i) (by rw [limL_len]; omega)
  rw [lq_root] at this; exact this
theorem lq_Level {c : Int} (hs : s < F.length) (hr : r < F.length) (hne : r ≠ s) : DCalls Try.prog 35 [.bptr s 0, .int .i64 (5 + (i : Int))] (hpS F s r (4 + (i + 1)) (limL (i + 1)) M c 0) (.int .i64 i) (hpS F s r (4 + (i + 1)) (limL (i + 1)) M c 0) := by
  have := level_in (F := F) (v := 4 + (i + 1)) (lim := M) (cnt := c) (rd := 0) hs hr hne (limL_si (i + 1)).wf (5 + i) (by rw [limL_len]; omega)
  rw [lq_root, St.kind, limL_nd (Nat.lt_succ_self i)] at this; exact this
theorem lq_Kind {k : Nat} {c : Int} (hs : s < F.length) (hr : r < F.length) (hne : r ≠ s) (h : k ≤ i + 1) : DCalls Try.prog 32 [.bptr s 0, .int .i64 (5 + (i : Int) + 1)] (hpS F s r (4 + k) (limL k) M c 0) (.int .i64 0) (hpS F s r (4 + k) (limL k) M c 0) :=
  kind_out hs hr hne _ (.inr (by rw [limL_len]; omega))
end
theorem st_take {F G : List AObj} {s r : Nat} {bx ar : AObj} (hs : F.length ≤ s) (hr : F.length ≤ r) (ht : G.take F.length = F) : (stF G s r bx ar).take F.length = F := by
  unfold stF
  rw [List.take_set, List.take_set, List.set_eq_of_length_le (by simp; omega), List.set_eq_of_length_le (by simp; omega), ht]
theorem storeLimit_ok (lim n : Int) : PCalls Try.prog 4 [.int .i64 lim, .int .i64 n] (.bool true) := by
  have hk := kint_ok n (n := 60) (by decide) (by decide)
  obtain ⟨N, hN, hN60⟩ := kint_nat n (n := 60) (by decide)
  rw [hN] at hk
  by_cases h60 : 60 < lim
  · have w1 : lim.tmod 1000 = lim % 1000 := Int.tmod_eq_emod_of_nonneg (by omega)
    obtain ⟨lm, hlm⟩ : ∃ lm, lm = 61 + lim % 1000 := ⟨_, rfl⟩
    have w2 : IntKind.wrap .i64 (61 + lim.tmod 1000) = lm := by rw [w1, hlm]; exact wrap_i (by omega) (by omega)
    have hsmall : lm ≤ 2000 := by omega
    have hz : ((1000 : Int) ≠ 0) = True := by simp
    refine pcalls_text C_ok Try.func4 rfl (by decide) (Nat.le_of_ble_eq_true rfl) (by decide) rfl fun ok H => ?_
    rw [Try.results4]
    rw [initS_fs]
    have hnew0 := new_st H (lm)
    have hM1 : ∃ M : Nat, limOf (lm) = M ∧ (if 0 > (lm) then 0 else (lm)) = (M : Int) ∧ M ≤ 2000 := by
      refine ⟨(limOf (lm)).toNat, ?_⟩
      have : (lm) ≤ 2000 := hsmall
      unfold limOf
      split <;> split at * <;> omega
    obtain ⟨M, hM, hmx, hM2⟩ := hM1
    rw [hM] at hnew0
    obtain ⟨G, s, r, hs, hr, hne, hl, ht, hbs, hbr, hnew⟩ := hnew0
    have hle : ∀ k, (H.length ≤ G.length + k) = True := fun k => by simp only [eq_iff_iff, iff_true]; omega
    have hb0 : H.length ≤ H.length := Nat.le_refl _
    have h := True.intro
    repeat' (first
     | (with_reducible first | refine goIf_b ?_ ?_ | refine goIf_n ?_ ?_ | refine goIf_d ?_ ?_ | refine goIf_split ?_ ?_ | refine goGb_b ?_ ?_ | refine goGb_n ?_ ?_ | refine goGb_d ?_ ?_ | refine goGb_split ?_ ?_ | refine goDGb_b ?_ ?_ | refine goDGb_n ?_ ?_ | refine goDGb_d ?_ ?_ | refine goDGb_split ?_ ?_) <;> intro h
     | ((first | refine goCall_norm ?_ | refine goDCall_norm ?_); simp only [AV.norm, AV.normL, W2, hpS, bxS, arS, stP hs hr hne, retD_ret, retD_normal, AV.bel, mapN_len, hb0, hl, hle, hz, w2, hmx, AV.belL, h60]; first | refine goCall_p (hk) (.inl rfl) ?_ | refine goDCall_p (hk) (.inl rfl) ?_ | refine fsCallD (hnew) (.inl rfl) (fun hb => new_bel (by simp) hbs hbr ht hb) ?_)
     | skip) <;> simp only [h, ↓upd_eq, ↓envL_cons, Go.Ab.W0, Go.Ab.WD, if_true, if_false, reduceIte, Nat.reduceEqDiff, Nat.reduceAdd, Nat.reduceLT, Nat.reduceLeDiff, reduceCtorEq, Nat.reduceMul, implies_true, forall_eq_or_imp, forall_eq, Nat.reducePow, W1, fs_frz, fs_frz0, fs_env, fs_b, fs_n, fs_put, fs_put0, fs_tmp, fs_const, fs_func, fs_obj, fs_setObj, fs_new, fs_next, fs_mk, fs_H, le_app, le_set, app_get, app_set, app_get0c, app_getkc, app_set0c, app_setkc, List.append_assoc, not_false_eq_true, not_true_eq_false, retE_ret, retP_ret, List.length_append, List.length_set, Nat.le_succ, hpS, bxS, arS, stP hs hr hne, retD_ret, retD_normal, AV.bel, mapN_len, hb0, hl, hle, hz, w2, hmx, AV.belL, h60]
    refine aloop_trimF [7, 1, 5, 6] ?_
    simp only [List.map_cons, List.map_nil, ↓upd_eq, ↓envL_cons, Go.Ab.W0, Go.Ab.WD, if_true, if_false, reduceIte, Nat.reduceEqDiff, Nat.reduceAdd, Nat.reduceLT, Nat.reduceLeDiff, reduceCtorEq, Nat.reduceMul, implies_true, forall_eq_or_imp, forall_eq, Nat.reducePow, W1, fs_frz, fs_frz0, fs_env, fs_b, fs_n, fs_put, fs_put0, fs_tmp, fs_const, fs_func, fs_obj, fs_setObj, fs_new, fs_next, fs_mk, fs_H, le_app, le_set, app_get, app_set, app_get0c, app_getkc, app_set0c, app_setkc, List.append_assoc, not_false_eq_true, not_true_eq_false, retE_ret, retP_ret, List.length_append, List.length_set, Nat.le_succ]
    refine goLoopF 1 (fun i : Nat => [(7, .int .i64 i)]) (fun i => hpS G s r (4 + min i M) (limL (min i M)) M ((min i M : Nat) : Int) 0) (fun i => i ≤ N) (fun i => N - i) C_ok 0 rfl (by simp only [Nat.zero_min]; rfl) (Nat.zero_le _) (by decide) ?_
    rintro i hi
    simp only [List.drop_succ_cons, List.drop_zero, List.cons_append, List.nil_append]
    by_cases hlt : i < N
    · have w5 : IntKind.wrap .i64 (5 + (i : Int)) = 5 + (i : Int) := wrap_i (by omega) (by omega)
      have w6 : IntKind.wrap .i64 (5 + (i : Int) + 1) = 5 + (i : Int) + 1 := wrap_i (by omega) (by omega)
      have w7 : IntKind.wrap .i64 ((i : Int) + 1) = (i : Int) + 1 := wrap_i (by omega) (by omega)
      have hc : ((i + 1 : Nat) : Int) = (i : Int) + 1 := rfl
      have hmax : N ≤ maxLen := by rw [maxLen_val]; omega
      by_cases hlm2 : i < M
      · have e1 : min i M = i := Nat.min_eq_left (by omega)
        have e2 : min (i + 1) M = i + 1 := Nat.min_eq_left (by omega)
        have hm : (if (M : Int) < (i : Int) + 1 then (M : Int) else (i : Int) + 1) = (i : Int) + 1 := by rw [if_neg (by omega)]
        simp only [e1]
        have h := True.intro
        repeat' (first
         | (with_reducible first | refine goIf_b ?_ ?_ | refine goIf_n ?_ ?_ | refine goIf_d ?_ ?_ | refine goIf_split ?_ ?_ | refine goGb_b ?_ ?_ | refine goGb_n ?_ ?_ | refine goGb_d ?_ ?_ | refine goGb_split ?_ ?_ | refine goDGb_b ?_ ?_ | refine goDGb_n ?_ ?_ | refine goDGb_d ?_ ?_ | refine goDGb_split ?_ ?_) <;> intro h
         | ((first | refine goCall_norm ?_ | refine goDCall_norm ?_); simp only [AV.norm, AV.normL, W2, hpS, bxS, arS, stP hs hr hne, retD_ret, retD_normal, AV.bel, mapN_len, hb0, hl, hle, w5, w6, w7, hlt, hlm2, hm, AV.belL, bne_self_eq_false]; first  | refine fsCallD (lq_var hs hr hne hlm2 hM2) (.inl rfl) (fun hb => hpS_bel (by first | exact hs | exact lt_app hs | exact lt_app (lt_set hs) | exact lt_set hs) (by first | exact hr | exact lt_app hr | exact lt_app (lt_set hr) | exact lt_set hr) hne hb) ?_ | refine fsCallR (lq_Level hs hr hne) (.inl rfl) ?_ | refine fsCallR (lq_Root hs hr hne) (.inl rfl) ?_ | refine fsCallR (scount_ok hs hr hne) (.inl rfl) ?_ | refine fsCallR (lq_Kind hs hr hne (Nat.le_refl _)) (.inl rfl) ?_)
         | skip) <;> simp only [h, ↓upd_eq, ↓envL_cons, Go.Ab.W0, Go.Ab.WD, if_true, if_false, reduceIte, Nat.reduceEqDiff, Nat.reduceAdd, Nat.reduceLT, Nat.reduceLeDiff, reduceCtorEq, Nat.reduceMul, implies_true, forall_eq_or_imp, forall_eq, Nat.reducePow, W1, fs_frz, fs_frz0, fs_env, fs_b, fs_n, fs_put, fs_put0, fs_tmp, fs_const, fs_func, fs_obj, fs_setObj, fs_new, fs_next, fs_mk, fs_H, le_app, le_set, app_get, app_set, app_get0c, app_getkc, app_set0c, app_setkc, List.append_assoc, not_false_eq_true, not_true_eq_false, retE_ret, retP_ret, List.length_append, List.length_set, Nat.le_succ, hpS, bxS, arS, stP hs hr hne, retD_ret, retD_normal, AV.bel, mapN_len, hb0, hl, hle, w5, w6, w7, hlt, hlm2, hm, AV.belL, bne_self_eq_false]
        refine ⟨i + 1, hlt, by omega, weakF ?_ ?_⟩
        · (simp only [e2]) <;> rfl
        · simp only [List.forall_mem_cons, mem_nil_all, frz_app, ↓upd_eq, ↓envL_cons, Nat.reduceEqDiff, if_true, if_false, reduceIte, true_and, and_true, and_self, true_or, or_true, implies_true, List.not_mem_nil, false_implies, AV.bel, AV.belL, AObj.bel, AV.norm, AV.normL, Bool.and_true, Bool.true_and, decide_true, decide_eq_true_eq, List.length_cons, List.length_nil, Nat.zero_add, Nat.reduceAdd, Nat.lt_add_one, Nat.lt_add_right_iff_pos, Nat.zero_lt_succ, Nat.zero_lt_one, Nat.reduceLT, List.take_succ_cons, List.take_zero, hc]
      · have e1 : min i M = M := Nat.min_eq_right (by omega)
        have e2 : min (i + 1) M = M := Nat.min_eq_right (by omega)
        have hm : (if (M : Int) < (i : Int) + 1 then (M : Int) else (i : Int) + 1) = (M : Int) := by rw [if_pos (by omega)]
        simp only [e1]
        have h := True.intro
        repeat' (first
         | (with_reducible first | refine goIf_b ?_ ?_ | refine goIf_n ?_ ?_ | refine goIf_d ?_ ?_ | refine goIf_split ?_ ?_ | refine goGb_b ?_ ?_ | refine goGb_n ?_ ?_ | refine goGb_d ?_ ?_ | refine goGb_split ?_ ?_ | refine goDGb_b ?_ ?_ | refine goDGb_n ?_ ?_ | refine goDGb_d ?_ ?_ | refine goDGb_split ?_ ?_) <;> intro h
         | ((first | refine goCall_norm ?_ | refine goDCall_norm ?_); simp only [AV.norm, AV.normL, W2, hpS, bxS, arS, stP hs hr hne, retD_ret, retD_normal, AV.bel, mapN_len, hb0, hl, hle, w5, w6, w7, hlt, hlm2, hm, AV.belL, bne_self_eq_false]; first  | refine fsCallD (lq_full hs hr hne) (.inl rfl) (fun hb => hpS_bel (by first | exact hs | exact lt_app hs | exact lt_app (lt_set hs) | exact lt_set hs) (by first | exact hr | exact lt_app hr | exact lt_app (lt_set hr) | exact lt_set hr) hne hb) ?_ | refine fsCallR (scount_ok hs hr hne) (.inl rfl) ?_ | refine fsCallR (lq_Kind hs hr hne (by omega)) (.inl rfl) ?_)
         | skip) <;> simp only [h, ↓upd_eq, ↓envL_cons, Go.Ab.W0, Go.Ab.WD, if_true, if_false, reduceIte, Nat.reduceEqDiff, Nat.reduceAdd, Nat.reduceLT, Nat.reduceLeDiff, reduceCtorEq, Nat.reduceMul, implies_true, forall_eq_or_imp, forall_eq, Nat.reducePow, W1, fs_frz, fs_frz0, fs_env, fs_b, fs_n, fs_put, fs_put0, fs_tmp, fs_const, fs_func, fs_obj, fs_setObj, fs_new, fs_next, fs_mk, fs_H, le_app, le_set, app_get, app_set, app_get0c, app_getkc, app_set0c, app_setkc, List.append_assoc, not_false_eq_true, not_true_eq_false, retE_ret, retP_ret, List.length_append, List.length_set, Nat.le_succ, hpS, bxS, arS, stP hs hr hne, retD_ret, retD_normal, AV.bel, mapN_len, hb0, hl, hle, w5, w6, w7, hlt, hlm2, hm, AV.belL, bne_self_eq_false]
        refine ⟨i + 1, hlt, by omega, weakF ?_ ?_⟩
        · (simp only [e2]) <;> rfl
        · simp only [List.forall_mem_cons, mem_nil_all, frz_app, ↓upd_eq, ↓envL_cons, Nat.reduceEqDiff, if_true, if_false, reduceIte, true_and, and_true, and_self, true_or, or_true, implies_true, List.not_mem_nil, false_implies, AV.bel, AV.belL, AObj.bel, AV.norm, AV.normL, Bool.and_true, Bool.true_and, decide_true, decide_eq_true_eq, List.length_cons, List.length_nil, Nat.zero_add, Nat.reduceAdd, Nat.lt_add_one, Nat.lt_add_right_iff_pos, Nat.zero_lt_succ, Nat.zero_lt_one, Nat.reduceLT, List.take_succ_cons, List.take_zero, hc]
    · have h := True.intro
      repeat' (first
       | (with_reducible first | refine goIf_b ?_ ?_ | refine goIf_n ?_ ?_ | refine goIf_d ?_ ?_ | refine goIf_split ?_ ?_ | refine goGb_b ?_ ?_ | refine goGb_n ?_ ?_ | refine goGb_d ?_ ?_ | refine goGb_split ?_ ?_ | refine goDGb_b ?_ ?_ | refine goDGb_n ?_ ?_ | refine goDGb_d ?_ ?_ | refine goDGb_split ?_ ?_) <;> intro h
       | ((first | refine goCall_norm ?_ | refine goDCall_norm ?_); simp only [AV.norm, AV.normL, W2, hpS, bxS, arS, stP hs hr hne, retD_ret, retD_normal, AV.bel, mapN_len, hlt]; first | refine goCall_p (wakes12_ok) (.inl rfl) ?_ | refine goDCall_p (wakes12_ok) (.inl rfl) ?_)
       | skip) <;> simp only [h, ↓upd_eq, ↓envL_cons, Go.Ab.W0, Go.Ab.WD, if_true, if_false, reduceIte, Nat.reduceEqDiff, Nat.reduceAdd, Nat.reduceLT, Nat.reduceLeDiff, reduceCtorEq, Nat.reduceMul, implies_true, forall_eq_or_imp, forall_eq, Nat.reducePow, W1, fs_frz, fs_frz0, fs_env, fs_b, fs_n, fs_put, fs_put0, fs_tmp, fs_const, fs_func, fs_obj, fs_setObj, fs_new, fs_next, fs_mk, fs_H, le_app, le_set, app_get, app_set, app_get0c, app_getkc, app_set0c, app_setkc, List.append_assoc, not_false_eq_true, not_true_eq_false, retE_ret, retP_ret, List.length_append, List.length_set, Nat.le_succ, hpS, bxS, arS, stP hs hr hne, retD_ret, retD_normal, AV.bel, mapN_len, hlt]
      all_goals exact st_take hbs hbr ht
  · obtain ⟨lm, hlm⟩ : ∃ lm, lm = lim := ⟨_, rfl⟩
    subst hlm
    have hsmall : lm ≤ 2000 := by omega
    refine pcalls_text C_ok Try.func4 rfl (by decide) (Nat.le_of_ble_eq_true rfl) (by decide) rfl fun ok H => ?_
    rw [Try.results4]
    rw [initS_fs]
    have hnew0 := new_st H (lm)
    have hM1 : ∃ M : Nat, limOf (lm) = M ∧ (if 0 > (lm) then 0 else (lm)) = (M : Int) ∧ M ≤ 2000 := by
      refine ⟨(limOf (lm)).toNat, ?_⟩
      have : (lm) ≤ 2000 := hsmall
      unfold limOf
      split <;> split at * <;> omega
    obtain ⟨M, hM, hmx, hM2⟩ := hM1
    rw [hM] at hnew0
    obtain ⟨G, s, r, hs, hr, hne, hl, ht, hbs, hbr, hnew⟩ := hnew0
    have hle : ∀ k, (H.length ≤ G.length + k) = True := fun k => by simp only [eq_iff_iff, iff_true]; omega
    have hb0 : H.length ≤ H.length := Nat.le_refl _
    have h := True.intro
    repeat' (first
     | (with_reducible first | refine goIf_b ?_ ?_ | refine goIf_n ?_ ?_ | refine goIf_d ?_ ?_ | refine goIf_split ?_ ?_ | refine goGb_b ?_ ?_ | refine goGb_n ?_ ?_ | refine goGb_d ?_ ?_ | refine goGb_split ?_ ?_ | refine goDGb_b ?_ ?_ | refine goDGb_n ?_ ?_ | refine goDGb_d ?_ ?_ | refine goDGb_split ?_ ?_) <;> intro h
     | ((first | refine goCall_norm ?_ | refine goDCall_norm ?_); simp only [AV.norm, AV.normL, W2, hpS, bxS, arS, stP hs hr hne, retD_ret, retD_normal, AV.bel, mapN_len, hb0, hl, hle, hmx, AV.belL, h60]; first | refine goCall_p (hk) (.inl rfl) ?_ | refine goDCall_p (hk) (.inl rfl) ?_ | refine fsCallD (hnew) (.inl rfl) (fun hb => new_bel (by simp) hbs hbr ht hb) ?_)
     | skip) <;> simp only [h, ↓upd_eq, ↓envL_cons, Go.Ab.W0, Go.Ab.WD, if_true, if_false, reduceIte, Nat.reduceEqDiff, Nat.reduceAdd, Nat.reduceLT, Nat.reduceLeDiff, reduceCtorEq, Nat.reduceMul, implies_true, forall_eq_or_imp, forall_eq, Nat.reducePow, W1, fs_frz, fs_frz0, fs_env, fs_b, fs_n, fs_put, fs_put0, fs_tmp, fs_const, fs_func, fs_obj, fs_setObj, fs_new, fs_next, fs_mk, fs_H, le_app, le_set, app_get, app_set, app_get0c, app_getkc, app_set0c, app_setkc, List.append_assoc, not_false_eq_true, not_true_eq_false, retE_ret, retP_ret, List.length_append, List.length_set, Nat.le_succ, hpS, bxS, arS, stP hs hr hne, retD_ret, retD_normal, AV.bel, mapN_len, hb0, hl, hle, hmx, AV.belL, h60]
    refine aloop_trimF [7, 1, 5, 6] ?_
    simp only [List.map_cons, List.map_nil, ↓upd_eq, ↓envL_cons, Go.Ab.W0, Go.Ab.WD, if_true, if_false, reduceIte, Nat.reduceEqDiff, Nat.reduceAdd, Nat.reduceLT, Nat.reduceLeDiff, reduceCtorEq, Nat.reduceMul, implies_true, forall_eq_or_imp, forall_eq, Nat.reducePow, W1, fs_frz, fs_frz0, fs_env, fs_b, fs_n, fs_put, fs_put0, fs_tmp, fs_const, fs_func, fs_obj, fs_setObj, fs_new, fs_next, fs_mk, fs_H, le_app, le_set, app_get, app_set, app_get0c, app_getkc, app_set0c, app_setkc, List.append_assoc, not_false_eq_true, not_true_eq_false, retE_ret, retP_ret, List.length_append, List.length_set, Nat.le_succ]
    refine goLoopF 1 (fun i : Nat => [(7, .int .i64 i)]) (fun i => hpS G s r (4 + min i M) (limL (min i M)) M ((min i M : Nat) : Int) 0) (fun i => i ≤ N) (fun i => N - i) C_ok 0 rfl (by simp only [Nat.zero_min]; rfl) (Nat.zero_le _) (by decide) ?_
    rintro i hi
    simp only [List.drop_succ_cons, List.drop_zero, List.cons_append, List.nil_append]
    by_cases hlt : i < N
    · have w5 : IntKind.wrap .i64 (5 + (i : Int)) = 5 + (i : Int) := wrap_i (by omega) (by omega)
      have w6 : IntKind.wrap .i64 (5 + (i : Int) + 1) = 5 + (i : Int) + 1 := wrap_i (by omega) (by omega)
      have w7 : IntKind.wrap .i64 ((i : Int) + 1) = (i : Int) + 1 := wrap_i (by omega) (by omega)
      have hc : ((i + 1 : Nat) : Int) = (i : Int) + 1 := rfl
      have hmax : N ≤ maxLen := by rw [maxLen_val]; omega
      by_cases hlm2 : i < M
      · have e1 : min i M = i := Nat.min_eq_left (by omega)
        have e2 : min (i + 1) M = i + 1 := Nat.min_eq_left (by omega)
        have hm : (if (M : Int) < (i : Int) + 1 then (M : Int) else (i : Int) + 1) = (i : Int) + 1 := by rw [if_neg (by omega)]
        simp only [e1]
        have h := True.intro
        repeat' (first
         | (with_reducible first | refine goIf_b ?_ ?_ | refine goIf_n ?_ ?_ | refine goIf_d ?_ ?_ | refine goIf_split ?_ ?_ | refine goGb_b ?_ ?_ | refine goGb_n ?_ ?_ | refine goGb_d ?_ ?_ | refine goGb_split ?_ ?_ | refine goDGb_b ?_ ?_ | refine goDGb_n ?_ ?_ | refine goDGb_d ?_ ?_ | refine goDGb_split ?_ ?_) <;> intro h
         | ((first | refine goCall_norm ?_ | refine goDCall_norm ?_); simp only [AV.norm, AV.normL, W2, hpS, bxS, arS, stP hs hr hne, retD_ret, retD_normal, AV.bel, mapN_len, hb0, hl, hle, w5, w6, w7, hlt, hlm2, hm, AV.belL, bne_self_eq_false]; first  | refine fsCallD (lq_var hs hr hne hlm2 hM2) (.inl rfl) (fun hb => hpS_bel (by first | exact hs | exact lt_app hs | exact lt_app (lt_set hs) | exact lt_set hs) (by first | exact hr | exact lt_app hr | exact lt_app (lt_set hr) | exact lt_set hr) hne hb) ?_ | refine fsCallR (lq_Level hs hr hne) (.inl rfl) ?_ | refine fsCallR (lq_Root hs hr hne) (.inl rfl) ?_ | refine fsCallR (scount_ok hs hr hne) (.inl rfl) ?_ | refine fsCallR (lq_Kind hs hr hne (Nat.le_refl _)) (.inl rfl) ?_)
         | skip) <;> simp only [h, ↓upd_eq, ↓envL_cons, Go.Ab.W0, Go.Ab.WD, if_true, if_false, reduceIte, Nat.reduceEqDiff, Nat.reduceAdd, Nat.reduceLT, Nat.reduceLeDiff, reduceCtorEq, Nat.reduceMul, implies_true, forall_eq_or_imp, forall_eq, Nat.reducePow, W1, fs_frz, fs_frz0, fs_env, fs_b, fs_n, fs_put, fs_put0, fs_tmp, fs_const, fs_func, fs_obj, fs_setObj, fs_new, fs_next, fs_mk, fs_H, le_app, le_set, app_get, app_set, app_get0c, app_getkc, app_set0c, app_setkc, List.append_assoc, not_false_eq_true, not_true_eq_false, retE_ret, retP_ret, List.length_append, List.length_set, Nat.le_succ, hpS, bxS, arS, stP hs hr hne, retD_ret, retD_normal, AV.bel, mapN_len, hb0, hl, hle, w5, w6, w7, hlt, hlm2, hm, AV.belL, bne_self_eq_false]
        refine ⟨i + 1, hlt, by omega, weakF ?_ ?_⟩
        · (simp only [e2]) <;> rfl
        · simp only [List.forall_mem_cons, mem_nil_all, frz_app, ↓upd_eq, ↓envL_cons, Nat.reduceEqDiff, if_true, if_false, reduceIte, true_and, and_true, and_self, true_or, or_true, implies_true, List.not_mem_nil, false_implies, AV.bel, AV.belL, AObj.bel, AV.norm, AV.normL, Bool.and_true, Bool.true_and, decide_true, decide_eq_true_eq, List.length_cons, List.length_nil, Nat.zero_add, Nat.reduceAdd, Nat.lt_add_one, Nat.lt_add_right_iff_pos, Nat.zero_lt_succ, Nat.zero_lt_one, Nat.reduceLT, List.take_succ_cons, List.take_zero, hc]
      · have e1 : min i M = M := Nat.min_eq_right (by omega)
        have e2 : min (i + 1) M = M := Nat.min_eq_right (by omega)
        have hm : (if (M : Int) < (i : Int) + 1 then (M : Int) else (i : Int) + 1) = (M : Int) := by rw [if_pos (by omega)]
        simp only [e1]
        have h := True.intro
        repeat' (first
         | (with_reducible first | refine goIf_b ?_ ?_ | refine goIf_n ?_ ?_ | refine goIf_d ?_ ?_ | refine goIf_split ?_ ?_ | refine goGb_b ?_ ?_ | refine goGb_n ?_ ?_ | refine goGb_d ?_ ?_ | refine goGb_split ?_ ?_ | refine goDGb_b ?_ ?_ | refine goDGb_n ?_ ?_ | refine goDGb_d ?_ ?_ | refine goDGb_split ?_ ?_) <;> intro h
         | ((first | refine goCall_norm ?_ | refine goDCall_norm ?_); simp only [AV.norm, AV.normL, W2, hpS, bxS, arS, stP hs hr hne, retD_ret, retD_normal, AV.bel, mapN_len, hb0, hl, hle, w5, w6, w7, hlt, hlm2, hm, AV.belL, bne_self_eq_false]; first  | refine fsCallD (lq_full hs hr hne) (.inl rfl) (fun hb => hpS_bel (by first | exact hs | exact lt_app hs | exact lt_app (lt_set hs) | exact lt_set hs) (by first | exact hr | exact lt_app hr | exact lt_app (lt_set hr) | exact lt_set hr) hne hb) ?_ | refine fsCallR (scount_ok hs hr hne) (.inl rfl) ?_ | refine fsCallR (lq_Kind hs hr hne (by omega)) (.inl rfl) ?_)
         | skip) <;> simp only [h, ↓upd_eq, ↓envL_cons, Go.Ab.W0, Go.Ab.WD, if_true, if_false, reduceIte, Nat.reduceEqDiff, Nat.reduceAdd, Nat.reduceLT, Nat.reduceLeDiff, reduceCtorEq, Nat.reduceMul, implies_true, forall_eq_or_imp, forall_eq, Nat.reducePow, W1, fs_frz, fs_frz0, fs_env, fs_b, fs_n, fs_put, fs_put0, fs_tmp, fs_const, fs_func, fs_obj, fs_setObj, fs_new, fs_next, fs_mk, fs_H, le_app, le_set, app_get, app_set, app_get0c, app_getkc, app_set0c, app_setkc, List.append_assoc, not_false_eq_true, not_true_eq_false, retE_ret, retP_ret, List.length_append, List.length_set, Nat.le_succ, hpS, bxS, arS, stP hs hr hne, retD_ret, retD_normal, AV.bel, mapN_len, hb0, hl, hle, w5, w6, w7, hlt, hlm2, hm, AV.belL, bne_self_eq_false]
        refine ⟨i + 1, hlt, by omega, weakF ?_ ?_⟩
        · (simp only [e2]) <;> rfl
        · simp only [List.forall_mem_cons, mem_nil_all, frz_app, ↓upd_eq, ↓envL_cons, Nat.reduceEqDiff, if_true, if_false, reduceIte, true_and, and_true, and_self, true_or, or_true, implies_true, List.not_mem_nil, false_implies, AV.bel, AV.belL, AObj.bel, AV.norm, AV.normL, Bool.and_true, Bool.true_and, decide_true, decide_eq_true_eq, List.length_cons, List.length_nil, Nat.zero_add, Nat.reduceAdd, Nat.lt_add_one, Nat.lt_add_right_iff_pos, Nat.zero_lt_succ, Nat.zero_lt_one, Nat.reduceLT, List.take_succ_cons, List.take_zero, hc]
    · have h := True.intro
      repeat' (first
       | (with_reducible first | refine goIf_b ?_ ?_ | refine goIf_n ?_ ?_ | refine goIf_d ?_ ?_ | refine goIf_split ?_ ?_ | refine goGb_b ?_ ?_ | refine goGb_n ?_ ?_ | refine goGb_d ?_ ?_ | refine goGb_split ?_ ?_ | refine goDGb_b ?_ ?_ | refine goDGb_n ?_ ?_ | refine goDGb_d ?_ ?_ | refine goDGb_split ?_ ?_) <;> intro h
       | ((first | refine goCall_norm ?_ | refine goDCall_norm ?_); simp only [AV.norm, AV.normL, W2, hpS, bxS, arS, stP hs hr hne, retD_ret, retD_normal, AV.bel, mapN_len, hlt]; first | refine goCall_p (wakes12_ok) (.inl rfl) ?_ | refine goDCall_p (wakes12_ok) (.inl rfl) ?_)
       | skip) <;> simp only [h, ↓upd_eq, ↓envL_cons, Go.Ab.W0, Go.Ab.WD, if_true, if_false, reduceIte, Nat.reduceEqDiff, Nat.reduceAdd, Nat.reduceLT, Nat.reduceLeDiff, reduceCtorEq, Nat.reduceMul, implies_true, forall_eq_or_imp, forall_eq, Nat.reducePow, W1, fs_frz, fs_frz0, fs_env, fs_b, fs_n, fs_put, fs_put0, fs_tmp, fs_const, fs_func, fs_obj, fs_setObj, fs_new, fs_next, fs_mk, fs_H, le_app, le_set, app_get, app_set, app_get0c, app_getkc, app_set0c, app_setkc, List.append_assoc, not_false_eq_true, not_true_eq_false, retE_ret, retP_ret, List.length_append, List.length_set, Nat.le_succ, hpS, bxS, arS, stP hs hr hne, retD_ret, retD_normal, AV.bel, mapN_len, hlt]
      all_goals exact st_take hbs hbr ht

end Go.Proofs.Ytdngjamjccjlmaa
