/- Walks: the names of a pattern, as the page has them. No condition. -/
import Derived.Test.YtofogicgnldfhaaZ3
set_option linter.unusedSimpArgs false
set_option linter.unusedVariables false
set_option maxHeartbeats 4000000
set_option maxRecDepth 100000
namespace Go.Proofs.Ytofogicgnldfhaa
open Go Go.Ab
open Nat (reduceEqDiff reduceAdd reduceLT reduceLeDiff reduceMul reducePow)
attribute [local irreducible] PCalls ACalls CallK GoCall GoDCall GoIf GoGb GoDGb GoO GoD GoX GoDX GoG GoDG GoGv GoDGv Go ALoop

def ST (s : ByteArray) : AV := .str s
theorem st_eq (s : ByteArray) : ST s = .str s := rfl
theorem strs_bel (m : Nat) (l : List ByteArray) : AV.belL m (l.map ST) = true := by induction l with | nil => rfl | cons b l ih => simp [AV.belL, AV.bel, ST]; simpa [ST] using ih
theorem strs_norm (l : List ByteArray) : AV.normL (l.map ST) = l.map ST := by induction l with | nil => rfl | cons b l ih => simp [AV.normL, AV.norm, ST]; simpa [ST] using ih
theorem all_str1 (l : List ByteArray) : (∀ y, y ∈ l.map ST → (cellsOf y).length = 1) = True := by
  simp only [eq_iff_iff, iff_true]; intro y hy; obtain ⟨t, _, rfl⟩ := List.mem_map.1 hy; rfl
theorem map_str_get {l : List ByteArray} {i : Nat} (h : i < l.length) : (l.map ST).getD i .any = ST (l.getD i ByteArray.empty) := by simp [h]
mutual
def namesF : Pt → List ByteArray → List ByteArray
  | .mk k _ _ m _ _ l, out => namesFL l (if k = 2 then out ++ [m] else out)
def namesFL : List Pt → List ByteArray → List ByteArray
  | [], out => out
  | t :: l, out => namesFL l (namesF t out)
end
theorem namesF_eq (p : Pt) (out : List ByteArray) : namesF p out = namesFL p.kids (if p.kind = 2 then out ++ [p.name] else out) := by cases p; rw [namesF]; rfl
mutual
theorem namesF_len : ∀ (p : Pt) (out : List ByteArray), (namesF p out).length ≤ out.length + sizeP p
  | .mk k f t m n s l, out => by
    rw [namesF]
    have := namesFL_len l (if k = 2 then out ++ [m] else out)
    have h2 : (if k = 2 then out ++ [m] else out).length ≤ out.length + 1 := by split <;> simp
    simp only [sizeP]; omega
theorem namesFL_len : ∀ (l : List Pt) (out : List ByteArray), (namesFL l out).length ≤ out.length + sizePL l
  | [], out => by simp [namesFL]
  | t :: l, out => by
    have h1 := namesFL_len l (namesF t out)
    have h2 := namesF_len t out
    simp only [namesFL, sizePL]; omega
end
theorem sizeP_eq (p : Pt) : sizeP p = 1 + sizePL p.kids := by cases p; rfl
theorem sizePL_len : ∀ l : List Pt, l.length ≤ sizePL l
  | [] => Nat.le_refl _
  | t :: l => by have := sizePL_len l; have h := sizeP_eq t; simp only [sizePL, List.length_cons]; omega
abbrev RNamesOK (t : Pt) : Prop := ∀ (l : List ByteArray) (a : AV) (F : List AObj), l.length + sizeP t ≤ 1000000 → AccOK 1 F (l.map ST) a → ACalls Try.prog 94 [embP t, a] F fun r F' => AccR 1 F a ((namesF t l).map ST) r F'


theorem rnames_step (t : Pt) (ih : ∀ x ∈ t.kids, RNamesOK x) : RNamesOK t := by
  intro l a F hl hacc
  have hlen := sizePL_len t.kids
  have hnod := sizeP_eq t
  have hb : F.length ≤ F.length := Nat.le_refl _
  have hmax : t.kids.length ≤ maxLen := by rw [maxLen_val]; omega
  have hvf := namesF_eq t l
  rcases hacc with ⟨e1, rfl⟩ | ⟨q, rfl, hq⟩
  · obtain rfl : l = [] := List.map_eq_nil_iff.1 e1
    have hacc : AccOK 1 F (([] : List ByteArray).map ST) (.sl [] .full) := .inl ⟨rfl, rfl⟩
    refine acalls_text C_ok Try.func94 rfl (by decide) (Nat.le_of_ble_eq_true rfl) (by decide) fun ok => ?_
    rw [Try.results94]
    have h := True.intro
    repeat' (first
     | (with_reducible first | apply bA | apply bB | apply bC | apply bD | apply bE | apply bF) <;> intro h
     | skip) <;> simp only [h, ↓upd_eq, ↓envL_cons, WY, reduceIte, reduceEqDiff, reduceAdd, reduceLT, reduceLeDiff, reduceCtorEq, reduceMul, reducePow, W1, W1P, fs_frz, fs_frz0, fs_env, fs_b, fs_n, fs_put, fs_put0, fs_tmp, fs_const, fs_func, fs_obj, fs_setObj, fs_new, fs_next, fs_mk, fs_H, le_app, le_set, app_get, app_set, app_get0c, app_getkc, app_set0c, app_setkc, List.append_assoc, not_false_eq_true, not_true_eq_false, retE_ret, retP_ret, List.length_append, List.length_set, Nat.le_succ, List.not_mem_nil]
    · refine aloop_trimF [1, 5, 2] ?_
      simp only [List.map_cons, List.map_nil, ↓upd_eq, ↓envL_cons, WY, reduceIte, reduceEqDiff, reduceAdd, reduceLT, reduceLeDiff, reduceCtorEq, reduceMul, reducePow, W1, W1P, fs_frz, fs_frz0, fs_env, fs_b, fs_n, fs_put, fs_put0, fs_tmp, fs_const, fs_func, fs_obj, fs_setObj, fs_new, fs_next, fs_mk, fs_H, le_app, le_set, app_get, app_set, app_get0c, app_getkc, app_set0c, app_setkc, List.append_assoc, not_false_eq_true, not_true_eq_false, retE_ret, retP_ret, List.length_append, List.length_set, Nat.le_succ]
      refine goLoopF 2 (fun x : Nat × AV × List ByteArray × List AObj => [(1, x.2.1), (5, .int .i64 x.1)]) (fun x => x.2.2.2) (fun x => x.1 ≤ t.kids.length ∧ AccR 1 F (.sl [] .full) (x.2.2.1.map ST) x.2.1 x.2.2.2 ∧ x.2.2.2[F.length]? = some (.box (cellsOf (embP t))) ∧ namesFL (t.kids.drop x.1) x.2.2.1 = namesF t [] ∧ x.2.2.1.length + sizePL (t.kids.drop x.1) ≤ 1000000) (fun x => t.kids.length - x.1) C_ok (0, _, [t.name], _) rfl rfl ⟨Nat.zero_le _, by have := (AccR.junk (F := F) hacc [.box (cellsOf (embP t))]).trans hacc (AccR.app0 (ST t.name)); simpa [embP_cells, ST] using this, by rw [embP_cells]; simp, by rw [List.drop_zero, hvf]; simp_all, by simp only [List.drop_zero, List.length_append, List.length_cons, List.length_nil]; (try simp only [List.length_nil] at hl); omega⟩ (by decide) ?_
      rintro ⟨i, a1, l1, F1⟩ ⟨hi, h1, h2, h3, h4⟩
      simp only at hi h1 h2 h3 h4
      rw [embP_cells] at h2
      have hacc1 := AccR.ok hacc h1
      have hb1 := h1.len
      simp only [List.drop_succ_cons, List.drop_zero, List.cons_append, List.nil_append]
      simp only [↓upd_eq, ↓envL_cons, WY, reduceIte, reduceEqDiff, reduceAdd, reduceLT, reduceLeDiff, reduceCtorEq, reduceMul, reducePow, W1, W1P, fs_frz, fs_frz0, fs_env, fs_b, fs_n, fs_put, fs_put0, fs_tmp, fs_const, fs_func, fs_obj, fs_setObj, fs_new, fs_next, fs_mk, fs_H, le_app, le_set, app_get, app_set, app_get0c, app_getkc, app_set0c, app_setkc, List.append_assoc, not_false_eq_true, not_true_eq_false, retE_ret, retP_ret, List.length_append, List.length_set, Nat.le_succ, h2]
      refine goIf_d (fun hlt => ?_) (fun hlt => ?_)
      · simp only [↓upd_eq, ↓envL_cons, WY, reduceIte, reduceEqDiff, reduceAdd, reduceLT, reduceLeDiff, reduceCtorEq, reduceMul, reducePow, W1, W1P, fs_frz, fs_frz0, fs_env, fs_b, fs_n, fs_put, fs_put0, fs_tmp, fs_const, fs_func, fs_obj, fs_setObj, fs_new, fs_next, fs_mk, fs_H, le_app, le_set, app_get, app_set, app_get0c, app_getkc, app_set0c, app_setkc, List.append_assoc, not_false_eq_true, not_true_eq_false, retE_ret, retP_ret, List.length_append, List.length_set, Nat.le_succ, h2, hlt, mapP_kid hlt]
        have hdr := dropP_kid hlt
        rw [hdr] at h3 h4
        simp only [sizePL, namesFL] at h3 h4
        refine fsCall (ih _ (ptkid_mem hlt) l1 a1 F1 (by omega) hacc1) (.inl rfl) fun r F2 hr hlen2 => ⟨fun hbel => hr.bel hacc1 hb1 hbel, ?_⟩
        have hg := hr.get hacc1 h2 (by intro m; simp)
        have hl2 := namesF_len (t.kid i) l1
        simp only [↓upd_eq, ↓envL_cons, WY, reduceIte, reduceEqDiff, reduceAdd, reduceLT, reduceLeDiff, reduceCtorEq, reduceMul, reducePow, W1, W1P, fs_frz, fs_frz0, fs_env, fs_b, fs_n, fs_put, fs_put0, fs_tmp, fs_const, fs_func, fs_obj, fs_setObj, fs_new, fs_next, fs_mk, fs_H, le_app, le_set, app_get, app_set, app_get0c, app_getkc, app_set0c, app_setkc, List.append_assoc, not_false_eq_true, not_true_eq_false, retE_ret, retP_ret, List.length_append, List.length_set, Nat.le_succ, hg]
        refine ⟨(i + 1, r, namesF (t.kid i) l1, F2), ⟨hlt, h1.trans hacc hr, by first | exact hg | (rw [embP_cells]; exact hg), h3, by simp only; omega⟩, by simp only; omega, weakF rfl ?_⟩
        simp only [List.forall_mem_cons, mem_nil_all, frz_app, ↓upd_eq, ↓envL_cons, Nat.reduceEqDiff, if_true, if_false, reduceIte, true_and, and_true, and_self, true_or, or_true, implies_true, List.not_mem_nil, false_implies, AV.bel, AV.belL, AObj.bel, AV.norm, AV.normL, Bool.and_true, Bool.true_and, decide_true, decide_eq_true_eq, List.length_cons, List.length_nil, Nat.zero_add, Nat.reduceAdd, Nat.lt_add_one, Nat.lt_add_right_iff_pos, Nat.zero_lt_succ, Nat.zero_lt_one, Nat.reduceLT, List.take_succ_cons, List.take_zero, wrap_succ hlt hmax]
      · simp only [↓upd_eq, ↓envL_cons, WY, reduceIte, reduceEqDiff, reduceAdd, reduceLT, reduceLeDiff, reduceCtorEq, reduceMul, reducePow, W1, W1P, fs_frz, fs_frz0, fs_env, fs_b, fs_n, fs_put, fs_put0, fs_tmp, fs_const, fs_func, fs_obj, fs_setObj, fs_new, fs_next, fs_mk, fs_H, le_app, le_set, app_get, app_set, app_get0c, app_getkc, app_set0c, app_setkc, List.append_assoc, not_false_eq_true, not_true_eq_false, retE_ret, retP_ret, List.length_append, List.length_set, Nat.le_succ, h2]
        have hi' : i = t.kids.length := by omega
        subst hi'
        rw [List.drop_length] at h3
        simp only [namesFL] at h3
        rw [← h3]; exact h1
    · refine aloop_trimF [1, 5, 2] ?_
      simp only [List.map_cons, List.map_nil, ↓upd_eq, ↓envL_cons, WY, reduceIte, reduceEqDiff, reduceAdd, reduceLT, reduceLeDiff, reduceCtorEq, reduceMul, reducePow, W1, W1P, fs_frz, fs_frz0, fs_env, fs_b, fs_n, fs_put, fs_put0, fs_tmp, fs_const, fs_func, fs_obj, fs_setObj, fs_new, fs_next, fs_mk, fs_H, le_app, le_set, app_get, app_set, app_get0c, app_getkc, app_set0c, app_setkc, List.append_assoc, not_false_eq_true, not_true_eq_false, retE_ret, retP_ret, List.length_append, List.length_set, Nat.le_succ]
      refine goLoopF 2 (fun x : Nat × AV × List ByteArray × List AObj => [(1, x.2.1), (5, .int .i64 x.1)]) (fun x => x.2.2.2) (fun x => x.1 ≤ t.kids.length ∧ AccR 1 F (.sl [] .full) (x.2.2.1.map ST) x.2.1 x.2.2.2 ∧ x.2.2.2[F.length]? = some (.box (cellsOf (embP t))) ∧ namesFL (t.kids.drop x.1) x.2.2.1 = namesF t [] ∧ x.2.2.1.length + sizePL (t.kids.drop x.1) ≤ 1000000) (fun x => t.kids.length - x.1) C_ok (0, _, [], _) rfl rfl ⟨Nat.zero_le _, AccR.junk hacc _, by rw [embP_cells]; simp, by rw [List.drop_zero, hvf]; simp_all, by simp only [List.drop_zero, List.length_append, List.length_cons, List.length_nil]; (try simp only [List.length_nil] at hl); omega⟩ (by decide) ?_
      rintro ⟨i, a1, l1, F1⟩ ⟨hi, h1, h2, h3, h4⟩
      simp only at hi h1 h2 h3 h4
      rw [embP_cells] at h2
      have hacc1 := AccR.ok hacc h1
      have hb1 := h1.len
      simp only [List.drop_succ_cons, List.drop_zero, List.cons_append, List.nil_append]
      simp only [↓upd_eq, ↓envL_cons, WY, reduceIte, reduceEqDiff, reduceAdd, reduceLT, reduceLeDiff, reduceCtorEq, reduceMul, reducePow, W1, W1P, fs_frz, fs_frz0, fs_env, fs_b, fs_n, fs_put, fs_put0, fs_tmp, fs_const, fs_func, fs_obj, fs_setObj, fs_new, fs_next, fs_mk, fs_H, le_app, le_set, app_get, app_set, app_get0c, app_getkc, app_set0c, app_setkc, List.append_assoc, not_false_eq_true, not_true_eq_false, retE_ret, retP_ret, List.length_append, List.length_set, Nat.le_succ, h2]
      refine goIf_d (fun hlt => ?_) (fun hlt => ?_)
      · simp only [↓upd_eq, ↓envL_cons, WY, reduceIte, reduceEqDiff, reduceAdd, reduceLT, reduceLeDiff, reduceCtorEq, reduceMul, reducePow, W1, W1P, fs_frz, fs_frz0, fs_env, fs_b, fs_n, fs_put, fs_put0, fs_tmp, fs_const, fs_func, fs_obj, fs_setObj, fs_new, fs_next, fs_mk, fs_H, le_app, le_set, app_get, app_set, app_get0c, app_getkc, app_set0c, app_setkc, List.append_assoc, not_false_eq_true, not_true_eq_false, retE_ret, retP_ret, List.length_append, List.length_set, Nat.le_succ, h2, hlt, mapP_kid hlt]
        have hdr := dropP_kid hlt
        rw [hdr] at h3 h4
        simp only [sizePL, namesFL] at h3 h4
        refine fsCall (ih _ (ptkid_mem hlt) l1 a1 F1 (by omega) hacc1) (.inl rfl) fun r F2 hr hlen2 => ⟨fun hbel => hr.bel hacc1 hb1 hbel, ?_⟩
        have hg := hr.get hacc1 h2 (by intro m; simp)
        have hl2 := namesF_len (t.kid i) l1
        simp only [↓upd_eq, ↓envL_cons, WY, reduceIte, reduceEqDiff, reduceAdd, reduceLT, reduceLeDiff, reduceCtorEq, reduceMul, reducePow, W1, W1P, fs_frz, fs_frz0, fs_env, fs_b, fs_n, fs_put, fs_put0, fs_tmp, fs_const, fs_func, fs_obj, fs_setObj, fs_new, fs_next, fs_mk, fs_H, le_app, le_set, app_get, app_set, app_get0c, app_getkc, app_set0c, app_setkc, List.append_assoc, not_false_eq_true, not_true_eq_false, retE_ret, retP_ret, List.length_append, List.length_set, Nat.le_succ, hg]
        refine ⟨(i + 1, r, namesF (t.kid i) l1, F2), ⟨hlt, h1.trans hacc hr, by first | exact hg | (rw [embP_cells]; exact hg), h3, by simp only; omega⟩, by simp only; omega, weakF rfl ?_⟩
        simp only [List.forall_mem_cons, mem_nil_all, frz_app, ↓upd_eq, ↓envL_cons, Nat.reduceEqDiff, if_true, if_false, reduceIte, true_and, and_true, and_self, true_or, or_true, implies_true, List.not_mem_nil, false_implies, AV.bel, AV.belL, AObj.bel, AV.norm, AV.normL, Bool.and_true, Bool.true_and, decide_true, decide_eq_true_eq, List.length_cons, List.length_nil, Nat.zero_add, Nat.reduceAdd, Nat.lt_add_one, Nat.lt_add_right_iff_pos, Nat.zero_lt_succ, Nat.zero_lt_one, Nat.reduceLT, List.take_succ_cons, List.take_zero, wrap_succ hlt hmax]
      · simp only [↓upd_eq, ↓envL_cons, WY, reduceIte, reduceEqDiff, reduceAdd, reduceLT, reduceLeDiff, reduceCtorEq, reduceMul, reducePow, W1, W1P, fs_frz, fs_frz0, fs_env, fs_b, fs_n, fs_put, fs_put0, fs_tmp, fs_const, fs_func, fs_obj, fs_setObj, fs_new, fs_next, fs_mk, fs_H, le_app, le_set, app_get, app_set, app_get0c, app_getkc, app_set0c, app_setkc, List.append_assoc, not_false_eq_true, not_true_eq_false, retE_ret, retP_ret, List.length_append, List.length_set, Nat.le_succ, h2]
        have hi' : i = t.kids.length := by omega
        subst hi'
        rw [List.drop_length] at h3
        simp only [namesFL] at h3
        rw [← h3]; exact h1
  · have hacc : AccOK 1 F (l.map ST) (.sl (l.map ST) (.own q)) := .inr ⟨q, rfl, hq⟩
    have hql := get_lt hq
    rw [List.length_map] at hq
    refine acalls_text C_ok Try.func94 rfl (by decide) (Nat.le_of_ble_eq_true rfl) (by decide) fun ok => ?_
    rw [Try.results94]
    have h := True.intro
    repeat' (first
     | (with_reducible first | apply bA | apply bB | apply bC | apply bD | apply bE | apply bF) <;> intro h
     | skip) <;> simp only [h, ↓upd_eq, ↓envL_cons, WY, reduceIte, reduceEqDiff, reduceAdd, reduceLT, reduceLeDiff, reduceCtorEq, reduceMul, reducePow, W1, W1P, fs_frz, fs_frz0, fs_env, fs_b, fs_n, fs_put, fs_put0, fs_tmp, fs_const, fs_func, fs_obj, fs_setObj, fs_new, fs_next, fs_mk, fs_H, le_app, le_set, app_get, app_set, app_get0c, app_getkc, app_set0c, app_setkc, List.append_assoc, not_false_eq_true, not_true_eq_false, retE_ret, retP_ret, List.length_append, List.length_set, Nat.le_succ, strs_norm, app_get hql, app_set hql, hq, all_str1, List.length_map]
    · refine ⟨⟨by omega, by omega⟩, ?_⟩
      refine aloop_trimF [1, 5, 2] ?_
      simp only [List.map_cons, List.map_nil, ↓upd_eq, ↓envL_cons, WY, reduceIte, reduceEqDiff, reduceAdd, reduceLT, reduceLeDiff, reduceCtorEq, reduceMul, reducePow, W1, W1P, fs_frz, fs_frz0, fs_env, fs_b, fs_n, fs_put, fs_put0, fs_tmp, fs_const, fs_func, fs_obj, fs_setObj, fs_new, fs_next, fs_mk, fs_H, le_app, le_set, app_get, app_set, app_get0c, app_getkc, app_set0c, app_setkc, List.append_assoc, not_false_eq_true, not_true_eq_false, retE_ret, retP_ret, List.length_append, List.length_set, Nat.le_succ]
      refine goLoopF 2 (fun x : Nat × AV × List ByteArray × List AObj => [(1, x.2.1), (5, .int .i64 x.1)]) (fun x => x.2.2.2) (fun x => x.1 ≤ t.kids.length ∧ AccR 1 F (.sl (l.map ST) (.own q)) (x.2.2.1.map ST) x.2.1 x.2.2.2 ∧ x.2.2.2[F.length]? = some (.box (cellsOf (embP t))) ∧ namesFL (t.kids.drop x.1) x.2.2.1 = namesF t l ∧ x.2.2.1.length + sizePL (t.kids.drop x.1) ≤ 1000000) (fun x => t.kids.length - x.1) C_ok (0, _, l ++ [t.name], _) rfl rfl ⟨Nat.zero_le _, by have h0 := AccR.app (sz := 1) (F := F) (es := l.map ST) (q := q) (ST t.name); have := h0.trans hacc (AccR.junk (h0.ok hacc) [.box (cellsOf (embP t))]); simpa [embP_cells, ST] using this, by rw [embP_cells]; simp, by rw [List.drop_zero, hvf]; simp_all, by simp only [List.drop_zero, List.length_append, List.length_cons, List.length_nil]; (try simp only [List.length_nil] at hl); omega⟩ (by decide) ?_
      rintro ⟨i, a1, l1, F1⟩ ⟨hi, h1, h2, h3, h4⟩
      simp only at hi h1 h2 h3 h4
      rw [embP_cells] at h2
      have hacc1 := AccR.ok hacc h1
      have hb1 := h1.len
      simp only [List.drop_succ_cons, List.drop_zero, List.cons_append, List.nil_append]
      simp only [↓upd_eq, ↓envL_cons, WY, reduceIte, reduceEqDiff, reduceAdd, reduceLT, reduceLeDiff, reduceCtorEq, reduceMul, reducePow, W1, W1P, fs_frz, fs_frz0, fs_env, fs_b, fs_n, fs_put, fs_put0, fs_tmp, fs_const, fs_func, fs_obj, fs_setObj, fs_new, fs_next, fs_mk, fs_H, le_app, le_set, app_get, app_set, app_get0c, app_getkc, app_set0c, app_setkc, List.append_assoc, not_false_eq_true, not_true_eq_false, retE_ret, retP_ret, List.length_append, List.length_set, Nat.le_succ, h2]
      refine goIf_d (fun hlt => ?_) (fun hlt => ?_)
      · simp only [↓upd_eq, ↓envL_cons, WY, reduceIte, reduceEqDiff, reduceAdd, reduceLT, reduceLeDiff, reduceCtorEq, reduceMul, reducePow, W1, W1P, fs_frz, fs_frz0, fs_env, fs_b, fs_n, fs_put, fs_put0, fs_tmp, fs_const, fs_func, fs_obj, fs_setObj, fs_new, fs_next, fs_mk, fs_H, le_app, le_set, app_get, app_set, app_get0c, app_getkc, app_set0c, app_setkc, List.append_assoc, not_false_eq_true, not_true_eq_false, retE_ret, retP_ret, List.length_append, List.length_set, Nat.le_succ, h2, hlt, mapP_kid hlt]
        have hdr := dropP_kid hlt
        rw [hdr] at h3 h4
        simp only [sizePL, namesFL] at h3 h4
        refine fsCall (ih _ (ptkid_mem hlt) l1 a1 F1 (by omega) hacc1) (.inl rfl) fun r F2 hr hlen2 => ⟨fun hbel => hr.bel hacc1 hb1 hbel, ?_⟩
        have hg := hr.get hacc1 h2 (by intro m; simp)
        have hl2 := namesF_len (t.kid i) l1
        simp only [↓upd_eq, ↓envL_cons, WY, reduceIte, reduceEqDiff, reduceAdd, reduceLT, reduceLeDiff, reduceCtorEq, reduceMul, reducePow, W1, W1P, fs_frz, fs_frz0, fs_env, fs_b, fs_n, fs_put, fs_put0, fs_tmp, fs_const, fs_func, fs_obj, fs_setObj, fs_new, fs_next, fs_mk, fs_H, le_app, le_set, app_get, app_set, app_get0c, app_getkc, app_set0c, app_setkc, List.append_assoc, not_false_eq_true, not_true_eq_false, retE_ret, retP_ret, List.length_append, List.length_set, Nat.le_succ, hg]
        refine ⟨(i + 1, r, namesF (t.kid i) l1, F2), ⟨hlt, h1.trans hacc hr, by first | exact hg | (rw [embP_cells]; exact hg), h3, by simp only; omega⟩, by simp only; omega, weakF rfl ?_⟩
        simp only [List.forall_mem_cons, mem_nil_all, frz_app, ↓upd_eq, ↓envL_cons, Nat.reduceEqDiff, if_true, if_false, reduceIte, true_and, and_true, and_self, true_or, or_true, implies_true, List.not_mem_nil, false_implies, AV.bel, AV.belL, AObj.bel, AV.norm, AV.normL, Bool.and_true, Bool.true_and, decide_true, decide_eq_true_eq, List.length_cons, List.length_nil, Nat.zero_add, Nat.reduceAdd, Nat.lt_add_one, Nat.lt_add_right_iff_pos, Nat.zero_lt_succ, Nat.zero_lt_one, Nat.reduceLT, List.take_succ_cons, List.take_zero, wrap_succ hlt hmax]
      · simp only [↓upd_eq, ↓envL_cons, WY, reduceIte, reduceEqDiff, reduceAdd, reduceLT, reduceLeDiff, reduceCtorEq, reduceMul, reducePow, W1, W1P, fs_frz, fs_frz0, fs_env, fs_b, fs_n, fs_put, fs_put0, fs_tmp, fs_const, fs_func, fs_obj, fs_setObj, fs_new, fs_next, fs_mk, fs_H, le_app, le_set, app_get, app_set, app_get0c, app_getkc, app_set0c, app_setkc, List.append_assoc, not_false_eq_true, not_true_eq_false, retE_ret, retP_ret, List.length_append, List.length_set, Nat.le_succ, h2]
        have hi' : i = t.kids.length := by omega
        subst hi'
        rw [List.drop_length] at h3
        simp only [namesFL] at h3
        rw [← h3]; exact h1
    · refine aloop_trimF [1, 5, 2] ?_
      simp only [List.map_cons, List.map_nil, ↓upd_eq, ↓envL_cons, WY, reduceIte, reduceEqDiff, reduceAdd, reduceLT, reduceLeDiff, reduceCtorEq, reduceMul, reducePow, W1, W1P, fs_frz, fs_frz0, fs_env, fs_b, fs_n, fs_put, fs_put0, fs_tmp, fs_const, fs_func, fs_obj, fs_setObj, fs_new, fs_next, fs_mk, fs_H, le_app, le_set, app_get, app_set, app_get0c, app_getkc, app_set0c, app_setkc, List.append_assoc, not_false_eq_true, not_true_eq_false, retE_ret, retP_ret, List.length_append, List.length_set, Nat.le_succ]
      refine goLoopF 2 (fun x : Nat × AV × List ByteArray × List AObj => [(1, x.2.1), (5, .int .i64 x.1)]) (fun x => x.2.2.2) (fun x => x.1 ≤ t.kids.length ∧ AccR 1 F (.sl (l.map ST) (.own q)) (x.2.2.1.map ST) x.2.1 x.2.2.2 ∧ x.2.2.2[F.length]? = some (.box (cellsOf (embP t))) ∧ namesFL (t.kids.drop x.1) x.2.2.1 = namesF t l ∧ x.2.2.1.length + sizePL (t.kids.drop x.1) ≤ 1000000) (fun x => t.kids.length - x.1) C_ok (0, _, l, _) rfl rfl ⟨Nat.zero_le _, AccR.junk hacc _, by rw [embP_cells]; simp, by rw [List.drop_zero, hvf]; simp_all, by simp only [List.drop_zero, List.length_append, List.length_cons, List.length_nil]; (try simp only [List.length_nil] at hl); omega⟩ (by decide) ?_
      rintro ⟨i, a1, l1, F1⟩ ⟨hi, h1, h2, h3, h4⟩
      simp only at hi h1 h2 h3 h4
      rw [embP_cells] at h2
      have hacc1 := AccR.ok hacc h1
      have hb1 := h1.len
      simp only [List.drop_succ_cons, List.drop_zero, List.cons_append, List.nil_append]
      simp only [↓upd_eq, ↓envL_cons, WY, reduceIte, reduceEqDiff, reduceAdd, reduceLT, reduceLeDiff, reduceCtorEq, reduceMul, reducePow, W1, W1P, fs_frz, fs_frz0, fs_env, fs_b, fs_n, fs_put, fs_put0, fs_tmp, fs_const, fs_func, fs_obj, fs_setObj, fs_new, fs_next, fs_mk, fs_H, le_app, le_set, app_get, app_set, app_get0c, app_getkc, app_set0c, app_setkc, List.append_assoc, not_false_eq_true, not_true_eq_false, retE_ret, retP_ret, List.length_append, List.length_set, Nat.le_succ, h2]
      refine goIf_d (fun hlt => ?_) (fun hlt => ?_)
      · simp only [↓upd_eq, ↓envL_cons, WY, reduceIte, reduceEqDiff, reduceAdd, reduceLT, reduceLeDiff, reduceCtorEq, reduceMul, reducePow, W1, W1P, fs_frz, fs_frz0, fs_env, fs_b, fs_n, fs_put, fs_put0, fs_tmp, fs_const, fs_func, fs_obj, fs_setObj, fs_new, fs_next, fs_mk, fs_H, le_app, le_set, app_get, app_set, app_get0c, app_getkc, app_set0c, app_setkc, List.append_assoc, not_false_eq_true, not_true_eq_false, retE_ret, retP_ret, List.length_append, List.length_set, Nat.le_succ, h2, hlt, mapP_kid hlt]
        have hdr := dropP_kid hlt
        rw [hdr] at h3 h4
        simp only [sizePL, namesFL] at h3 h4
        refine fsCall (ih _ (ptkid_mem hlt) l1 a1 F1 (by omega) hacc1) (.inl rfl) fun r F2 hr hlen2 => ⟨fun hbel => hr.bel hacc1 hb1 hbel, ?_⟩
        have hg := hr.get hacc1 h2 (by intro m; simp)
        have hl2 := namesF_len (t.kid i) l1
        simp only [↓upd_eq, ↓envL_cons, WY, reduceIte, reduceEqDiff, reduceAdd, reduceLT, reduceLeDiff, reduceCtorEq, reduceMul, reducePow, W1, W1P, fs_frz, fs_frz0, fs_env, fs_b, fs_n, fs_put, fs_put0, fs_tmp, fs_const, fs_func, fs_obj, fs_setObj, fs_new, fs_next, fs_mk, fs_H, le_app, le_set, app_get, app_set, app_get0c, app_getkc, app_set0c, app_setkc, List.append_assoc, not_false_eq_true, not_true_eq_false, retE_ret, retP_ret, List.length_append, List.length_set, Nat.le_succ, hg]
        refine ⟨(i + 1, r, namesF (t.kid i) l1, F2), ⟨hlt, h1.trans hacc hr, by first | exact hg | (rw [embP_cells]; exact hg), h3, by simp only; omega⟩, by simp only; omega, weakF rfl ?_⟩
        simp only [List.forall_mem_cons, mem_nil_all, frz_app, ↓upd_eq, ↓envL_cons, Nat.reduceEqDiff, if_true, if_false, reduceIte, true_and, and_true, and_self, true_or, or_true, implies_true, List.not_mem_nil, false_implies, AV.bel, AV.belL, AObj.bel, AV.norm, AV.normL, Bool.and_true, Bool.true_and, decide_true, decide_eq_true_eq, List.length_cons, List.length_nil, Nat.zero_add, Nat.reduceAdd, Nat.lt_add_one, Nat.lt_add_right_iff_pos, Nat.zero_lt_succ, Nat.zero_lt_one, Nat.reduceLT, List.take_succ_cons, List.take_zero, wrap_succ hlt hmax]
      · simp only [↓upd_eq, ↓envL_cons, WY, reduceIte, reduceEqDiff, reduceAdd, reduceLT, reduceLeDiff, reduceCtorEq, reduceMul, reducePow, W1, W1P, fs_frz, fs_frz0, fs_env, fs_b, fs_n, fs_put, fs_put0, fs_tmp, fs_const, fs_func, fs_obj, fs_setObj, fs_new, fs_next, fs_mk, fs_H, le_app, le_set, app_get, app_set, app_get0c, app_getkc, app_set0c, app_setkc, List.append_assoc, not_false_eq_true, not_true_eq_false, retE_ret, retP_ret, List.length_append, List.length_set, Nat.le_succ, h2]
        have hi' : i = t.kids.length := by omega
        subst hi'
        rw [List.drop_length] at h3
        simp only [namesFL] at h3
        rw [← h3]; exact h1
theorem rnames_ok (t : Pt) : RNamesOK t := Pt.ind rnames_step t

def namesP (t : Pt) : List ByteArray := namesF t []
theorem rNames_ok (t : Pt) (ht : sizeP t ≤ 1000000) : PCalls Try.prog 62 [embP t] (.sl ((namesP t).map ST) .no) := by
  have hb : ∀ H : List AObj, H.length ≤ H.length := fun H => Nat.le_refl _
  refine pcalls_text C_ok Try.func62 rfl (by decide) (Nat.le_of_ble_eq_true rfl) (by decide) (by simp only [AV.bel, strs_bel, Bool.and_self]) fun ok H => ?_
  rw [Try.results62]
  rw [initS_fs]
  have h := True.intro
  repeat' (first
   | (with_reducible first | apply bA | apply bB | apply bC | apply bD | apply bE | apply bF) <;> intro h
   | skip) <;> simp only [h, ↓upd_eq, ↓envL_cons, WY, reduceIte, reduceEqDiff, reduceAdd, reduceLT, reduceLeDiff, reduceCtorEq, reduceMul, reducePow, W1, W1P, fs_frz, fs_frz0, fs_env, fs_b, fs_n, fs_put, fs_put0, fs_tmp, fs_const, fs_func, fs_obj, fs_setObj, fs_new, fs_next, fs_mk, fs_H, le_app, le_set, app_get, app_set, app_get0c, app_getkc, app_set0c, app_setkc, List.append_assoc, not_false_eq_true, not_true_eq_false, retE_ret, retP_ret, List.length_append, List.length_set, Nat.le_succ, hb]
  refine fsCall (rnames_ok t [] _ _ (by simp only [List.length_nil]; omega) (.inl ⟨rfl, rfl⟩)) (.inl rfl) fun r F' hr hlen => ⟨fun hbel => hr.bel (.inl ⟨rfl, rfl⟩) (by simp) hbel, ?_⟩
  obtain ⟨h1, J, rfl⟩ := hr.out
  simp only [↓upd_eq, ↓envL_cons, WY, reduceIte, reduceEqDiff, reduceAdd, reduceLT, reduceLeDiff, reduceCtorEq, reduceMul, reducePow, W1, W1P, fs_frz, fs_frz0, fs_env, fs_b, fs_n, fs_put, fs_put0, fs_tmp, fs_const, fs_func, fs_obj, fs_setObj, fs_new, fs_next, fs_mk, fs_H, le_app, le_set, app_get, app_set, app_get0c, app_getkc, app_set0c, app_setkc, List.append_assoc, not_false_eq_true, not_true_eq_false, retE_ret, retP_ret, List.length_append, List.length_set, Nat.le_succ, h1, strs_norm]
  simp [namesP]
def hasS (l : List ByteArray) (s : ByteArray) : Bool := l.any fun x => x.toList == s.toList
theorem rhasS_ok (l : List ByteArray) (s : ByteArray) : PCalls Try.prog 63 [.sl (l.map ST) .no, .str s] (.bool (hasS l s)) := by
  refine pcalls_text C_ok Try.func63 rfl (by decide) (Nat.le_of_ble_eq_true rfl) (by decide) rfl fun ok H => ?_
  rw [Try.results63]
  have h := True.intro
  repeat' (first
   | (with_reducible first | apply bA | apply bB | apply bC | apply bD | apply bE | apply bF) <;> intro h
   | skip) <;> simp only [h, ↓upd_eq, ↓envL_cons, WZ, reduceIte, reduceEqDiff, reduceAdd, reduceLT, reduceLeDiff, reduceCtorEq, reduceMul, reducePow, W1, W1P]
  have hmax : l.length ≤ maxLen := by
    have := ok.1; simp only [AV.okay, List.length_map] at this; exact this.1
  refine aloop_trim [5, 0, 1] ?_
  simp only [List.map_cons, List.map_nil, ↓upd_eq, ↓envL_cons, WZ, reduceIte, reduceEqDiff, reduceAdd, reduceLT, reduceLeDiff, reduceCtorEq, reduceMul, reducePow, W1, W1P]
  refine goLoopS 1 (fun i : Nat => [(5, .int .i64 i)]) (fun _ => _) (fun i => i ≤ l.length ∧ hasS (l.take i) s = false) (fun i => l.length - i) C_ok 0 rfl rfl ⟨Nat.zero_le _, by simp [hasS]⟩ (by decide) ?_
  rintro i ⟨hi, hall⟩
  simp only [List.drop_succ_cons, List.drop_zero, List.cons_append, List.nil_append]
  simp only [↓upd_eq, ↓envL_cons, WZ, reduceIte, reduceEqDiff, reduceAdd, reduceLT, reduceLeDiff, reduceCtorEq, reduceMul, reducePow, W1, W1P]
  refine goIf_d (fun hlt => ?_) (fun hlt => ?_)
  · have h := True.intro
    repeat' (first
     | (with_reducible first | apply bA | apply bB | apply bC | apply bD | apply bE | apply bF) <;> intro h
     | skip) <;> simp only [h, ↓upd_eq, ↓envL_cons, WZ, reduceIte, reduceEqDiff, reduceAdd, reduceLT, reduceLeDiff, reduceCtorEq, reduceMul, reducePow, W1, W1P, hlt, map_str_get hlt, st_eq]
    · have h' : (l[i].toList == s.toList) = true := by simpa [hlt] using h
      have : hasS l s = true := by unfold hasS; rw [List.any_eq_true]; exact ⟨l[i], List.getElem_mem hlt, h'⟩
      exact this.symm
    · have h' : (l[i].toList == s.toList) = false := by simpa [hlt] using h
      refine ⟨i + 1, ⟨hlt, ?_⟩, by omega, weak_drop rfl rfl rfl rfl ?_ ?_ ?_⟩
      · have e : l.take (i + 1) = l.take i ++ [l[i]] := by rw [List.take_add_one, List.getElem?_eq_getElem hlt]; rfl
        unfold hasS at hall ⊢
        rw [e, List.any_append, hall]; simp [h']
      all_goals simp only [List.forall_mem_cons, mem_nil_all, frz_app, ↓upd_eq, ↓envL_cons, Nat.reduceEqDiff, if_true, if_false, reduceIte, true_and, and_true, and_self, true_or, or_true, implies_true, List.not_mem_nil, false_implies, AV.bel, AV.belL, AObj.bel, AV.norm, AV.normL, Bool.and_true, Bool.true_and, decide_true, decide_eq_true_eq, List.length_cons, List.length_nil, Nat.zero_add, Nat.reduceAdd, Nat.lt_add_one, Nat.lt_add_right_iff_pos, Nat.zero_lt_succ, Nat.zero_lt_one, Nat.reduceLT, List.take_succ_cons, List.take_zero, wrap_succ hlt hmax, strs_bel, AV.belL, List.length_map]
  · simp only [↓upd_eq, ↓envL_cons, WZ, reduceIte, reduceEqDiff, reduceAdd, reduceLT, reduceLeDiff, reduceCtorEq, reduceMul, reducePow, W1, W1P]
    have : i = l.length := by omega
    subst this
    rw [List.take_length] at hall
    exact hall.symm

end Go.Proofs.Ytofogicgnldfhaa
