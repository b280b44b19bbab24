/- Walks: the store: a copy: whether one of the variables is within. No condition. -/
import Derived.Test.YtdngjamjccjlmaaWH
import Derived.Test.YtdngjamjccjlmaaS11
set_option linter.unusedSimpArgs false
set_option linter.unusedVariables false
set_option maxHeartbeats 4000000
set_option maxRecDepth 100000
namespace Go.Proofs.Ytdngjamjccjlmaa
open Go Go.Ab
attribute [local irreducible] PCalls ACalls CallK GoCall GoDCall GoIf GoGb GoDGb GoO GoD GoX GoDX GoG GoDG GoGv GoDGv Go ALoop

/-- A copying's box. -/
def cpB (s m1 m2 m3 : Nat) : AObj := .box [.bptr s 0, .mp m1, .mp m2, .mp m3]
def VH (S : St) (to Z : List (Int × Int)) : Prop := ∀ k x, mget Z k = some x → ∃ n : Nat, k = n ∧ x = if hld S to n then 1 else 2
theorem VH.put {S : St} {to Z : List (Int × Int)} (h : VH S to Z) {n : Nat} {x : Int} (hx : x = if hld S to n then 1 else 2) : VH S to (mput Z n x) := by
  intro k y e
  rw [mget_put] at e
  split at e
  · rename_i hk; cases e; exact ⟨n, hk.symm, hx⟩
  · exact h k y e
/-- A store's first nodes are as they were. -/
structure Sm (S : St) (L : Mem) : Prop where
  wf : Wf L.st
  wf0 : Wf S
  len : S.length ≤ L.length
  nd : ∀ i, i < S.length → L.st.nd i = S.nd i
  rt : ∀ i, i < S.length → L.st.root i = S.root i
section
variable {s r v c m1 m2 m3 : Nat} {L : Mem} {lim cnt rd : Int} {S : St} {to : List (Int × Int)}
def HoldC (s r v c m1 m2 m3 : Nat) (L : Mem) (lim cnt rd : Int) (S : St) (to : List (Int × Int)) (n : Nat) : Prop := ∀ Z, VH S to Z → ∃ Z', VH S to Z' ∧
  ∀ F : List AObj, F[c]? = some (cpB s m1 m2 m3) → F[s]? = some (bxS r v L.length lim cnt rd) → F[r]? = some (arS v L) → F[m1]? = some (.map (embM to)) → F[m2]? = some (.map (embM Z)) →
    DCalls Try.prog 92 [.bptr c 0, .int .i64 n] F (.bool (hld S to n)) (F.set m2 (.map (embM Z')))
theorem hold_step (hS : Sm S L) (h12 : m1 ≠ m2) (n : Nat) (hn : n < S.length) (hrr : S.root n = n) (ih : ∀ k ∈ S.kids n, HoldC s r v c m1 m2 m3 L lim cnt rd S to (S.root k)) : HoldC s r v c m1 m2 m3 L lim cnt rd S to n := by
  intro Z hZ
  have hlen := hS.len
  have hst := hld_step (to := to) hS.wf0 hn hrr
  have hnl : n < L.length := by omega
  have hkl : (L.getD n default).1.kids = S.kids n := by rw [← L.nd, hS.nd n hn]; rfl
  cases hg : mget Z (n : Int) with
  | some x =>
    obtain ⟨n', e1, e2⟩ := hZ _ _ hg
    have en : n' = n := by omega
    subst en
    refine ⟨Z, hZ, fun F hc hs hr hm1 hm2 => ?_⟩
    rw [set_same hm2]
    unfold cpB at hc
    have hb : F.length ≤ F.length := Nat.le_refl _
    unfold DCalls
    have g1 : ((0 : Int) < 1) = True := by simp
    have g2 : ((0 : Int) < 2) = True := by simp
    cases hh : hld S to n' <;> rw [hh] at e2 <;> simp only [if_true, if_false, Bool.false_eq_true] at e2 <;> subst e2
    · refine acalls_text C_ok Try.func92 rfl (by decide) (Nat.le_of_ble_eq_true rfl) (by decide) fun ok => ?_
      rw [Try.results92]
      have h := True.intro
      repeat' (first
       | (with_reducible first | refine goIf_b ?_ ?_ | refine goIf_n ?_ ?_ | refine goIf_d ?_ ?_ | refine goIf_split ?_ ?_ | refine goGb_b ?_ ?_ | refine goGb_n ?_ ?_ | refine goGb_d ?_ ?_ | refine goGb_split ?_ ?_ | refine goDGb_b ?_ ?_ | refine goDGb_n ?_ ?_ | refine goDGb_d ?_ ?_ | refine goDGb_split ?_ ?_) <;> intro h
       | refine goRound ?_ C_ok Try.f92.ntmps rfl (by decide)
       | skip) <;> simp only [h, ↓upd_eq, ↓envL_cons, Go.Ab.W0, Go.Ab.WD, if_true, if_false, reduceIte, Nat.reduceEqDiff, Nat.reduceAdd, Nat.reduceLT, Nat.reduceLeDiff, reduceCtorEq, Nat.reduceMul, implies_true, forall_eq_or_imp, forall_eq, Nat.reducePow, W1, fs_frz, fs_frz0, fs_env, fs_b, fs_n, fs_put, fs_put0, fs_tmp, fs_const, fs_func, fs_obj, fs_setObj, fs_new, fs_next, fs_mk, fs_H, le_app, le_set, app_get, app_set, app_get0c, app_getkc, app_set0c, app_setkc, List.append_assoc, not_false_eq_true, not_true_eq_false, retE_ret, retP_ret, List.length_append, List.length_set, Nat.le_succ, Go.Ab.W3, Int.reduceAdd, Int.reduceLT, Int.reduceToNat, Int.reduceBEq, Int.reduceBNe, Int.reduceLE, hc, hm2, g1, g2, findA_m, foundOr_m, mfind_some, keyOK, hg, Option.getD_some, Option.isSome_some, cutNormal_normal]
    · refine acalls_text C_ok Try.func92 rfl (by decide) (Nat.le_of_ble_eq_true rfl) (by decide) fun ok => ?_
      rw [Try.results92]
      have h := True.intro
      repeat' (first
       | (with_reducible first | refine goIf_b ?_ ?_ | refine goIf_n ?_ ?_ | refine goIf_d ?_ ?_ | refine goIf_split ?_ ?_ | refine goGb_b ?_ ?_ | refine goGb_n ?_ ?_ | refine goGb_d ?_ ?_ | refine goGb_split ?_ ?_ | refine goDGb_b ?_ ?_ | refine goDGb_n ?_ ?_ | refine goDGb_d ?_ ?_ | refine goDGb_split ?_ ?_) <;> intro h
       | refine goRound ?_ C_ok Try.f92.ntmps rfl (by decide)
       | skip) <;> simp only [h, ↓upd_eq, ↓envL_cons, Go.Ab.W0, Go.Ab.WD, if_true, if_false, reduceIte, Nat.reduceEqDiff, Nat.reduceAdd, Nat.reduceLT, Nat.reduceLeDiff, reduceCtorEq, Nat.reduceMul, implies_true, forall_eq_or_imp, forall_eq, Nat.reducePow, W1, fs_frz, fs_frz0, fs_env, fs_b, fs_n, fs_put, fs_put0, fs_tmp, fs_const, fs_func, fs_obj, fs_setObj, fs_new, fs_next, fs_mk, fs_H, le_app, le_set, app_get, app_set, app_get0c, app_getkc, app_set0c, app_setkc, List.append_assoc, not_false_eq_true, not_true_eq_false, retE_ret, retP_ret, List.length_append, List.length_set, Nat.le_succ, Go.Ab.W3, Int.reduceAdd, Int.reduceLT, Int.reduceToNat, Int.reduceBEq, Int.reduceBNe, Int.reduceLE, hc, hm2, g1, g2, findA_m, foundOr_m, mfind_some, keyOK, hg, Option.getD_some, Option.isSome_some, cutNormal_normal]
  | none =>
    have hlk : S.link n = none := by have := hS.wf0.root_link n; rwa [hrr] at this
    rcases hS.wf0.shape hn hlk with ⟨_, _, hk⟩ | ⟨_, _, hk⟩ | ⟨i, j, _, hk⟩ | ⟨i, _, hk⟩
    · rw [hk] at hst hkl
      simp only [List.any_nil, Bool.or_false] at hst
      refine ⟨mput Z n (if hld S to n then 1 else 2), hZ.put rfl, fun F hc hs hr hm1 hm2 => ?_⟩
      have hb : F.length ≤ F.length := Nat.le_refl _
      have hml := get_lt hm2
      have nc : m2 ≠ c := by rintro rfl; rw [hm2] at hc; simp [cpB] at hc
      have ns : m2 ≠ s := by rintro rfl; rw [hm2] at hs; simp [bxS] at hs
      have nr : m2 ≠ r := by rintro rfl; rw [hm2] at hr; simp [arS] at hr
      have hc2 : ∀ X, (F.set m2 X)[c]? = some (cpB s m1 m2 m3) := fun X => by rw [set_get nc]; exact hc
      have hs2 : ∀ X, (F.set m2 X)[s]? = some (bxS r v L.length lim cnt rd) := fun X => by rw [set_get ns]; exact hs
      have hr2 : ∀ X, (F.set m2 X)[r]? = some (arS v L) := fun X => by rw [set_get nr]; exact hr
      have h12' : ∀ X, (F.set m2 X)[m1]? = some (.map (embM to)) := fun X => by rw [set_get (fun h => h12 h.symm)]; exact hm1
      have h22 : ∀ X, (F.set m2 X)[m2]? = some X := fun X => set_get0 hml
      have hc3 := hc; unfold cpB at hc3
      have hc4 := hc2; unfold cpB at hc4
      have hs3 := hs; unfold bxS at hs3
      have hr3 := hr; unfold arS at hr3
      unfold DCalls
      cases ht : mget to (n : Int) <;> rw [ht] at hst <;> rw [hst]
      · refine acalls_text C_ok Try.func92 rfl (by decide) (Nat.le_of_ble_eq_true rfl) (by decide) fun ok => ?_
        rw [Try.results92]
        have h := True.intro
        repeat' (first
         | (with_reducible first | refine goIf_b ?_ ?_ | refine goIf_n ?_ ?_ | refine goIf_d ?_ ?_ | refine goIf_split ?_ ?_ | refine goGb_b ?_ ?_ | refine goGb_n ?_ ?_ | refine goGb_d ?_ ?_ | refine goGb_split ?_ ?_ | refine goDGb_b ?_ ?_ | refine goDGb_n ?_ ?_ | refine goDGb_d ?_ ?_ | refine goDGb_split ?_ ?_) <;> intro h
         | refine goRound ?_ C_ok Try.f92.ntmps rfl (by decide)
         | skip) <;> simp only [h, ↓upd_eq, ↓envL_cons, Go.Ab.W0, Go.Ab.WD, if_true, if_false, reduceIte, Nat.reduceEqDiff, Nat.reduceAdd, Nat.reduceLT, Nat.reduceLeDiff, reduceCtorEq, Nat.reduceMul, implies_true, forall_eq_or_imp, forall_eq, Nat.reducePow, W1, fs_frz, fs_frz0, fs_env, fs_b, fs_n, fs_put, fs_put0, fs_tmp, fs_const, fs_func, fs_obj, fs_setObj, fs_new, fs_next, fs_mk, fs_H, le_app, le_set, app_get, app_set, app_get0c, app_getkc, app_set0c, app_setkc, List.append_assoc, not_false_eq_true, not_true_eq_false, retE_ret, retP_ret, List.length_append, List.length_set, Nat.le_succ, Go.Ab.W3, Int.reduceAdd, Int.reduceLT, Int.reduceToNat, Int.reduceBEq, Int.reduceBNe, Int.reduceLE, hc3, hc4, hm1, hm2, hs3, hr3, h22, findA_m, foundOr_m, mfind_some, mapPut_m, keyOK, hg, ht, Option.getD_none, Option.isSome_none, Option.getD_some, Option.isSome_some, mapN_len, hnl, mapN_get hnl, embN_cells, hkl, kidI, I64, List.set_set, AV.bel, implies_true, cutNormal_normal]
        all_goals exact ⟨rfl, rfl⟩
      · refine acalls_text C_ok Try.func92 rfl (by decide) (Nat.le_of_ble_eq_true rfl) (by decide) fun ok => ?_
        rw [Try.results92]
        have h := True.intro
        repeat' (first
         | (with_reducible first | refine goIf_b ?_ ?_ | refine goIf_n ?_ ?_ | refine goIf_d ?_ ?_ | refine goIf_split ?_ ?_ | refine goGb_b ?_ ?_ | refine goGb_n ?_ ?_ | refine goGb_d ?_ ?_ | refine goGb_split ?_ ?_ | refine goDGb_b ?_ ?_ | refine goDGb_n ?_ ?_ | refine goDGb_d ?_ ?_ | refine goDGb_split ?_ ?_) <;> intro h
         | refine goRound ?_ C_ok Try.f92.ntmps rfl (by decide)
         | skip) <;> simp only [h, ↓upd_eq, ↓envL_cons, Go.Ab.W0, Go.Ab.WD, if_true, if_false, reduceIte, Nat.reduceEqDiff, Nat.reduceAdd, Nat.reduceLT, Nat.reduceLeDiff, reduceCtorEq, Nat.reduceMul, implies_true, forall_eq_or_imp, forall_eq, Nat.reducePow, W1, fs_frz, fs_frz0, fs_env, fs_b, fs_n, fs_put, fs_put0, fs_tmp, fs_const, fs_func, fs_obj, fs_setObj, fs_new, fs_next, fs_mk, fs_H, le_app, le_set, app_get, app_set, app_get0c, app_getkc, app_set0c, app_setkc, List.append_assoc, not_false_eq_true, not_true_eq_false, retE_ret, retP_ret, List.length_append, List.length_set, Nat.le_succ, Go.Ab.W3, Int.reduceAdd, Int.reduceLT, Int.reduceToNat, Int.reduceBEq, Int.reduceBNe, Int.reduceLE, hc3, hc4, hm1, hm2, hs3, hr3, h22, findA_m, foundOr_m, mfind_some, mapPut_m, keyOK, hg, ht, Option.getD_none, Option.isSome_none, Option.getD_some, Option.isSome_some, mapN_len, hnl, mapN_get hnl, embN_cells, hkl, kidI, I64, List.set_set, AV.bel, implies_true, cutNormal_normal]
        all_goals exact ⟨rfl, rfl⟩
    · rw [hk] at hst hkl
      simp only [List.any_nil, Bool.or_false] at hst
      refine ⟨mput Z n (if hld S to n then 1 else 2), hZ.put rfl, fun F hc hs hr hm1 hm2 => ?_⟩
      have hb : F.length ≤ F.length := Nat.le_refl _
      have hml := get_lt hm2
      have nc : m2 ≠ c := by rintro rfl; rw [hm2] at hc; simp [cpB] at hc
      have ns : m2 ≠ s := by rintro rfl; rw [hm2] at hs; simp [bxS] at hs
      have nr : m2 ≠ r := by rintro rfl; rw [hm2] at hr; simp [arS] at hr
      have hc2 : ∀ X, (F.set m2 X)[c]? = some (cpB s m1 m2 m3) := fun X => by rw [set_get nc]; exact hc
      have hs2 : ∀ X, (F.set m2 X)[s]? = some (bxS r v L.length lim cnt rd) := fun X => by rw [set_get ns]; exact hs
      have hr2 : ∀ X, (F.set m2 X)[r]? = some (arS v L) := fun X => by rw [set_get nr]; exact hr
      have h12' : ∀ X, (F.set m2 X)[m1]? = some (.map (embM to)) := fun X => by rw [set_get (fun h => h12 h.symm)]; exact hm1
      have h22 : ∀ X, (F.set m2 X)[m2]? = some X := fun X => set_get0 hml
      have hc3 := hc; unfold cpB at hc3
      have hc4 := hc2; unfold cpB at hc4
      have hs3 := hs; unfold bxS at hs3
      have hr3 := hr; unfold arS at hr3
      unfold DCalls
      cases ht : mget to (n : Int) <;> rw [ht] at hst <;> rw [hst]
      · refine acalls_text C_ok Try.func92 rfl (by decide) (Nat.le_of_ble_eq_true rfl) (by decide) fun ok => ?_
        rw [Try.results92]
        have h := True.intro
        repeat' (first
         | (with_reducible first | refine goIf_b ?_ ?_ | refine goIf_n ?_ ?_ | refine goIf_d ?_ ?_ | refine goIf_split ?_ ?_ | refine goGb_b ?_ ?_ | refine goGb_n ?_ ?_ | refine goGb_d ?_ ?_ | refine goGb_split ?_ ?_ | refine goDGb_b ?_ ?_ | refine goDGb_n ?_ ?_ | refine goDGb_d ?_ ?_ | refine goDGb_split ?_ ?_) <;> intro h
         | refine goRound ?_ C_ok Try.f92.ntmps rfl (by decide)
         | skip) <;> simp only [h, ↓upd_eq, ↓envL_cons, Go.Ab.W0, Go.Ab.WD, if_true, if_false, reduceIte, Nat.reduceEqDiff, Nat.reduceAdd, Nat.reduceLT, Nat.reduceLeDiff, reduceCtorEq, Nat.reduceMul, implies_true, forall_eq_or_imp, forall_eq, Nat.reducePow, W1, fs_frz, fs_frz0, fs_env, fs_b, fs_n, fs_put, fs_put0, fs_tmp, fs_const, fs_func, fs_obj, fs_setObj, fs_new, fs_next, fs_mk, fs_H, le_app, le_set, app_get, app_set, app_get0c, app_getkc, app_set0c, app_setkc, List.append_assoc, not_false_eq_true, not_true_eq_false, retE_ret, retP_ret, List.length_append, List.length_set, Nat.le_succ, Go.Ab.W3, Int.reduceAdd, Int.reduceLT, Int.reduceToNat, Int.reduceBEq, Int.reduceBNe, Int.reduceLE, hc3, hc4, hm1, hm2, hs3, hr3, h22, findA_m, foundOr_m, mfind_some, mapPut_m, keyOK, hg, ht, Option.getD_none, Option.isSome_none, Option.getD_some, Option.isSome_some, mapN_len, hnl, mapN_get hnl, embN_cells, hkl, kidI, I64, List.set_set, AV.bel, implies_true, cutNormal_normal]
        all_goals exact ⟨rfl, rfl⟩
      · refine acalls_text C_ok Try.func92 rfl (by decide) (Nat.le_of_ble_eq_true rfl) (by decide) fun ok => ?_
        rw [Try.results92]
        have h := True.intro
        repeat' (first
         | (with_reducible first | refine goIf_b ?_ ?_ | refine goIf_n ?_ ?_ | refine goIf_d ?_ ?_ | refine goIf_split ?_ ?_ | refine goGb_b ?_ ?_ | refine goGb_n ?_ ?_ | refine goGb_d ?_ ?_ | refine goGb_split ?_ ?_ | refine goDGb_b ?_ ?_ | refine goDGb_n ?_ ?_ | refine goDGb_d ?_ ?_ | refine goDGb_split ?_ ?_) <;> intro h
         | refine goRound ?_ C_ok Try.f92.ntmps rfl (by decide)
         | skip) <;> simp only [h, ↓upd_eq, ↓envL_cons, Go.Ab.W0, Go.Ab.WD, if_true, if_false, reduceIte, Nat.reduceEqDiff, Nat.reduceAdd, Nat.reduceLT, Nat.reduceLeDiff, reduceCtorEq, Nat.reduceMul, implies_true, forall_eq_or_imp, forall_eq, Nat.reducePow, W1, fs_frz, fs_frz0, fs_env, fs_b, fs_n, fs_put, fs_put0, fs_tmp, fs_const, fs_func, fs_obj, fs_setObj, fs_new, fs_next, fs_mk, fs_H, le_app, le_set, app_get, app_set, app_get0c, app_getkc, app_set0c, app_setkc, List.append_assoc, not_false_eq_true, not_true_eq_false, retE_ret, retP_ret, List.length_append, List.length_set, Nat.le_succ, Go.Ab.W3, Int.reduceAdd, Int.reduceLT, Int.reduceToNat, Int.reduceBEq, Int.reduceBNe, Int.reduceLE, hc3, hc4, hm1, hm2, hs3, hr3, h22, findA_m, foundOr_m, mfind_some, mapPut_m, keyOK, hg, ht, Option.getD_none, Option.isSome_none, Option.getD_some, Option.isSome_some, mapN_len, hnl, mapN_get hnl, embN_cells, hkl, kidI, I64, List.set_set, AV.bel, implies_true, cutNormal_normal]
        all_goals exact ⟨rfl, rfl⟩
    · rw [hk] at hst ih hkl
      obtain ⟨Z1, hV1, q1⟩ := ih i (by simp) Z hZ
      obtain ⟨Z2, hV2, q2⟩ := ih j (by simp) Z1 hV1
      have hil : i < S.length := hS.wf0.kid_lt' (i := n) (by rw [hk]; simp)
      have hjl : j < S.length := hS.wf0.kid_lt' (i := n) (by rw [hk]; simp)
      have ri := hS.rt i hil
      have rj := hS.rt j hjl
      simp only [List.any_cons, List.any_nil, Bool.or_false] at hst
      refine ⟨mput Z2 n (if hld S to n then 1 else 2), hV2.put rfl, fun F hc hs hr hm1 hm2 => ?_⟩
      have hb : F.length ≤ F.length := Nat.le_refl _
      have hml := get_lt hm2
      have nc : m2 ≠ c := by rintro rfl; rw [hm2] at hc; simp [cpB] at hc
      have ns : m2 ≠ s := by rintro rfl; rw [hm2] at hs; simp [bxS] at hs
      have nr : m2 ≠ r := by rintro rfl; rw [hm2] at hr; simp [arS] at hr
      have hc2 : ∀ X, (F.set m2 X)[c]? = some (cpB s m1 m2 m3) := fun X => by rw [set_get nc]; exact hc
      have hs2 : ∀ X, (F.set m2 X)[s]? = some (bxS r v L.length lim cnt rd) := fun X => by rw [set_get ns]; exact hs
      have hr2 : ∀ X, (F.set m2 X)[r]? = some (arS v L) := fun X => by rw [set_get nr]; exact hr
      have h12' : ∀ X, (F.set m2 X)[m1]? = some (.map (embM to)) := fun X => by rw [set_get (fun h => h12 h.symm)]; exact hm1
      have h22 : ∀ X, (F.set m2 X)[m2]? = some X := fun X => set_get0 hml
      have hc3 := hc; unfold cpB at hc3
      have hc4 := hc2; unfold cpB at hc4
      have hs3 := hs; unfold bxS at hs3
      have hr3 := hr; unfold arS at hr3
      have p1 := root_g hs hr hS.wf i (by omega)
      have p2 := root_g (hs2 (.map (embM Z1))) (hr2 _) hS.wf j (by omega)
      rw [ri] at p1
      rw [rj] at p2
      have q1' := q1 F hc hs hr hm1 hm2
      have q2' := q2 (F.set m2 (.map (embM Z1))) (hc2 _) (hs2 _) (hr2 _) (h12' _) (h22 _)
      clear hc hs hr hc2 ih q1 q2 hS
      unfold DCalls
      generalize hld S to (S.root i) = b1 at *
      generalize hld S to (S.root j) = b2 at *
      cases ht : mget to (n : Int) <;> rw [ht] at hst <;> rw [hst] <;> cases b1 <;> cases b2
      all_goals
        refine acalls_text C_ok Try.func92 rfl (by decide) (Nat.le_of_ble_eq_true rfl) (by decide) fun ok => ?_
        rw [Try.results92]
        have h := True.intro
        repeat' (first
         | (with_reducible first | refine goIf_b ?_ ?_ | refine goIf_n ?_ ?_ | refine goIf_d ?_ ?_ | refine goIf_split ?_ ?_ | refine goGb_b ?_ ?_ | refine goGb_n ?_ ?_ | refine goGb_d ?_ ?_ | refine goGb_split ?_ ?_ | refine goDGb_b ?_ ?_ | refine goDGb_n ?_ ?_ | refine goDGb_d ?_ ?_ | refine goDGb_split ?_ ?_) <;> intro h
         | ((first | refine goCall_norm ?_ | refine goDCall_norm ?_); simp only [AV.norm, AV.normL, W2, Go.Ab.W3, Int.reduceAdd, Int.reduceLT, Int.reduceToNat, Int.reduceBEq, Int.reduceBNe, Int.reduceLE, hc3, hc4, hm1, hm2, hs3, hr3, h22, findA_m, foundOr_m, mfind_some, mapPut_m, keyOK, hg, ht, Option.getD_none, Option.isSome_none, Option.getD_some, Option.isSome_some, mapN_len, hnl, mapN_get hnl, embN_cells, hkl, kidI, I64, List.set_set, AV.bel, implies_true]; first  | refine fsCallR (p1) (.inl rfl) ?_ | refine fsCallR (p2) (.inl rfl) ?_ | refine fsCallD (q1') (.inl rfl) (fun hb => bel_setX (embM_bel _ _) hb) ?_ | refine fsCallD (q2') (.inl rfl) (fun hb => bel_setX (embM_bel _ _) hb) ?_)
         | refine goRound ?_ C_ok Try.f92.ntmps rfl (by decide)
         | skip) <;> simp only [h, ↓upd_eq, ↓envL_cons, Go.Ab.W0, Go.Ab.WD, if_true, if_false, reduceIte, Nat.reduceEqDiff, Nat.reduceAdd, Nat.reduceLT, Nat.reduceLeDiff, reduceCtorEq, Nat.reduceMul, implies_true, forall_eq_or_imp, forall_eq, Nat.reducePow, W1, fs_frz, fs_frz0, fs_env, fs_b, fs_n, fs_put, fs_put0, fs_tmp, fs_const, fs_func, fs_obj, fs_setObj, fs_new, fs_next, fs_mk, fs_H, le_app, le_set, app_get, app_set, app_get0c, app_getkc, app_set0c, app_setkc, List.append_assoc, not_false_eq_true, not_true_eq_false, retE_ret, retP_ret, List.length_append, List.length_set, Nat.le_succ, Go.Ab.W3, Int.reduceAdd, Int.reduceLT, Int.reduceToNat, Int.reduceBEq, Int.reduceBNe, Int.reduceLE, hc3, hc4, hm1, hm2, hs3, hr3, h22, findA_m, foundOr_m, mfind_some, mapPut_m, keyOK, hg, ht, Option.getD_none, Option.isSome_none, Option.getD_some, Option.isSome_some, mapN_len, hnl, mapN_get hnl, embN_cells, hkl, kidI, I64, List.set_set, AV.bel, implies_true, cutNormal_normal]
      all_goals exact ⟨rfl, rfl⟩
    · rw [hk] at hst ih hkl
      obtain ⟨Z1, hV1, q1⟩ := ih i (by simp) Z hZ
      have hil : i < S.length := hS.wf0.kid_lt' (i := n) (by rw [hk]; simp)
      have ri := hS.rt i hil
      simp only [List.any_cons, List.any_nil, Bool.or_false] at hst
      refine ⟨mput Z1 n (if hld S to n then 1 else 2), hV1.put rfl, fun F hc hs hr hm1 hm2 => ?_⟩
      have hb : F.length ≤ F.length := Nat.le_refl _
      have hml := get_lt hm2
      have nc : m2 ≠ c := by rintro rfl; rw [hm2] at hc; simp [cpB] at hc
      have ns : m2 ≠ s := by rintro rfl; rw [hm2] at hs; simp [bxS] at hs
      have nr : m2 ≠ r := by rintro rfl; rw [hm2] at hr; simp [arS] at hr
      have hc2 : ∀ X, (F.set m2 X)[c]? = some (cpB s m1 m2 m3) := fun X => by rw [set_get nc]; exact hc
      have hs2 : ∀ X, (F.set m2 X)[s]? = some (bxS r v L.length lim cnt rd) := fun X => by rw [set_get ns]; exact hs
      have hr2 : ∀ X, (F.set m2 X)[r]? = some (arS v L) := fun X => by rw [set_get nr]; exact hr
      have h12' : ∀ X, (F.set m2 X)[m1]? = some (.map (embM to)) := fun X => by rw [set_get (fun h => h12 h.symm)]; exact hm1
      have h22 : ∀ X, (F.set m2 X)[m2]? = some X := fun X => set_get0 hml
      have hc3 := hc; unfold cpB at hc3
      have hc4 := hc2; unfold cpB at hc4
      have hs3 := hs; unfold bxS at hs3
      have hr3 := hr; unfold arS at hr3
      have p1 := root_g hs hr hS.wf i (by omega)
      rw [ri] at p1
      have q1' := q1 F hc hs hr hm1 hm2
      clear hc hs hr hc2 ih q1 hS
      unfold DCalls
      generalize hld S to (S.root i) = b1 at *
      cases ht : mget to (n : Int) <;> rw [ht] at hst <;> rw [hst] <;> cases b1
      all_goals
        refine acalls_text C_ok Try.func92 rfl (by decide) (Nat.le_of_ble_eq_true rfl) (by decide) fun ok => ?_
        rw [Try.results92]
        have h := True.intro
        repeat' (first
         | (with_reducible first | refine goIf_b ?_ ?_ | refine goIf_n ?_ ?_ | refine goIf_d ?_ ?_ | refine goIf_split ?_ ?_ | refine goGb_b ?_ ?_ | refine goGb_n ?_ ?_ | refine goGb_d ?_ ?_ | refine goGb_split ?_ ?_ | refine goDGb_b ?_ ?_ | refine goDGb_n ?_ ?_ | refine goDGb_d ?_ ?_ | refine goDGb_split ?_ ?_) <;> intro h
         | ((first | refine goCall_norm ?_ | refine goDCall_norm ?_); simp only [AV.norm, AV.normL, W2, Go.Ab.W3, Int.reduceAdd, Int.reduceLT, Int.reduceToNat, Int.reduceBEq, Int.reduceBNe, Int.reduceLE, hc3, hc4, hm1, hm2, hs3, hr3, h22, findA_m, foundOr_m, mfind_some, mapPut_m, keyOK, hg, ht, Option.getD_none, Option.isSome_none, Option.getD_some, Option.isSome_some, mapN_len, hnl, mapN_get hnl, embN_cells, hkl, kidI, I64, List.set_set, AV.bel, implies_true]; first  | refine fsCallR (p1) (.inl rfl) ?_ | refine fsCallD (q1') (.inl rfl) (fun hb => bel_setX (embM_bel _ _) hb) ?_)
         | refine goRound ?_ C_ok Try.f92.ntmps rfl (by decide)
         | skip) <;> simp only [h, ↓upd_eq, ↓envL_cons, Go.Ab.W0, Go.Ab.WD, if_true, if_false, reduceIte, Nat.reduceEqDiff, Nat.reduceAdd, Nat.reduceLT, Nat.reduceLeDiff, reduceCtorEq, Nat.reduceMul, implies_true, forall_eq_or_imp, forall_eq, Nat.reducePow, W1, fs_frz, fs_frz0, fs_env, fs_b, fs_n, fs_put, fs_put0, fs_tmp, fs_const, fs_func, fs_obj, fs_setObj, fs_new, fs_next, fs_mk, fs_H, le_app, le_set, app_get, app_set, app_get0c, app_getkc, app_set0c, app_setkc, List.append_assoc, not_false_eq_true, not_true_eq_false, retE_ret, retP_ret, List.length_append, List.length_set, Nat.le_succ, Go.Ab.W3, Int.reduceAdd, Int.reduceLT, Int.reduceToNat, Int.reduceBEq, Int.reduceBNe, Int.reduceLE, hc3, hc4, hm1, hm2, hs3, hr3, h22, findA_m, foundOr_m, mfind_some, mapPut_m, keyOK, hg, ht, Option.getD_none, Option.isSome_none, Option.getD_some, Option.isSome_some, mapN_len, hnl, mapN_get hnl, embN_cells, hkl, kidI, I64, List.set_set, AV.bel, implies_true, cutNormal_normal]
      all_goals exact ⟨rfl, rfl⟩
theorem hold_ok (hS : Sm S L) (h12 : m1 ≠ m2) : ∀ n, n < S.length → HoldC s r v c m1 m2 m3 L lim cnt rd S to (S.root n) := by
  refine hS.wf0.ind (p := fun n => n < S.length → HoldC s r v c m1 m2 m3 L lim cnt rd S to (S.root n)) fun n ih hn =>
    hold_step hS h12 (S.root n) (hS.wf0.root_lt n hn) (hS.wf0.root_root n) fun k hk => ih k hk (hS.wf0.kid_lt' hk)
end

end Go.Proofs.Ytdngjamjccjlmaa
