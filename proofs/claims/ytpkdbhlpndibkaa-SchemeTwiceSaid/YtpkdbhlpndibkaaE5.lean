/- Walks: matching. No condition. -/
import Derived.Test.YtpkdbhlpndibkaaE4
set_option linter.unusedSimpArgs false
set_option linter.unusedVariables false
set_option maxHeartbeats 4000000
set_option maxRecDepth 100000
namespace Go.Proofs.Ytpkdbhlpndibkaa
open Go Go.Ab
attribute [local irreducible] PCalls ACalls CallK GoCall GoDCall GoIf GoGb GoDGb GoO GoD GoX GoDX GoG GoDG GoGv GoDGv Go ALoop

theorem fits_all {p q mr : Nat} : ∀ t u : T, FitsC p q mr t u := by
  intro t
  induction t with
  | base k =>
    intro u
    by_cases h : (T.base k).ty.kind = u.ty.kind
    · have hu : u = .base k := by
        cases u with
        | base k' => simp only [T.ty, Ty.kind_mk] at h; congr 1; exact (Fin.ext (by omega)).symm
        | _ => exact absurd h (by have := base_ne k; simp only [T.ty, Ty.kind_mk]; omega)
      subst hu
      intro L v hb F hD
      have hr : fitsT (.base k) (.base k) L = (L, true) := by simp [fitsT]
      rw [hr]
      simp only [Nat.sub_self, Nat.add_zero]
      exact fits_leaf (by rw [beq_eq_false_iff_ne]; have := base_ne k; omega) L v hD
    · exact fits_ne h (by have := base_ne k; simp only [T.ty, Ty.kind_mk]; omega)
  | dyn =>
    intro u
    by_cases h : T.dyn.ty.kind = u.ty.kind
    · have hu : u = .dyn := by
        cases u with
        | dyn => rfl
        | base k' => exact absurd h (by have := base_ne k'; simp only [T.ty, Ty.kind_mk]; omega)
        | _ => exact absurd h (by simp only [T.ty, Ty.kind_mk]; omega)
      subst hu
      intro L v hb F hD
      have hr : fitsT .dyn .dyn L = (L, true) := rfl
      rw [hr]
      simp only [Nat.sub_self, Nat.add_zero]
      exact fits_leaf rfl L v hD
    · exact fits_ne h (by simp only [T.ty, Ty.kind_mk]; omega)
  | var n => exact fun u => fits_var n u
  | pair a b ih1 ih2 =>
    intro u
    by_cases h : (T.pair a b).ty.kind = u.ty.kind
    · obtain ⟨c, d, rfl⟩ : ∃ c d, u = .pair c d := by
        cases u with
        | pair c d => exact ⟨c, d, rfl⟩
        | base k' => exact absurd h (by have := base_ne k'; simp only [T.ty, Ty.kind_mk]; omega)
        | _ => exact absurd h (by simp only [T.ty, Ty.kind_mk]; omega)
      intro L v hb F hD
      simp only [T.size] at hb
      have l1 := fits_len a c L
      have l2 := fits_len b d (fitsT a c L).1
      have i1 := fun F hD => ih1 c L v (by omega) F hD
      simp only [fitsT]
      by_cases hok : (fitsT a c L).2 = true
      · rw [hok] at i1
        rw [if_pos hok]
        have i2 := fun F hD => ih2 d (fitsT a c L).1 (v + ((fitsT a c L).1.length - L.length)) (by omega) F hD
        have := fits_two (k := 7) rfl hD i1 i2
        rw [show v + ((fitsT a c L).1.length - L.length) + ((fitsT b d (fitsT a c L).1).1.length - (fitsT a c L).1.length) = v + ((fitsT b d (fitsT a c L).1).1.length - L.length) by omega] at this
        exact this
      · have hok' : (fitsT a c L).2 = false := by simpa using hok
        rw [hok'] at i1
        rw [if_neg hok]
        exact fits_two0 (k := 7) rfl hD i1
    · exact fits_ne h (by simp only [T.ty, Ty.kind_mk]; omega)
  | fn a b ih1 ih2 =>
    intro u
    by_cases h : (T.fn a b).ty.kind = u.ty.kind
    · obtain ⟨c, d, rfl⟩ : ∃ c d, u = .fn c d := by
        cases u with
        | fn c d => exact ⟨c, d, rfl⟩
        | base k' => exact absurd h (by have := base_ne k'; simp only [T.ty, Ty.kind_mk]; omega)
        | _ => exact absurd h (by simp only [T.ty, Ty.kind_mk]; omega)
      intro L v hb F hD
      simp only [T.size] at hb
      have l1 := fits_len a c L
      have l2 := fits_len b d (fitsT a c L).1
      have i1 := fun F hD => ih1 c L v (by omega) F hD
      simp only [fitsT]
      by_cases hok : (fitsT a c L).2 = true
      · rw [hok] at i1
        rw [if_pos hok]
        have i2 := fun F hD => ih2 d (fitsT a c L).1 (v + ((fitsT a c L).1.length - L.length)) (by omega) F hD
        have := fits_two (k := 9) rfl hD i1 i2
        rw [show v + ((fitsT a c L).1.length - L.length) + ((fitsT b d (fitsT a c L).1).1.length - (fitsT a c L).1.length) = v + ((fitsT b d (fitsT a c L).1).1.length - L.length) by omega] at this
        exact this
      · have hok' : (fitsT a c L).2 = false := by simpa using hok
        rw [hok'] at i1
        rw [if_neg hok]
        exact fits_two0 (k := 9) rfl hD i1
    · exact fits_ne h (by simp only [T.ty, Ty.kind_mk]; omega)
  | list a ih1 =>
    intro u
    by_cases h : (T.list a).ty.kind = u.ty.kind
    · obtain ⟨c, rfl⟩ : ∃ c, u = .list c := by
        cases u with
        | list c => exact ⟨c, rfl⟩
        | base k' => exact absurd h (by have := base_ne k'; simp only [T.ty, Ty.kind_mk]; omega)
        | _ => exact absurd h (by simp only [T.ty, Ty.kind_mk]; omega)
      intro L v hb F hD
      simp only [T.size] at hb
      have i1 := fun F hD => ih1 c L v (by omega) F hD
      simp only [fitsT]
      exact fits_one (k := 8) rfl hD i1
    · exact fits_ne h (by simp only [T.ty, Ty.kind_mk]; omega)
/-- What a matching tells. -/
noncomputable def matchV (t u : Ty) : AV := if right t = true ∧ right u = true then (match matchT (tOf t) (tOf u) [] with
    | some L => .tup [.sl ((bdL L).map embB) .no, .bool true]
    | none => .tup [.sl [] .no, .bool false]) else .tup [.sl [] .no, .bool false]
theorem matchV_bel (t u : Ty) : (matchV t u).bel 0 = true := by
  unfold matchV
  split
  · split
    · simp [AV.bel, AV.belL, mapB_bel]
    · rfl
  · rfl
theorem match_bad {t u : Ty} (h : ¬ (right t = true ∧ right u = true)) : ∀ F : List AObj, DCalls Try.prog 15 [emb t, emb u] F (.tup [.sl [] .no, .bool false]) F := by
  intro F
  unfold DCalls
  have q1 := check_ok t
  have q2 := check_ok u
  have hb : ((1 : Int) != 0) = true := by decide
  by_cases h1 : right t = true
  · have h2 : ¬ right u = true := fun h2 => h ⟨h1, h2⟩
    rw [if_pos h1] at q1
    rw [if_neg h2] at q2
    refine acallsD_text C_ok Try.func15 rfl (by decide) (Nat.le_of_ble_eq_true rfl) (by decide) fun ok => ?_
    rw [Try.results15]
    have h := True.intro
    repeat' (first
     | (with_reducible first | refine goIf_b ?_ ?_ | refine goIf_n ?_ ?_ | refine goIf_d ?_ ?_ | refine goIf_split ?_ ?_ | refine goGb_b ?_ ?_ | refine goGb_n ?_ ?_ | refine goGb_d ?_ ?_ | refine goGb_split ?_ ?_ | refine goDGb_b ?_ ?_ | refine goDGb_n ?_ ?_ | refine goDGb_d ?_ ?_ | refine goDGb_split ?_ ?_) <;> intro h
     | ((first | refine goCall_norm ?_ | refine goDCall_norm ?_); simp only [AV.norm, AV.normL, W2, W2B, hb, bne_self_eq_false, AV.belL, AV.bel, retD_ret, retD_normal]; first | refine goCall_p (q1) (.inl rfl) ?_ | refine goCall_p (q2) (.inl rfl) ?_ | refine goDCall_p (q1) (.inl rfl) ?_ | refine goDCall_p (q2) (.inl rfl) ?_)
     | skip) <;> simp only [h, ↓upd_eq, ↓envL_cons, Go.Ab.W0, Go.Ab.WD, if_true, if_false, reduceIte, Nat.reduceEqDiff, Nat.reduceAdd, Nat.reduceLT, Nat.reduceLeDiff, reduceCtorEq, Nat.reduceMul, implies_true, forall_eq_or_imp, forall_eq, Nat.reducePow, W1, W1B, fs_frz, fs_frz0, fs_env, fs_b, fs_n, fs_put, fs_put0, fs_tmp, fs_const, fs_func, fs_obj, fs_setObj, fs_new, fs_next, fs_mk, fs_H, le_app, le_set, app_get, app_set, app_get0c, app_getkc, app_set0c, app_setkc, List.append_assoc, not_false_eq_true, not_true_eq_false, retE_ret, retP_ret, List.length_append, List.length_set, Nat.le_succ, hb, bne_self_eq_false, AV.belL, AV.bel, retD_ret, retD_normal]
    all_goals first | exact ⟨rfl, List.take_left' rfl⟩ | exact List.take_left' rfl
  · rw [if_neg h1] at q1
    refine acallsD_text C_ok Try.func15 rfl (by decide) (Nat.le_of_ble_eq_true rfl) (by decide) fun ok => ?_
    rw [Try.results15]
    have h := True.intro
    repeat' (first
     | (with_reducible first | refine goIf_b ?_ ?_ | refine goIf_n ?_ ?_ | refine goIf_d ?_ ?_ | refine goIf_split ?_ ?_ | refine goGb_b ?_ ?_ | refine goGb_n ?_ ?_ | refine goGb_d ?_ ?_ | refine goGb_split ?_ ?_ | refine goDGb_b ?_ ?_ | refine goDGb_n ?_ ?_ | refine goDGb_d ?_ ?_ | refine goDGb_split ?_ ?_) <;> intro h
     | ((first | refine goCall_norm ?_ | refine goDCall_norm ?_); simp only [AV.norm, AV.normL, W2, W2B, hb, AV.belL, AV.bel, retD_ret, retD_normal]; first | refine goCall_p (q1) (.inl rfl) ?_ | refine goCall_p (q2) (.inl rfl) ?_ | refine goDCall_p (q1) (.inl rfl) ?_ | refine goDCall_p (q2) (.inl rfl) ?_)
     | skip) <;> simp only [h, ↓upd_eq, ↓envL_cons, Go.Ab.W0, Go.Ab.WD, if_true, if_false, reduceIte, Nat.reduceEqDiff, Nat.reduceAdd, Nat.reduceLT, Nat.reduceLeDiff, reduceCtorEq, Nat.reduceMul, implies_true, forall_eq_or_imp, forall_eq, Nat.reducePow, W1, W1B, fs_frz, fs_frz0, fs_env, fs_b, fs_n, fs_put, fs_put0, fs_tmp, fs_const, fs_func, fs_obj, fs_setObj, fs_new, fs_next, fs_mk, fs_H, le_app, le_set, app_get, app_set, app_get0c, app_getkc, app_set0c, app_setkc, List.append_assoc, not_false_eq_true, not_true_eq_false, retE_ret, retP_ret, List.length_append, List.length_set, Nat.le_succ, hb, AV.belL, AV.bel, retD_ret, retD_normal]
    all_goals first | exact ⟨rfl, List.take_left' rfl⟩ | exact List.take_left' rfl
/-- The heap with which it goes on. -/
def mtJ (F : List AObj) (t u : Ty) (v : Nat) (L : List BT) : List AObj := F ++ [.box [.int .i64 t.kind, .int .i64 t.num, .sl (t.kids.map emb) .no], .box [.int .i64 u.kind, .int .i64 u.num, .sl (u.kids.map emb) .no], .map (embM (idM L)), .box [.ms (F.length + 4) v L.length, .mp (F.length + 2)], .arr v 4 ((bdL L).map embB)]
theorem mtJ_eq (F : List AObj) (t u : Ty) (v v' : Nat) (L L' : List BT) : hpF (mtJ F t u v L) (F.length + 3) (F.length + 4) (F.length + 2) v' L' = mtJ F t u v' L' := by
  unfold hpF tri stF mtJ mbx mar
  rw [app_setkc rfl, app_setkc rfl, app_setkc rfl]
  rfl
theorem mtJ_d (F : List AObj) (t u : Ty) (v : Nat) (L : List BT) : TriD (mtJ F t u v L) (F.length + 3) (F.length + 4) (F.length + 2) := by
  refine ⟨?_, ?_, ?_, by omega, by omega, by omega⟩ <;> simp [mtJ]
theorem match_call (F : List AObj) (t u : T) (hs : t.size ≤ 1000000) :
    ACalls Try.prog 40 [.bptr (F.length + 3) 0, emb t.ty, emb u.ty] (F ++ [.box [.int .i64 t.ty.kind, .int .i64 t.ty.num, .sl (t.ty.kids.map emb) .no], .box [.int .i64 u.ty.kind, .int .i64 u.ty.num, .sl (u.ty.kids.map emb) .no], .map [], .box [.sl [] .full, .mp (F.length + 2)]])
      fun x G => x = .bool (fitsT t u []).2 ∧ G = mtJ F t.ty u.ty (0 + ((fitsT t u []).1.length - 0)) (fitsT t u []).1 := by
  have h := fits_all t u [] 0 (by simpa using hs) (mtJ F t.ty u.ty 0 []) (mtJ_d F t.ty u.ty 0 [])
  rw [mtJ_eq, mtJ_eq] at h
  refine acalls_nil (p := F.length + 3) (off := 0) (size := 4) (cs := [.sl [] .full, .mp (F.length + 2)]) (app_getkc rfl) rfl ?_
  rw [app_setkc rfl, List.append_assoc]
  simp only [List.length_append, List.length_cons, List.length_nil]
  exact h
theorem match_no {t u : T} (ht : t.ok = true) (hu : u.ok = true) (hs : t.size ≤ 1000000) (hm : (fitsT t u []).2 = false) : ∀ F : List AObj, DCalls Try.prog 15 [emb t.ty, emb u.ty] F (.tup [.sl [] .no, .bool false]) F := by
  intro F
  unfold DCalls
  have q1 := check_ok t.ty
  have q2 := check_ok u.ty
  rw [if_pos (by rw [T.right_ty]; exact ht)] at q1
  rw [if_pos (by rw [T.right_ty]; exact hu)] at q2
  have qf := match_call F t u hs
  rw [hm] at qf
  generalize (fitsT t u []).1 = L at *
  refine acallsD_text C_ok Try.func15 rfl (by decide) (Nat.le_of_ble_eq_true rfl) (by decide) fun ok => ?_
  rw [Try.results15]
  have h := True.intro
  repeat' (first
   | (with_reducible first | refine goIf_b ?_ ?_ | refine goIf_n ?_ ?_ | refine goIf_d ?_ ?_ | refine goIf_split ?_ ?_ | refine goGb_b ?_ ?_ | refine goGb_n ?_ ?_ | refine goGb_d ?_ ?_ | refine goGb_split ?_ ?_ | refine goDGb_b ?_ ?_ | refine goDGb_n ?_ ?_ | refine goDGb_d ?_ ?_ | refine goDGb_split ?_ ?_) <;> intro h
   | ((first | refine goCall_norm ?_ | refine goDCall_norm ?_); simp only [AV.norm, AV.normL, W2, W2B, bne_self_eq_false, AV.belL, AV.bel, retD_ret, retD_normal]; first | refine goCall_p (q1) (.inl rfl) ?_ | refine goCall_p (q2) (.inl rfl) ?_ | refine goDCall_p (q1) (.inl rfl) ?_ | refine goDCall_p (q2) (.inl rfl) ?_)
   | skip) <;> simp only [h, ↓upd_eq, ↓envL_cons, Go.Ab.W0, Go.Ab.WD, if_true, if_false, reduceIte, Nat.reduceEqDiff, Nat.reduceAdd, Nat.reduceLT, Nat.reduceLeDiff, reduceCtorEq, Nat.reduceMul, implies_true, forall_eq_or_imp, forall_eq, Nat.reducePow, W1, W1B, fs_frz, fs_frz0, fs_env, fs_b, fs_n, fs_put, fs_put0, fs_tmp, fs_const, fs_func, fs_obj, fs_setObj, fs_new, fs_next, fs_mk, fs_H, le_app, le_set, app_get, app_set, app_get0c, app_getkc, app_set0c, app_setkc, List.append_assoc, not_false_eq_true, not_true_eq_false, retE_ret, retP_ret, List.length_append, List.length_set, Nat.le_succ, bne_self_eq_false, AV.belL, AV.bel, retD_ret, retD_normal]
  refine fsCall qf (.inl rfl) fun x G hG hlen => ?_
  obtain ⟨rfl, rfl⟩ := hG
  refine ⟨fun hbel => ?_, ?_⟩
  · rw [List.take_left' rfl] at hbel
    rw [mtJ, List.take_left' rfl]; exact hbel
  · simp only [mtJ]
    have h := True.intro
    repeat' (first
     | (with_reducible first | refine goIf_b ?_ ?_ | refine goIf_n ?_ ?_ | refine goIf_d ?_ ?_ | refine goIf_split ?_ ?_ | refine goGb_b ?_ ?_ | refine goGb_n ?_ ?_ | refine goGb_d ?_ ?_ | refine goGb_split ?_ ?_ | refine goDGb_b ?_ ?_ | refine goDGb_n ?_ ?_ | refine goDGb_d ?_ ?_ | refine goDGb_split ?_ ?_) <;> intro h
     | skip) <;> simp only [h, ↓upd_eq, ↓envL_cons, Go.Ab.W0, Go.Ab.WD, if_true, if_false, reduceIte, Nat.reduceEqDiff, Nat.reduceAdd, Nat.reduceLT, Nat.reduceLeDiff, reduceCtorEq, Nat.reduceMul, implies_true, forall_eq_or_imp, forall_eq, Nat.reducePow, W1, W1B, fs_frz, fs_frz0, fs_env, fs_b, fs_n, fs_put, fs_put0, fs_tmp, fs_const, fs_func, fs_obj, fs_setObj, fs_new, fs_next, fs_mk, fs_H, le_app, le_set, app_get, app_set, app_get0c, app_getkc, app_set0c, app_setkc, List.append_assoc, not_false_eq_true, not_true_eq_false, retE_ret, retP_ret, List.length_append, List.length_set, Nat.le_succ, AV.belL, AV.bel, retD_ret, retD_normal]
    all_goals first | exact ⟨rfl, List.take_left' rfl⟩ | exact List.take_left' rfl
theorem match_yes {t u : T} (ht : t.ok = true) (hu : u.ok = true) (hs : t.size ≤ 1000000) (hm : (fitsT t u []).2 = true) : ∀ F : List AObj, DCalls Try.prog 15 [emb t.ty, emb u.ty] F (.tup [.sl ((bdL (fitsT t u []).1).map embB) .no, .bool true]) F := by
  intro F
  have q1 := check_ok t.ty
  have q2 := check_ok u.ty
  rw [if_pos (by rw [T.right_ty]; exact ht)] at q1
  rw [if_pos (by rw [T.right_ty]; exact hu)] at q2
  have qf := match_call F t u hs
  rw [hm] at qf
  generalize (fitsT t u []).1 = L at *
  refine frz_D (q := F.length + 4) (v := 0 + (L.length - 0)) (size := 4) (es := (bdL L).map embB) (n := L.length) (J := [.box [.int .i64 t.ty.kind, .int .i64 t.ty.num, .sl (t.ty.kids.map emb) .no], .box [.int .i64 u.ty.kind, .int .i64 u.ty.num, .sl (u.ty.kids.map emb) .no], .map (embM (idM L)), .box [.ms (F.length + 4) (0 + (L.length - 0)) L.length, .mp (F.length + 2)], .arr (0 + (L.length - 0)) 4 ((bdL L).map embB)])
    (by omega) (app_getkc rfl) (mapB_bel _ _) (by simp [bdL]) ?_
  refine acalls_text C_ok Try.func15 rfl (by decide) (Nat.le_of_ble_eq_true rfl) (by decide) fun ok => ?_
  rw [Try.results15]
  have h := True.intro
  repeat' (first
   | (with_reducible first | refine goIf_b ?_ ?_ | refine goIf_n ?_ ?_ | refine goIf_d ?_ ?_ | refine goIf_split ?_ ?_ | refine goGb_b ?_ ?_ | refine goGb_n ?_ ?_ | refine goGb_d ?_ ?_ | refine goGb_split ?_ ?_ | refine goDGb_b ?_ ?_ | refine goDGb_n ?_ ?_ | refine goDGb_d ?_ ?_ | refine goDGb_split ?_ ?_) <;> intro h
   | ((first | refine goCall_norm ?_ | refine goDCall_norm ?_); simp only [AV.norm, AV.normL, W2, W2B, bne_self_eq_false, AV.belL, AV.bel]; first | refine goCall_p (q1) (.inl rfl) ?_ | refine goCall_p (q2) (.inl rfl) ?_ | refine goDCall_p (q1) (.inl rfl) ?_ | refine goDCall_p (q2) (.inl rfl) ?_)
   | skip) <;> simp only [h, ↓upd_eq, ↓envL_cons, Go.Ab.W0, Go.Ab.WD, if_true, if_false, reduceIte, Nat.reduceEqDiff, Nat.reduceAdd, Nat.reduceLT, Nat.reduceLeDiff, reduceCtorEq, Nat.reduceMul, implies_true, forall_eq_or_imp, forall_eq, Nat.reducePow, W1, W1B, fs_frz, fs_frz0, fs_env, fs_b, fs_n, fs_put, fs_put0, fs_tmp, fs_const, fs_func, fs_obj, fs_setObj, fs_new, fs_next, fs_mk, fs_H, le_app, le_set, app_get, app_set, app_get0c, app_getkc, app_set0c, app_setkc, List.append_assoc, not_false_eq_true, not_true_eq_false, retE_ret, retP_ret, List.length_append, List.length_set, Nat.le_succ, bne_self_eq_false, AV.belL, AV.bel]
  refine fsCall qf (.inl rfl) fun x G hG hlen => ?_
  obtain ⟨rfl, rfl⟩ := hG
  refine ⟨fun hbel => ?_, ?_⟩
  · rw [List.take_left' rfl] at hbel
    rw [mtJ, List.take_left' rfl]; exact hbel
  · simp only [mtJ]
    have h := True.intro
    repeat' (first
     | (with_reducible first | refine goIf_b ?_ ?_ | refine goIf_n ?_ ?_ | refine goIf_d ?_ ?_ | refine goIf_split ?_ ?_ | refine goGb_b ?_ ?_ | refine goGb_n ?_ ?_ | refine goGb_d ?_ ?_ | refine goGb_split ?_ ?_ | refine goDGb_b ?_ ?_ | refine goDGb_n ?_ ?_ | refine goDGb_d ?_ ?_ | refine goDGb_split ?_ ?_) <;> intro h
     | skip) <;> simp only [h, ↓upd_eq, ↓envL_cons, Go.Ab.W0, Go.Ab.WD, if_true, if_false, reduceIte, Nat.reduceEqDiff, Nat.reduceAdd, Nat.reduceLT, Nat.reduceLeDiff, reduceCtorEq, Nat.reduceMul, implies_true, forall_eq_or_imp, forall_eq, Nat.reducePow, W1, W1B, fs_frz, fs_frz0, fs_env, fs_b, fs_n, fs_put, fs_put0, fs_tmp, fs_const, fs_func, fs_obj, fs_setObj, fs_new, fs_next, fs_mk, fs_H, le_app, le_set, app_get, app_set, app_get0c, app_getkc, app_set0c, app_setkc, List.append_assoc, not_false_eq_true, not_true_eq_false, retE_ret, retP_ret, List.length_append, List.length_set, Nat.le_succ, AV.belL, AV.bel]
theorem match_ok (t u : Ty) (hs : nodes t ≤ 1000000) : PCalls Try.prog 15 [emb t, emb u] (matchV t u) := by
  refine pcalls_of (matchV_bel t u) ?_
  by_cases h : right t = true ∧ right u = true
  · obtain ⟨t, rfl, ht⟩ := T.of_right' h.1
    obtain ⟨u, rfl, hu⟩ := T.of_right' h.2
    rw [nodes_size] at hs
    have e := fits_match t u []
    rw [matchV, if_pos h, tOf_ty, tOf_ty, e]
    by_cases hm : (fitsT t u []).2 = true
    · simp only [if_pos hm]
      exact match_yes ht hu hs hm
    · simp only [if_neg hm]
      exact match_no ht hu hs (by simpa using hm)
  · rw [matchV, if_neg h]
    exact match_bad h

end Go.Proofs.Ytpkdbhlpndibkaa
