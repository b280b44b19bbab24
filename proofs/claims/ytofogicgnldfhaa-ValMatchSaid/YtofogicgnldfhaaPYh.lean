/- Lemmas: patterns held against values, second part. No condition. -/
import Derived.Test.YtofogicgnldfhaaPYg

section
/- Walks: a pattern held against a value: pairs, rows. No condition. -/
set_option linter.unusedSimpArgs false
set_option linter.unusedVariables false
set_option maxHeartbeats 4000000
set_option maxRecDepth 100000
namespace Go.Proofs.Ytofogicgnldfhaa
open Go Go.Ab
open Nat (reduceEqDiff reduceAdd reduceLT reduceLeDiff reduceMul reducePow)
attribute [local irreducible] PCalls ACalls CallK GoCall GoDCall GoIf GoGb GoDGb GoO GoD GoX GoDX GoG GoDG GoGv GoDGv Go ALoop

theorem sizeP_two {pt : Pt} (h : pt.kids.length = 2) : sizeP (pt.kid 0) + sizeP (pt.kid 1) + 1 ≤ sizeP pt := by
  cases pt with
  | mk k f t m n s ks =>
    match ks, h with
    | [a, b], _ => simp only [Pt.kid, Pt.kids, List.getD_cons_zero, List.getD_cons_succ, sizeP, sizePL]; omega
mutual
def okA : Pt → Bool
  | .mk k f t m n s l => okP (.mk k f t m n s l) && okAL l
def okAL : List Pt → Bool
  | [] => true
  | t :: l => okA t && okAL l
end
theorem okAL_all : ∀ {l : List Pt}, okAL l = true → ∀ x ∈ l, okA x = true
  | [], _, x, hx => by simp at hx
  | t :: l, h, x, hx => by
    rw [okAL, Bool.and_eq_true] at h
    rcases List.mem_cons.1 hx with rfl | hx
    · exact h.1
    · exact okAL_all h.2 x hx
theorem okA_eq {p : Pt} (h : okA p = true) : okP p = true ∧ ∀ x ∈ p.kids, okA x = true := by
  cases p with
  | mk k f t m n s l =>
    rw [okA, Bool.and_eq_true] at h
    exact ⟨h.1, okAL_all h.2⟩
theorem matP_none : ∀ p : Pt, okA p = true → ∀ (w : Vl) (L : List Cl), (matP p w L).b = true → (matP p w L).r = .none :=
  Pt.ind (p := fun p => okA p = true → ∀ (w : Vl) (L : List Cl), (matP p w L).b = true → (matP p w L).r = .none) fun p ih hk w L h => by
    obtain ⟨hk, ho⟩ := okA_eq hk
    have hl := okP_two hk
    rw [matP_eq p w L hl] at h ⊢
    by_cases h1 : p.kind = 1
    · simp only [if_pos h1]
    rw [if_neg h1] at h ⊢
    by_cases h2 : p.kind = 2
    · simp only [if_pos h2]
    rw [if_neg h2] at h ⊢
    by_cases h3 : w.co.kind = 5
    · simp only [if_pos h3]
    rw [if_neg h3] at h ⊢
    by_cases h4 : p.kind ≠ 7 ∧ p.kind ≠ 9
    · simp only [if_pos h4]
    rw [if_neg h4] at h ⊢
    by_cases h5 : (p.kind = 7 ∧ w.kind ≠ 5) ∨ (p.kind = 9 ∧ w.kind ≠ 7)
    · simp only [if_pos h5]
    rw [if_neg h5] at h ⊢
    have hl2 := hl (by omega)
    have m0 := ptkid_mem (p := p) (i := 0) (by omega)
    have m1 := ptkid_mem (p := p) (i := 1) (by omega)
    cases ht : twoV w with
    | err => rw [ht] at h; cases h
    | blame l n => rw [ht] at h; cases h
    | ok a b =>
      rw [ht] at h
      simp only at h ⊢
      by_cases hb : (matP (p.kid 0) a L).b = true
      · rw [if_pos hb] at h ⊢; exact ih _ m1 (ho _ m1) _ _ h
      · rw [if_neg hb] at h; exact absurd h hb
theorem matP_len : ∀ p : Pt, okA p = true → ∀ (w : Vl) (L : List Cl), L.length ≤ (matP p w L).L.length ∧ (matP p w L).L.length ≤ L.length + sizeP p :=
  Pt.ind (p := fun p => okA p = true → ∀ (w : Vl) (L : List Cl), L.length ≤ (matP p w L).L.length ∧ (matP p w L).L.length ≤ L.length + sizeP p) fun p ih hk w L => by
    obtain ⟨hk, ho⟩ := okA_eq hk
    have hl := okP_two hk
    have hs : 1 ≤ sizeP p := by cases p; simp [sizeP]
    rw [matP_eq p w L hl]
    by_cases h1 : p.kind = 1
    · rw [if_pos h1]; simp
    rw [if_neg h1]
    by_cases h2 : p.kind = 2
    · rw [if_pos h2]; simpa using hs
    rw [if_neg h2]
    by_cases h3 : w.co.kind = 5
    · rw [if_pos h3]; simp
    rw [if_neg h3]
    by_cases h4 : p.kind ≠ 7 ∧ p.kind ≠ 9
    · rw [if_pos h4]; simp
    rw [if_neg h4]
    by_cases h5 : (p.kind = 7 ∧ w.kind ≠ 5) ∨ (p.kind = 9 ∧ w.kind ≠ 7)
    · rw [if_pos h5]; simp
    rw [if_neg h5]
    have hl2 := hl (by omega)
    have m0 := ptkid_mem (p := p) (i := 0) (by omega)
    have m1 := ptkid_mem (p := p) (i := 1) (by omega)
    have hs2 := sizeP_two hl2
    cases ht : twoV w with
    | err => simp
    | blame l n => simp
    | ok a b =>
      simp only
      obtain ⟨u1, u2⟩ := ih _ m0 (ho _ m0) a L
      by_cases hb : (matP (p.kid 0) a L).b = true
      · rw [if_pos hb]
        obtain ⟨u3, u4⟩ := ih _ m1 (ho _ m1) b (matP (p.kid 0) a L).L
        exact ⟨by omega, by omega⟩
      · rw [if_neg hb]; exact ⟨by omega, by omega⟩
section
variable {p q : Nat}
/-- A pair or a row whose parts there are (or not). -/
theorem pat_two (pt : Pt) (w : Vl) (b7 : (pt.kind == 7) = true ∧ (pt.kind == 9) = false ∧ (w.kind != 5) = false ∨ (pt.kind == 7) = false ∧ (pt.kind == 9) = true ∧ (w.kind != 7) = false) (hl : pt.kids.length = 2) (h5 : w.co.kind ≠ 5) (hr : rightV w = true)
    (ho : ∀ x ∈ pt.kids, okA x = true) (ih : ∀ x ∈ pt.kids, ∀ y, rightV y = true → PatC p q x y) (hab : ∀ a b, twoV w = .ok a b → rightV a = true ∧ rightV b = true) : PatC p q pt w := by
  intro L v r hsz F hp hq hne
  have hk : pt.kind = 7 ∨ pt.kind = 9 := by rcases b7 with h | h <;> simp at h <;> omega
  have hmis : ¬ ((pt.kind = 7 ∧ w.kind ≠ 5) ∨ (pt.kind = 9 ∧ w.kind ≠ 7)) := by rcases b7 with h | h <;> simp at h <;> omega
  have hm := matP_eq pt w L (fun _ => hl)
  rw [if_neg (by omega), if_neg (by omega), if_neg h5, if_neg (by omega), if_neg hmis] at hm
  have b1 : (pt.kind == 1) = false := by simp; omega
  have b2 : (pt.kind == 2) = false := by simp; omega
  have b3 : (pt.kind == 3) = false := by simp; omega
  have b4 : (pt.kind == 4) = false := by simp; omega
  have b5' : (pt.kind == 5) = false := by simp; omega
  have b6 : (pt.kind == 6) = false := by simp; omega
  have b8 : (pt.kind == 8) = false := by simp; omega
  have c5 : (w.co.kind == 5) = false := by simpa using h5
  have hP := stP hp hq hne
  have qt := vTwo_ok w hr
  have g0 : (pt.kids.map embP).getD 0 .any = embP (pt.kid 0) := mapP_kid (by omega)
  have g1 : (pt.kids.map embP).getD 1 .any = embP (pt.kid 1) := mapP_kid (by omega)
  have c0 : ((0 : Int) < (2 : Nat)) = True := by simp
  have c1 : ((1 : Int) < (2 : Nat)) = True := by simp
  have t0 : Int.toNat 0 = 0 := rfl
  have t1 : Int.toNat 1 = 1 := rfl
  have z1 : ((0 : Int) ≤ 1) = True := by simp
  have n8 : ((8 : Int) != 0) = true := rfl
  have n2 : ((2 : Int) != 0) = true := rfl
  have n0 : ((0 : Int) != 0) = false := rfl
  have hb0 : ∀ (a b : Nat) (c d : List AObj), True := fun _ _ _ _ => trivial
  unfold DCalls
  cases ht : twoV w with
  | err =>
    rw [ht] at qt hm
    rw [hm]
    simp only [Nat.sub_self, Nat.add_zero, rcOf]
    rcases b7 with ⟨d7, d9, dw⟩ | ⟨d7, d9, dw⟩
    · refine acallsD_text CV_ok Try.func92 rfl (by decide) (Nat.le_of_ble_eq_true rfl) (by decide) fun ok => ?_
      rw [Try.results92]
      have h := True.intro
      repeat' (first
       | (with_reducible first | apply bA | apply bB | apply bC | apply bD | apply bE | apply bF) <;> intro h
       | ((first | refine goCall_norm ?_ | refine goDCall_norm ?_); simp only [AV.norm, AV.normL, W2, W2C, W2P, W2V, W2L, Go.Ab.W3, Int.reduceAdd, Int.reduceLT, Int.reduceToNat, Int.reduceBEq, Int.reduceBNe, Int.reduceLE, CV_ty, CV_inpl, b1, b2, b3, b4, b5', b6, b8, c5, d7, d9, dw, n8, n2, n0, resP, embR, hpM, mbV, marV, hP, tkB_f, AV.belL, AV.bel, retD_ret, retD_normal]; first | refine goCall_p (qt) (.inl rfl) ?_ | refine goDCall_p (qt) (.inl rfl) ?_)
       | refine go_drawF (id := 5) CV_ok (fun _ => trivial) mixed 0 Try.f92.ntmps (by first | (simp; done) | (simp; omega)) rfl (by kernel_rfl) (by decide) ?_
       | refine go_drawF (id := 26) CV_ok (fun _ => trivial) mixed 0 Try.f92.ntmps (by first | (simp; done) | (simp; omega)) rfl (by kernel_rfl) (by decide) ?_
       | refine goRound ?_ CV_ok Try.f92.ntmps rfl (by decide)
       | skip) <;> simp only [h, ↓upd_eq, ↓envL_cons, WY, reduceIte, reduceEqDiff, reduceAdd, reduceLT, reduceLeDiff, reduceCtorEq, reduceMul, reducePow, W1, W1C, W1P, W1V, W1L, fs_frz, fs_frz0, fs_env, fs_b, fs_n, fs_put, fs_put0, fs_tmp, fs_const, fs_func, fs_obj, fs_setObj, fs_new, fs_next, fs_mk, fs_H, le_app, le_set, app_get, app_set, app_get0c, app_getkc, app_set0c, app_setkc, List.append_assoc, not_false_eq_true, not_true_eq_false, retE_ret, retP_ret, List.length_append, List.length_set, Nat.le_succ, Go.Ab.W3, Int.reduceAdd, Int.reduceLT, Int.reduceToNat, Int.reduceBEq, Int.reduceBNe, Int.reduceLE, CV_ty, CV_inpl, b1, b2, b3, b4, b5', b6, b8, c5, d7, d9, dw, n8, n2, n0, resP, embR, hpM, mbV, marV, hP, tkB_f, AV.belL, AV.bel, retD_ret, retD_normal, cutNormal_normal]
      all_goals rfl
    · refine acallsD_text CV_ok Try.func92 rfl (by decide) (Nat.le_of_ble_eq_true rfl) (by decide) fun ok => ?_
      rw [Try.results92]
      have h := True.intro
      repeat' (first
       | (with_reducible first | apply bA | apply bB | apply bC | apply bD | apply bE | apply bF) <;> intro h
       | ((first | refine goCall_norm ?_ | refine goDCall_norm ?_); simp only [AV.norm, AV.normL, W2, W2C, W2P, W2V, W2L, Go.Ab.W3, Int.reduceAdd, Int.reduceLT, Int.reduceToNat, Int.reduceBEq, Int.reduceBNe, Int.reduceLE, CV_ty, CV_inpl, b1, b2, b3, b4, b5', b6, b8, c5, d7, d9, dw, n8, n2, n0, resP, embR, hpM, mbV, marV, hP, tkB_f, AV.belL, AV.bel, retD_ret, retD_normal]; first | refine goCall_p (qt) (.inl rfl) ?_ | refine goDCall_p (qt) (.inl rfl) ?_)
       | refine go_drawF (id := 5) CV_ok (fun _ => trivial) mixed 0 Try.f92.ntmps (by first | (simp; done) | (simp; omega)) rfl (by kernel_rfl) (by decide) ?_
       | refine go_drawF (id := 26) CV_ok (fun _ => trivial) mixed 0 Try.f92.ntmps (by first | (simp; done) | (simp; omega)) rfl (by kernel_rfl) (by decide) ?_
       | refine goRound ?_ CV_ok Try.f92.ntmps rfl (by decide)
       | skip) <;> simp only [h, ↓upd_eq, ↓envL_cons, WY, reduceIte, reduceEqDiff, reduceAdd, reduceLT, reduceLeDiff, reduceCtorEq, reduceMul, reducePow, W1, W1C, W1P, W1V, W1L, fs_frz, fs_frz0, fs_env, fs_b, fs_n, fs_put, fs_put0, fs_tmp, fs_const, fs_func, fs_obj, fs_setObj, fs_new, fs_next, fs_mk, fs_H, le_app, le_set, app_get, app_set, app_get0c, app_getkc, app_set0c, app_setkc, List.append_assoc, not_false_eq_true, not_true_eq_false, retE_ret, retP_ret, List.length_append, List.length_set, Nat.le_succ, Go.Ab.W3, Int.reduceAdd, Int.reduceLT, Int.reduceToNat, Int.reduceBEq, Int.reduceBNe, Int.reduceLE, CV_ty, CV_inpl, b1, b2, b3, b4, b5', b6, b8, c5, d7, d9, dw, n8, n2, n0, resP, embR, hpM, mbV, marV, hP, tkB_f, AV.belL, AV.bel, retD_ret, retD_normal, cutNormal_normal]
      all_goals rfl
  | blame l n =>
    rw [ht] at qt hm
    rw [hm]
    simp only [Nat.sub_self, Nat.add_zero, rcOf]
    rcases b7 with ⟨d7, d9, dw⟩ | ⟨d7, d9, dw⟩
    · refine acallsD_text CV_ok Try.func92 rfl (by decide) (Nat.le_of_ble_eq_true rfl) (by decide) fun ok => ?_
      rw [Try.results92]
      have h := True.intro
      repeat' (first
       | (with_reducible first | apply bA | apply bB | apply bC | apply bD | apply bE | apply bF) <;> intro h
       | ((first | refine goCall_norm ?_ | refine goDCall_norm ?_); simp only [AV.norm, AV.normL, W2, W2C, W2P, W2V, W2L, Go.Ab.W3, Int.reduceAdd, Int.reduceLT, Int.reduceToNat, Int.reduceBEq, Int.reduceBNe, Int.reduceLE, CV_ty, CV_inpl, b1, b2, b3, b4, b5', b6, b8, c5, d7, d9, dw, n8, n2, n0, resP, embR, hpM, mbV, marV, hP, tkB_f, AV.belL, AV.bel, retD_ret, retD_normal]; first | refine goCall_p (qt) (.inl rfl) ?_ | refine goDCall_p (qt) (.inl rfl) ?_)
       | refine go_drawF (id := 5) CV_ok (fun _ => trivial) mixed 0 Try.f92.ntmps (by first | (simp; done) | (simp; omega)) rfl (by kernel_rfl) (by decide) ?_
       | refine go_drawF (id := 26) CV_ok (fun _ => trivial) mixed 0 Try.f92.ntmps (by first | (simp; done) | (simp; omega)) rfl (by kernel_rfl) (by decide) ?_
       | refine goRound ?_ CV_ok Try.f92.ntmps rfl (by decide)
       | skip) <;> simp only [h, ↓upd_eq, ↓envL_cons, WY, reduceIte, reduceEqDiff, reduceAdd, reduceLT, reduceLeDiff, reduceCtorEq, reduceMul, reducePow, W1, W1C, W1P, W1V, W1L, fs_frz, fs_frz0, fs_env, fs_b, fs_n, fs_put, fs_put0, fs_tmp, fs_const, fs_func, fs_obj, fs_setObj, fs_new, fs_next, fs_mk, fs_H, le_app, le_set, app_get, app_set, app_get0c, app_getkc, app_set0c, app_setkc, List.append_assoc, not_false_eq_true, not_true_eq_false, retE_ret, retP_ret, List.length_append, List.length_set, Nat.le_succ, Go.Ab.W3, Int.reduceAdd, Int.reduceLT, Int.reduceToNat, Int.reduceBEq, Int.reduceBNe, Int.reduceLE, CV_ty, CV_inpl, b1, b2, b3, b4, b5', b6, b8, c5, d7, d9, dw, n8, n2, n0, resP, embR, hpM, mbV, marV, hP, tkB_f, AV.belL, AV.bel, retD_ret, retD_normal, cutNormal_normal]
      all_goals rfl
    · refine acallsD_text CV_ok Try.func92 rfl (by decide) (Nat.le_of_ble_eq_true rfl) (by decide) fun ok => ?_
      rw [Try.results92]
      have h := True.intro
      repeat' (first
       | (with_reducible first | apply bA | apply bB | apply bC | apply bD | apply bE | apply bF) <;> intro h
       | ((first | refine goCall_norm ?_ | refine goDCall_norm ?_); simp only [AV.norm, AV.normL, W2, W2C, W2P, W2V, W2L, Go.Ab.W3, Int.reduceAdd, Int.reduceLT, Int.reduceToNat, Int.reduceBEq, Int.reduceBNe, Int.reduceLE, CV_ty, CV_inpl, b1, b2, b3, b4, b5', b6, b8, c5, d7, d9, dw, n8, n2, n0, resP, embR, hpM, mbV, marV, hP, tkB_f, AV.belL, AV.bel, retD_ret, retD_normal]; first | refine goCall_p (qt) (.inl rfl) ?_ | refine goDCall_p (qt) (.inl rfl) ?_)
       | refine go_drawF (id := 5) CV_ok (fun _ => trivial) mixed 0 Try.f92.ntmps (by first | (simp; done) | (simp; omega)) rfl (by kernel_rfl) (by decide) ?_
       | refine go_drawF (id := 26) CV_ok (fun _ => trivial) mixed 0 Try.f92.ntmps (by first | (simp; done) | (simp; omega)) rfl (by kernel_rfl) (by decide) ?_
       | refine goRound ?_ CV_ok Try.f92.ntmps rfl (by decide)
       | skip) <;> simp only [h, ↓upd_eq, ↓envL_cons, WY, reduceIte, reduceEqDiff, reduceAdd, reduceLT, reduceLeDiff, reduceCtorEq, reduceMul, reducePow, W1, W1C, W1P, W1V, W1L, fs_frz, fs_frz0, fs_env, fs_b, fs_n, fs_put, fs_put0, fs_tmp, fs_const, fs_func, fs_obj, fs_setObj, fs_new, fs_next, fs_mk, fs_H, le_app, le_set, app_get, app_set, app_get0c, app_getkc, app_set0c, app_setkc, List.append_assoc, not_false_eq_true, not_true_eq_false, retE_ret, retP_ret, List.length_append, List.length_set, Nat.le_succ, Go.Ab.W3, Int.reduceAdd, Int.reduceLT, Int.reduceToNat, Int.reduceBEq, Int.reduceBNe, Int.reduceLE, CV_ty, CV_inpl, b1, b2, b3, b4, b5', b6, b8, c5, d7, d9, dw, n8, n2, n0, resP, embR, hpM, mbV, marV, hP, tkB_f, AV.belL, AV.bel, retD_ret, retD_normal, cutNormal_normal]
      all_goals rfl
  | ok a b =>
    rw [ht] at qt hm
    obtain ⟨ra, rb⟩ := hab a b ht
    have hs1 : sizeP (pt.kid 0) + sizeP (pt.kid 1) + 1 ≤ sizeP pt := sizeP_two hl
    have ia := ih _ (ptkid_mem (p := pt) (i := 0) (by omega)) a ra L v r (by omega)
    cases hb1 : (matP (pt.kid 0) a L).b with
    | false =>
      simp only [hb1, Bool.false_eq_true, if_false] at hm
      rw [hm]
      rw [hb1] at ia
      simp only [hpM, mbV, marV] at ia ⊢
      rcases b7 with ⟨d7, d9, dw⟩ | ⟨d7, d9, dw⟩
      · refine acallsD_text CV_ok Try.func92 rfl (by decide) (Nat.le_of_ble_eq_true rfl) (by decide) fun ok => ?_
        rw [Try.results92]
        have h := True.intro
        repeat' (first
         | (with_reducible first | apply bA | apply bB | apply bC | apply bD | apply bE | apply bF) <;> intro h
         | ((first | refine goCall_norm ?_ | refine goDCall_norm ?_); simp only [AV.norm, AV.normL, W2, W2C, W2P, W2V, W2L, Go.Ab.W3, Int.reduceAdd, Int.reduceLT, Int.reduceToNat, Int.reduceBEq, Int.reduceBNe, Int.reduceLE, CV_ty, CV_inpl, b1, b2, b3, b4, b5', b6, b8, c5, d7, d9, dw, n8, n2, n0, g0, g1, c0, c1, t0, t1, z1, hl, hP, resP, embR, tkB_f, AV.belL, AV.bel, retD_ret, retD_normal]; first | refine goCall_p (qt) (.inl rfl) ?_ | refine goDCall_p (qt) (.inl rfl) ?_ | refine goDCall_z rfl trivial (ia _ (by first | exact hp | exact lt_app hp) (by first | exact hq | exact lt_app hq) hne) (.inl rfl) (fun hb => hpM_bel (by first | exact hp | exact lt_app hp) (by first | exact hq | exact lt_app hq) hne hb) ?_)
         | refine go_drawF (id := 5) CV_ok (fun _ => trivial) mixed 0 Try.f92.ntmps (by first | (simp; done) | (simp; omega)) rfl (by kernel_rfl) (by decide) ?_
         | refine go_drawF (id := 26) CV_ok (fun _ => trivial) mixed 0 Try.f92.ntmps (by first | (simp; done) | (simp; omega)) rfl (by kernel_rfl) (by decide) ?_
         | refine goRound ?_ CV_ok Try.f92.ntmps rfl (by decide)
         | skip) <;> simp only [h, ↓upd_eq, ↓envL_cons, WY, reduceIte, reduceEqDiff, reduceAdd, reduceLT, reduceLeDiff, reduceCtorEq, reduceMul, reducePow, W1, W1C, W1P, W1V, W1L, fs_frz, fs_frz0, fs_env, fs_b, fs_n, fs_put, fs_put0, fs_tmp, fs_const, fs_func, fs_obj, fs_setObj, fs_new, fs_next, fs_mk, fs_H, le_app, le_set, app_get, app_set, app_get0c, app_getkc, app_set0c, app_setkc, List.append_assoc, not_false_eq_true, not_true_eq_false, retE_ret, retP_ret, List.length_append, List.length_set, Nat.le_succ, Go.Ab.W3, Int.reduceAdd, Int.reduceLT, Int.reduceToNat, Int.reduceBEq, Int.reduceBNe, Int.reduceLE, CV_ty, CV_inpl, b1, b2, b3, b4, b5', b6, b8, c5, d7, d9, dw, n8, n2, n0, g0, g1, c0, c1, t0, t1, z1, hl, hP, resP, embR, tkB_f, AV.belL, AV.bel, retD_ret, retD_normal, cutNormal_normal]
        all_goals exact hb1.symm
      · refine acallsD_text CV_ok Try.func92 rfl (by decide) (Nat.le_of_ble_eq_true rfl) (by decide) fun ok => ?_
        rw [Try.results92]
        have h := True.intro
        repeat' (first
         | (with_reducible first | apply bA | apply bB | apply bC | apply bD | apply bE | apply bF) <;> intro h
         | ((first | refine goCall_norm ?_ | refine goDCall_norm ?_); simp only [AV.norm, AV.normL, W2, W2C, W2P, W2V, W2L, Go.Ab.W3, Int.reduceAdd, Int.reduceLT, Int.reduceToNat, Int.reduceBEq, Int.reduceBNe, Int.reduceLE, CV_ty, CV_inpl, b1, b2, b3, b4, b5', b6, b8, c5, d7, d9, dw, n8, n2, n0, g0, g1, c0, c1, t0, t1, z1, hl, hP, resP, embR, tkB_f, AV.belL, AV.bel, retD_ret, retD_normal]; first | refine goCall_p (qt) (.inl rfl) ?_ | refine goDCall_p (qt) (.inl rfl) ?_ | refine goDCall_z rfl trivial (ia _ (by first | exact hp | exact lt_app hp) (by first | exact hq | exact lt_app hq) hne) (.inl rfl) (fun hb => hpM_bel (by first | exact hp | exact lt_app hp) (by first | exact hq | exact lt_app hq) hne hb) ?_)
         | refine go_drawF (id := 5) CV_ok (fun _ => trivial) mixed 0 Try.f92.ntmps (by first | (simp; done) | (simp; omega)) rfl (by kernel_rfl) (by decide) ?_
         | refine go_drawF (id := 26) CV_ok (fun _ => trivial) mixed 0 Try.f92.ntmps (by first | (simp; done) | (simp; omega)) rfl (by kernel_rfl) (by decide) ?_
         | refine goRound ?_ CV_ok Try.f92.ntmps rfl (by decide)
         | skip) <;> simp only [h, ↓upd_eq, ↓envL_cons, WY, reduceIte, reduceEqDiff, reduceAdd, reduceLT, reduceLeDiff, reduceCtorEq, reduceMul, reducePow, W1, W1C, W1P, W1V, W1L, fs_frz, fs_frz0, fs_env, fs_b, fs_n, fs_put, fs_put0, fs_tmp, fs_const, fs_func, fs_obj, fs_setObj, fs_new, fs_next, fs_mk, fs_H, le_app, le_set, app_get, app_set, app_get0c, app_getkc, app_set0c, app_setkc, List.append_assoc, not_false_eq_true, not_true_eq_false, retE_ret, retP_ret, List.length_append, List.length_set, Nat.le_succ, Go.Ab.W3, Int.reduceAdd, Int.reduceLT, Int.reduceToNat, Int.reduceBEq, Int.reduceBNe, Int.reduceLE, CV_ty, CV_inpl, b1, b2, b3, b4, b5', b6, b8, c5, d7, d9, dw, n8, n2, n0, g0, g1, c0, c1, t0, t1, z1, hl, hP, resP, embR, tkB_f, AV.belL, AV.bel, retD_ret, retD_normal, cutNormal_normal]
        all_goals exact hb1.symm
    | true =>
      simp only [hb1, if_true] at hm
      rw [hm]
      have hn := matP_none (pt.kid 0) (ho _ (ptkid_mem (p := pt) (i := 0) (by omega))) a L hb1
      obtain ⟨l1, l2⟩ := matP_len (pt.kid 0) (ho _ (ptkid_mem (p := pt) (i := 0) (by omega))) a L
      have l3 := (matP_len (pt.kid 1) (ho _ (ptkid_mem (p := pt) (i := 1) (by omega))) b (matP (pt.kid 0) a L).L).1
      have ib := ih _ (ptkid_mem (p := pt) (i := 1) (by omega)) b rb (matP (pt.kid 0) a L).L (v + ((matP (pt.kid 0) a L).L.length - L.length)) r (by omega)
      have hv : v + ((matP (pt.kid 0) a L).L.length - L.length) + ((matP (pt.kid 1) b (matP (pt.kid 0) a L).L).L.length - (matP (pt.kid 0) a L).L.length) = v + ((matP (pt.kid 1) b (matP (pt.kid 0) a L).L).L.length - L.length) := by omega
      rw [hb1, hn] at ia
      rw [hv] at ib
      simp only [rcOf] at ia
      simp only [hpM, mbV, marV] at ia ib ⊢
      rcases b7 with ⟨d7, d9, dw⟩ | ⟨d7, d9, dw⟩
      · refine acallsD_text CV_ok Try.func92 rfl (by decide) (Nat.le_of_ble_eq_true rfl) (by decide) fun ok => ?_
        rw [Try.results92]
        have h := True.intro
        repeat' (first
         | (with_reducible first | apply bA | apply bB | apply bC | apply bD | apply bE | apply bF) <;> intro h
         | ((first | refine goCall_norm ?_ | refine goDCall_norm ?_); simp only [AV.norm, AV.normL, W2, W2C, W2P, W2V, W2L, Go.Ab.W3, Int.reduceAdd, Int.reduceLT, Int.reduceToNat, Int.reduceBEq, Int.reduceBNe, Int.reduceLE, CV_ty, CV_inpl, b1, b2, b3, b4, b5', b6, b8, c5, d7, d9, dw, n8, n2, n0, g0, g1, c0, c1, t0, t1, z1, hl, hP, resP, embR, tkB_f, AV.belL, AV.bel, retD_ret, retD_normal]; first | refine goCall_p (qt) (.inl rfl) ?_ | refine goDCall_p (qt) (.inl rfl) ?_ | refine goDCall_z rfl trivial (ia _ (by first | exact hp | exact lt_app hp) (by first | exact hq | exact lt_app hq) hne) (.inl rfl) (fun hb => hpM_bel (by first | exact hp | exact lt_app hp) (by first | exact hq | exact lt_app hq) hne hb) ?_ | refine goDCall_z rfl trivial (ib _ (by first | exact hp | exact lt_app hp) (by first | exact hq | exact lt_app hq) hne) (.inl rfl) (fun hb => hpM_bel (by first | exact hp | exact lt_app hp) (by first | exact hq | exact lt_app hq) hne hb) ?_)
         | refine go_drawF (id := 5) CV_ok (fun _ => trivial) mixed 0 Try.f92.ntmps (by first | (simp; done) | (simp; omega)) rfl (by kernel_rfl) (by decide) ?_
         | refine go_drawF (id := 26) CV_ok (fun _ => trivial) mixed 0 Try.f92.ntmps (by first | (simp; done) | (simp; omega)) rfl (by kernel_rfl) (by decide) ?_
         | refine goRound ?_ CV_ok Try.f92.ntmps rfl (by decide)
         | skip) <;> simp only [h, ↓upd_eq, ↓envL_cons, WY, reduceIte, reduceEqDiff, reduceAdd, reduceLT, reduceLeDiff, reduceCtorEq, reduceMul, reducePow, W1, W1C, W1P, W1V, W1L, fs_frz, fs_frz0, fs_env, fs_b, fs_n, fs_put, fs_put0, fs_tmp, fs_const, fs_func, fs_obj, fs_setObj, fs_new, fs_next, fs_mk, fs_H, le_app, le_set, app_get, app_set, app_get0c, app_getkc, app_set0c, app_setkc, List.append_assoc, not_false_eq_true, not_true_eq_false, retE_ret, retP_ret, List.length_append, List.length_set, Nat.le_succ, Go.Ab.W3, Int.reduceAdd, Int.reduceLT, Int.reduceToNat, Int.reduceBEq, Int.reduceBNe, Int.reduceLE, CV_ty, CV_inpl, b1, b2, b3, b4, b5', b6, b8, c5, d7, d9, dw, n8, n2, n0, g0, g1, c0, c1, t0, t1, z1, hl, hP, resP, embR, tkB_f, AV.belL, AV.bel, retD_ret, retD_normal, cutNormal_normal]
        all_goals rfl
      · refine acallsD_text CV_ok Try.func92 rfl (by decide) (Nat.le_of_ble_eq_true rfl) (by decide) fun ok => ?_
        rw [Try.results92]
        have h := True.intro
        repeat' (first
         | (with_reducible first | apply bA | apply bB | apply bC | apply bD | apply bE | apply bF) <;> intro h
         | ((first | refine goCall_norm ?_ | refine goDCall_norm ?_); simp only [AV.norm, AV.normL, W2, W2C, W2P, W2V, W2L, Go.Ab.W3, Int.reduceAdd, Int.reduceLT, Int.reduceToNat, Int.reduceBEq, Int.reduceBNe, Int.reduceLE, CV_ty, CV_inpl, b1, b2, b3, b4, b5', b6, b8, c5, d7, d9, dw, n8, n2, n0, g0, g1, c0, c1, t0, t1, z1, hl, hP, resP, embR, tkB_f, AV.belL, AV.bel, retD_ret, retD_normal]; first | refine goCall_p (qt) (.inl rfl) ?_ | refine goDCall_p (qt) (.inl rfl) ?_ | refine goDCall_z rfl trivial (ia _ (by first | exact hp | exact lt_app hp) (by first | exact hq | exact lt_app hq) hne) (.inl rfl) (fun hb => hpM_bel (by first | exact hp | exact lt_app hp) (by first | exact hq | exact lt_app hq) hne hb) ?_ | refine goDCall_z rfl trivial (ib _ (by first | exact hp | exact lt_app hp) (by first | exact hq | exact lt_app hq) hne) (.inl rfl) (fun hb => hpM_bel (by first | exact hp | exact lt_app hp) (by first | exact hq | exact lt_app hq) hne hb) ?_)
         | refine go_drawF (id := 5) CV_ok (fun _ => trivial) mixed 0 Try.f92.ntmps (by first | (simp; done) | (simp; omega)) rfl (by kernel_rfl) (by decide) ?_
         | refine go_drawF (id := 26) CV_ok (fun _ => trivial) mixed 0 Try.f92.ntmps (by first | (simp; done) | (simp; omega)) rfl (by kernel_rfl) (by decide) ?_
         | refine goRound ?_ CV_ok Try.f92.ntmps rfl (by decide)
         | skip) <;> simp only [h, ↓upd_eq, ↓envL_cons, WY, reduceIte, reduceEqDiff, reduceAdd, reduceLT, reduceLeDiff, reduceCtorEq, reduceMul, reducePow, W1, W1C, W1P, W1V, W1L, fs_frz, fs_frz0, fs_env, fs_b, fs_n, fs_put, fs_put0, fs_tmp, fs_const, fs_func, fs_obj, fs_setObj, fs_new, fs_next, fs_mk, fs_H, le_app, le_set, app_get, app_set, app_get0c, app_getkc, app_set0c, app_setkc, List.append_assoc, not_false_eq_true, not_true_eq_false, retE_ret, retP_ret, List.length_append, List.length_set, Nat.le_succ, Go.Ab.W3, Int.reduceAdd, Int.reduceLT, Int.reduceToNat, Int.reduceBEq, Int.reduceBNe, Int.reduceLE, CV_ty, CV_inpl, b1, b2, b3, b4, b5', b6, b8, c5, d7, d9, dw, n8, n2, n0, g0, g1, c0, c1, t0, t1, z1, hl, hP, resP, embR, tkB_f, AV.belL, AV.bel, retD_ret, retD_normal, cutNormal_normal]
        all_goals rfl
end

end Go.Proofs.Ytofogicgnldfhaa
end

section
/- Walks: a pattern held against a value: any. No condition. -/
set_option linter.unusedSimpArgs false
set_option linter.unusedVariables false
set_option maxHeartbeats 4000000
set_option maxRecDepth 100000
namespace Go.Proofs.Ytofogicgnldfhaa
open Go Go.Ab

theorem setC_kid (v : Vl) (c : Co) (i : Nat) : (setC v c).kid i = v.kid i := rfl
theorem rightV_setC {v : Vl} {c : Co} (h : rightV v = true) (hc : aroundV (setC v c) = true) : rightV (setC v c) = true := by
  rw [rightV_eq, Bool.and_eq_true] at h ⊢
  refine ⟨?_, h.2⟩
  have h1 := h.1
  simp only [ownV, oneV, Bool.and_eq_true] at h1 ⊢
  exact ⟨⟨⟨h1.1.1.1, h1.1.1.2⟩, hc⟩, h1.2⟩
theorem rightV_wrapA {v a : Vl} {c : Co} (h : rightV v = true) (hw : wrapA v c = .ok a) : rightV a = true := by
  unfold wrapA at hw
  split at hw
  · cases hw
  split at hw
  · cases hw
  split at hw
  · cases hw; exact rightV_setC h rfl
  split at hw
  · next hc => cases hw; exact rightV_setC h hc
  · cases hw
theorem kids_two {v : Vl} (h : rightV v = true) (hk : v.kind = 5 ∨ v.kind = 7) : v.kids.length = 2 := by
  have := ownV_of h
  simp only [ownV, oneV, Bool.and_eq_true, decide_eq_true_eq] at this
  have h2 := this.1.1.2
  rw [if_pos hk] at h2; omega
theorem rightV_two {v a b : Vl} (h : rightV v = true) (ht : twoV v = .ok a b) : rightV a = true ∧ rightV b = true := by
  unfold twoV at ht
  split at ht
  · cases ht
  next he =>
  have hl : v.kids.length = 2 := kids_two h (by omega)
  split at ht
  · cases ht; exact ⟨rightV_kid h (by omega), rightV_kid h (by omega)⟩
  split at ht
  · cases ht
  · cases ht
  next x hx =>
  split at ht
  · cases ht
  · cases ht
  next y hy =>
  cases ht
  exact ⟨rightV_wrapA (rightV_kid h (by omega)) hx, rightV_wrapA (rightV_kid h (by omega)) hy⟩
section
variable {p q : Nat}
theorem pat_ok : ∀ pt : Pt, okA pt = true → ∀ w : Vl, rightV w = true → PatC p q pt w :=
  Pt.ind (p := fun pt => okA pt = true → ∀ w : Vl, rightV w = true → PatC p q pt w) fun pt ih hk w hr => by
    obtain ⟨hk, ho⟩ := okA_eq hk
    have hl := okP_two hk
    have hj := okP_kind hk
    by_cases h1 : pt.kind = 1
    · exact pat_any pt w h1
    by_cases h2 : pt.kind = 2
    · exact pat_name pt w h2
    by_cases h5 : w.co.kind = 5
    · exact pat_inj pt w h1 h2 h5 hl
    by_cases h3 : pt.kind = 3
    · exact pat_leaf3 pt w h3 h5
    by_cases h4 : pt.kind = 4
    · exact pat_leaf4 pt w h4 h5
    by_cases h5' : pt.kind = 5
    · exact pat_leaf5 pt w h5' h5
    by_cases h6 : pt.kind = 6
    · exact pat_leaf6 pt w h6 h5
    by_cases h8 : pt.kind = 8
    · exact pat_leaf8 pt w h8 h5
    have h79 : pt.kind = 7 ∨ pt.kind = 9 := by omega
    by_cases hm : (pt.kind = 7 ∧ w.kind ≠ 5) ∨ (pt.kind = 9 ∧ w.kind ≠ 7)
    · rcases hm with ⟨a, b⟩ | ⟨a, b⟩
      · exact pat_no7 pt w a (hl h79) h5 b
      · exact pat_no9 pt w a (hl h79) h5 b
    refine pat_two pt w ?_ (hl h79) h5 hr ho (fun x hx y hy => ih x hx (ho x hx) y hy) fun a b hab => rightV_two hr hab
    rcases h79 with h | h
    · left; refine ⟨by simp [h], by simp [h], by simp; omega⟩
    · right; refine ⟨by simp [h], by simp [h], by simp; omega⟩
end

end Go.Proofs.Ytofogicgnldfhaa
end

