/- ValMatch answers true, whatever the input. No condition. -/
import Derived.Test.YtofogicgnldfhaaZ7
import Derived.Test.YtofogicgnldfhaaY23
set_option linter.unusedSimpArgs false
set_option linter.unusedVariables false
set_option maxHeartbeats 4000000
set_option maxRecDepth 100000
namespace Go.Proofs.Ytofogicgnldfhaa
open Go Go.Ab
open Nat (reduceEqDiff reduceAdd reduceLT reduceLeDiff reduceMul reducePow)
attribute [local irreducible] PCalls ACalls CallK GoCall GoDCall GoIf GoGb GoDGb GoO GoD GoX GoDX GoG GoDG GoGv GoDGv Go ALoop

theorem rmat_ok : ∀ pt : Pt, okA pt = true → ∀ w : Vl, rightV w = true → MatC pt w := by
  refine Pt.ind fun pt ih ho w hr => ?_
  obtain ⟨hk, hks⟩ := okA_eq ho
  have hkd := okP_kind hk
  have hl := okP_two hk
  by_cases h1 : pt.kind = 1
  · exact rmat_any pt w h1
  by_cases h2 : pt.kind = 2
  · exact rmat_name pt w h2
  by_cases h5 : w.co.kind = 5
  · exact rmat_inj pt w h1 h2 (by omega) h5 hl
  by_cases hw : w.kind = pt.kind - 2
  · by_cases h7 : pt.kind = 7 ∨ pt.kind = 9
    · exact rmat_two pt w h7 (hl h7) hr h5 hw hks fun x hx y hy => ih x hx (hks x hx) y hy
    · exact rmat_leaf pt w (by omega) (by omega) hk hr h5 hw
  · refine fun L => rmat_no pt w (by omega) h5 hw L ?_
    rw [matP_eq _ _ _ hl, if_neg h1, if_neg h2, if_neg h5]
    by_cases h7 : pt.kind ≠ 7 ∧ pt.kind ≠ 9
    · rw [if_pos h7]
      have : leafP pt w = false := by
        unfold leafP
        have : pt.kind = 3 ∨ pt.kind = 4 ∨ pt.kind = 5 ∨ pt.kind = 6 ∨ pt.kind = 8 := by omega
        rcases this with h | h | h | h | h <;> rw [h] at hw ⊢ <;> simp <;> omega
      rw [this]; exact ⟨_, rfl⟩
    · rw [if_neg h7, if_pos (by omega)]; exact ⟨_, rfl⟩
theorem rMatch_ok (pt : Pt) (w : Vl) (ho : okA pt = true) (hr : rightV w = true) (hs : sizeP pt ≤ 1000000) : PCalls Try.prog 25 [embP pt, embV w] (fitV pt w) := by
  have hb : ∀ H : List AObj, H.length ≤ H.length := fun H => Nat.le_refl _
  have hbel := fitV_bel pt w
  refine pcalls_text C_ok Try.func25 rfl (by decide) (Nat.le_of_ble_eq_true rfl) (by decide) hbel fun ok H => ?_
  rw [Try.results25]
  rw [initS_fs]
  obtain ⟨F1, hF1⟩ : ∃ F1, F1 = H ++ [AObj.box (cellsOf (embP pt)), .box (cellsOf (embV w)), .box (cellsOf (resM .none))] := ⟨_, rfl⟩
  obtain ⟨r, F2, d, h0⟩ := rmat_ok pt ho w hr [] (.sl [] .full) F1 (by simp only [List.length_nil]; omega) (.inl ⟨rfl, rfl⟩)
  obtain ⟨a1, es, a2, rfl, hac, hy⟩ := h0.out
  have hbel2 : (∀ x ∈ F1.take H.length, x.bel H.length = true) → ∀ x ∈ F2.take H.length, x.bel H.length = true := fun h => hac.bel (.inl ⟨rfl, rfl⟩) (by rw [hF1]; simp) h
  obtain ⟨hn, J, rfl⟩ := hac.out
  rw [hF1] at d hbel2
  simp only [embP_cells, embV_cells, resM, cellsOf_agg] at d hbel2
  unfold fitV embR
  cases hm : (matP pt w []).b with
  | false =>
    rw [hm] at d
    cases hrr : (matP pt w []).r
    all_goals
      rw [hrr] at d
      simp only [resM, embR, errM, rcOf, Bool.false_eq_true, if_false] at d ⊢
      have h := True.intro
      repeat' (first
       | (with_reducible first | apply bA | apply bB | apply bC | apply bD | apply bE | apply bF) <;> intro h
       | refine go_drawF (id := 4) C_ok (fun _ => trivial) mixed 0 Try.f25.ntmps (by first | (simp; done) | (simp; omega)) rfl (by kernel_rfl) (by decide) ?_
       | skip) <;> simp only [h, ↓upd_eq, ↓envL_cons, WY, reduceIte, reduceEqDiff, reduceAdd, reduceLT, reduceLeDiff, reduceCtorEq, reduceMul, reducePow, W1, W1C, W1P, W1V, W1L, fs_frz, fs_frz0, fs_env, fs_b, fs_n, fs_put, fs_put0, fs_tmp, fs_const, fs_func, fs_obj, fs_setObj, fs_new, fs_next, fs_mk, fs_H, le_app, le_set, app_get, app_set, app_get0c, app_getkc, app_set0c, app_setkc, List.append_assoc, not_false_eq_true, not_true_eq_false, retE_ret, retP_ret, List.length_append, List.length_set, Nat.le_succ, hb]
      refine fsCallD d (.inl rfl) hbel2 ?_
      have h := True.intro
      repeat' (first
       | (with_reducible first | apply bA | apply bB | apply bC | apply bD | apply bE | apply bF) <;> intro h
       | refine go_drawF (id := 4) C_ok (fun _ => trivial) mixed 0 Try.f25.ntmps (by first | (simp; done) | (simp; omega)) rfl (by kernel_rfl) (by decide) ?_
       | skip) <;> simp only [h, ↓upd_eq, ↓envL_cons, WY, reduceIte, reduceEqDiff, reduceAdd, reduceLT, reduceLeDiff, reduceCtorEq, reduceMul, reducePow, W1, W1C, W1P, W1V, W1L, fs_frz, fs_frz0, fs_env, fs_b, fs_n, fs_put, fs_put0, fs_tmp, fs_const, fs_func, fs_obj, fs_setObj, fs_new, fs_next, fs_mk, fs_H, le_app, le_set, app_get, app_set, app_get0c, app_getkc, app_set0c, app_setkc, List.append_assoc, not_false_eq_true, not_true_eq_false, retE_ret, retP_ret, List.length_append, List.length_set, Nat.le_succ, hb]
      all_goals simp
  | true =>
    have hrn := matP_none pt ho w [] hm
    obtain ⟨rfl, rfl⟩ := hy hm
    rw [hm, hrn] at d
    simp only [resM, embR, errM, if_true] at d ⊢
    have h := True.intro
    repeat' (first
     | (with_reducible first | apply bA | apply bB | apply bC | apply bD | apply bE | apply bF) <;> intro h
     | refine go_drawF (id := 4) C_ok (fun _ => trivial) mixed 0 Try.f25.ntmps (by first | (simp; done) | (simp; omega)) rfl (by kernel_rfl) (by decide) ?_
     | skip) <;> simp only [h, ↓upd_eq, ↓envL_cons, WY, reduceIte, reduceEqDiff, reduceAdd, reduceLT, reduceLeDiff, reduceCtorEq, reduceMul, reducePow, W1, W1C, W1P, W1V, W1L, fs_frz, fs_frz0, fs_env, fs_b, fs_n, fs_put, fs_put0, fs_tmp, fs_const, fs_func, fs_obj, fs_setObj, fs_new, fs_next, fs_mk, fs_H, le_app, le_set, app_get, app_set, app_get0c, app_getkc, app_set0c, app_setkc, List.append_assoc, not_false_eq_true, not_true_eq_false, retE_ret, retP_ret, List.length_append, List.length_set, Nat.le_succ, hb]
    refine fsCallD d (.inl rfl) hbel2 ?_
    have h := True.intro
    repeat' (first
     | (with_reducible first | apply bA | apply bB | apply bC | apply bD | apply bE | apply bF) <;> intro h
     | refine go_drawF (id := 4) C_ok (fun _ => trivial) mixed 0 Try.f25.ntmps (by first | (simp; done) | (simp; omega)) rfl (by kernel_rfl) (by decide) ?_
     | skip) <;> simp only [h, ↓upd_eq, ↓envL_cons, WY, reduceIte, reduceEqDiff, reduceAdd, reduceLT, reduceLeDiff, reduceCtorEq, reduceMul, reducePow, W1, W1C, W1P, W1V, W1L, fs_frz, fs_frz0, fs_env, fs_b, fs_n, fs_put, fs_put0, fs_tmp, fs_const, fs_func, fs_obj, fs_setObj, fs_new, fs_next, fs_mk, fs_H, le_app, le_set, app_get, app_set, app_get0c, app_getkc, app_set0c, app_setkc, List.append_assoc, not_false_eq_true, not_true_eq_false, retE_ret, retP_ret, List.length_append, List.length_set, Nat.le_succ, hb, hn, mapL_norm]
    all_goals simp

theorem fitV_shape (pt : Pt) (w : Vl) (ho : okA pt = true) : ∃ (L : List Cl) (b : Bool) (k l : Int) (n : Bool) (e : Int), fitV pt w = .tup [.sl (L.map embL2) .no, .bool b, embR k l n, .int .i64 e] ∧ L.length ≤ sizeP pt := by
  unfold fitV
  split
  · exact ⟨_, _, _, _, _, _, rfl, by have := (matP_len pt ho w []).2; simpa using this⟩
  · exact ⟨[], _, _, _, _, _, rfl, Nat.zero_le _⟩
theorem valMatch_ok (pt : Pt) (v : Vl) : PCalls Try.prog 4 [embP pt, embV v] (.bool true) := by
  have q1 := heavyPat_ok pt
  have q2 := heavyV1_ok v
  have q4 := rrightV_ok v
  have qw := wakes_ok
  cases hp : heavyP pt with
  | true =>
    rw [hp] at q1
    refine pcalls_text C_ok Try.func4 rfl (by decide) (Nat.le_of_ble_eq_true rfl) (by decide) rfl fun ok H => ?_
    rw [Try.results4]
    repeat' first
     | ((first | apply goGb_op (fun _ _ => rfl) | apply goDGb_op (fun _ _ => rfl)); (· intro hb; (try simp only [Bool.and_eq_true, Bool.not_eq_true', Bool.or_eq_false_iff, Bool.not_eq_false'] at hb); simp only [hb, ↓upd_eq, ↓envL_cons, WZ, reduceIte, reduceEqDiff, reduceAdd, reduceLT, reduceLeDiff, reduceCtorEq, reduceMul, reducePow, W1, W1C, W1P, W1V, W1L, W5]; exact ⟨rfl, trivial⟩))
     | ((first | apply goGb_call (q1) | apply goDGb_call (q1)); (· intro hb; (try simp only [Bool.and_eq_true, Bool.not_eq_true', Bool.or_eq_false_iff, Bool.not_eq_false'] at hb); simp only [hb, AV.norm, AV.normL, W2, W2C, W2P, W2V, W2L, ↓upd_eq, ↓envL_cons, WZ, reduceIte, reduceEqDiff, reduceAdd, reduceLT, reduceLeDiff, reduceCtorEq, reduceMul, reducePow, W1, W1C, W1P, W1V, W1L, W5]; rfl))
     | (with_reducible first | apply bA | apply bB | apply bC | apply bD | apply bE | apply bF) <;> intro h <;> try simp only [h, ↓upd_eq, ↓envL_cons, WZ, reduceIte, reduceEqDiff, reduceAdd, reduceLT, reduceLeDiff, reduceCtorEq, reduceMul, reducePow, W1, W1C, W1P, W1V, W1L, W5]
     | ((first | refine goCall_norm ?_ | refine goDCall_norm ?_); simp only [AV.norm, AV.normL, W2, W2C, W2P, W2V, W2L]; first | refine goCall_p (q1) (.inl rfl) ?_ | refine goDCall_p (q1) (.inl rfl) ?_)
     | refine go_draw (id := 12) C_ok (fun _ => trivial) mixed 0 Try.f4.ntmps rfl (by kernel_rfl) (by decide) ?_
     | simp only [↓upd_eq, ↓envL_cons, WZ, reduceIte, reduceEqDiff, reduceAdd, reduceLT, reduceLeDiff, reduceCtorEq, reduceMul, reducePow, W1, W1C, W1P, W1V, W1L, W5]
  | false =>
  rw [hp] at q1
  have hsz := heavyP_size hp
  cases hv : heavyV [v] with
  | true =>
    rw [hv] at q2
    refine pcalls_text C_ok Try.func4 rfl (by decide) (Nat.le_of_ble_eq_true rfl) (by decide) rfl fun ok H => ?_
    rw [Try.results4]
    repeat' first
     | ((first | apply goGb_op (fun _ _ => rfl) | apply goDGb_op (fun _ _ => rfl)); (· intro hb; (try simp only [Bool.and_eq_true, Bool.not_eq_true', Bool.or_eq_false_iff, Bool.not_eq_false'] at hb); simp only [hb, ↓upd_eq, ↓envL_cons, WZ, reduceIte, reduceEqDiff, reduceAdd, reduceLT, reduceLeDiff, reduceCtorEq, reduceMul, reducePow, W1, W1C, W1P, W1V, W1L, W5]; exact ⟨rfl, trivial⟩))
     | ((first | apply goGb_call (q1) | apply goDGb_call (q1) | apply goGb_call (q2) | apply goDGb_call (q2)); (· intro hb; (try simp only [Bool.and_eq_true, Bool.not_eq_true', Bool.or_eq_false_iff, Bool.not_eq_false'] at hb); simp only [hb, AV.norm, AV.normL, W2, W2C, W2P, W2V, W2L, ↓upd_eq, ↓envL_cons, WZ, reduceIte, reduceEqDiff, reduceAdd, reduceLT, reduceLeDiff, reduceCtorEq, reduceMul, reducePow, W1, W1C, W1P, W1V, W1L, W5]; rfl))
     | (with_reducible first | apply bA | apply bB | apply bC | apply bD | apply bE | apply bF) <;> intro h <;> try simp only [h, ↓upd_eq, ↓envL_cons, WZ, reduceIte, reduceEqDiff, reduceAdd, reduceLT, reduceLeDiff, reduceCtorEq, reduceMul, reducePow, W1, W1C, W1P, W1V, W1L, W5]
     | ((first | refine goCall_norm ?_ | refine goDCall_norm ?_); simp only [AV.norm, AV.normL, W2, W2C, W2P, W2V, W2L]; first | refine goCall_p (q1) (.inl rfl) ?_ | refine goCall_p (q2) (.inl rfl) ?_ | refine goDCall_p (q1) (.inl rfl) ?_ | refine goDCall_p (q2) (.inl rfl) ?_)
     | refine go_draw (id := 12) C_ok (fun _ => trivial) mixed 0 Try.f4.ntmps rfl (by kernel_rfl) (by decide) ?_
     | simp only [↓upd_eq, ↓envL_cons, WZ, reduceIte, reduceEqDiff, reduceAdd, reduceLT, reduceLeDiff, reduceCtorEq, reduceMul, reducePow, W1, W1C, W1P, W1V, W1L, W5]
  | false =>
  rw [hv] at q2
  have q3 := rRightPat_ok pt (by omega)
  rw [← chkP_page] at q3
  have q5 := vMatch_ok pt v (by omega)
  have z1 : ((1 : Int) == 1) = true := rfl
  have z0 : (((0 : Nat) : Int) == 0) = true := rfl
  by_cases hgood : chkP pt = true ∧ rightV v = true
  case neg =>
    rw [matchA, if_neg hgood] at q5
    unfold embR at q5
    have hbad : (chkP pt = false) ∨ (chkP pt = true ∧ rightV v = false) := by
      cases h1 : chkP pt
      · exact .inl rfl
      · right; refine ⟨rfl, ?_⟩; cases h2 : rightV v
        · rfl
        · exact absurd ⟨h1, h2⟩ hgood
    rcases hbad with h1 | ⟨h1, h2⟩
    · rw [h1] at q3
      refine pcalls_text C_ok Try.func4 rfl (by decide) (Nat.le_of_ble_eq_true rfl) (by decide) rfl fun ok H => ?_
      rw [Try.results4]
      repeat' first
       | ((first | apply goGb_op (fun _ _ => rfl) | apply goDGb_op (fun _ _ => rfl)); (· intro hb; (try simp only [Bool.and_eq_true, Bool.not_eq_true', Bool.or_eq_false_iff, Bool.not_eq_false'] at hb); simp only [hb, ↓upd_eq, ↓envL_cons, WZ, reduceIte, reduceEqDiff, reduceAdd, reduceLT, reduceLeDiff, reduceCtorEq, reduceMul, reducePow, W1, W1C, W1P, W1V, W1L, W5, z1, z0, List.length_nil]; exact ⟨rfl, trivial⟩))
       | ((first | apply goGb_call (q1) | apply goDGb_call (q1) | apply goGb_call (q2) | apply goDGb_call (q2) | apply goGb_call (q3) | apply goDGb_call (q3) | apply goGb_call (q5) | apply goDGb_call (q5) | apply goGb_call (qw) | apply goDGb_call (qw)); (· intro hb; (try simp only [Bool.and_eq_true, Bool.not_eq_true', Bool.or_eq_false_iff, Bool.not_eq_false'] at hb); simp only [hb, AV.norm, AV.normL, W2, W2C, W2P, W2V, W2L, ↓upd_eq, ↓envL_cons, WZ, reduceIte, reduceEqDiff, reduceAdd, reduceLT, reduceLeDiff, reduceCtorEq, reduceMul, reducePow, W1, W1C, W1P, W1V, W1L, W5, z1, z0, List.length_nil]; rfl))
       | (with_reducible first | apply bA | apply bB | apply bC | apply bD | apply bE | apply bF) <;> intro h <;> try simp only [h, ↓upd_eq, ↓envL_cons, WZ, reduceIte, reduceEqDiff, reduceAdd, reduceLT, reduceLeDiff, reduceCtorEq, reduceMul, reducePow, W1, W1C, W1P, W1V, W1L, W5, z1, z0, List.length_nil]
       | ((first | refine goCall_norm ?_ | refine goDCall_norm ?_); simp only [AV.norm, AV.normL, W2, W2C, W2P, W2V, W2L, z1, z0, List.length_nil]; first | refine goCall_p (q1) (.inl rfl) ?_ | refine goCall_p (q2) (.inl rfl) ?_ | refine goCall_p (q3) (.inl rfl) ?_ | refine goCall_p (q5) (.inl rfl) ?_ | refine goCall_p (qw) (.inl rfl) ?_ | refine goDCall_p (q1) (.inl rfl) ?_ | refine goDCall_p (q2) (.inl rfl) ?_ | refine goDCall_p (q3) (.inl rfl) ?_ | refine goDCall_p (q5) (.inl rfl) ?_ | refine goDCall_p (qw) (.inl rfl) ?_)
       | refine go_draw (id := 12) C_ok (fun _ => trivial) mixed 0 Try.f4.ntmps rfl (by kernel_rfl) (by decide) ?_
       | simp only [↓upd_eq, ↓envL_cons, WZ, reduceIte, reduceEqDiff, reduceAdd, reduceLT, reduceLeDiff, reduceCtorEq, reduceMul, reducePow, W1, W1C, W1P, W1V, W1L, W5, z1, z0, List.length_nil]
    · rw [h1] at q3
      rw [h2] at q4
      refine pcalls_text C_ok Try.func4 rfl (by decide) (Nat.le_of_ble_eq_true rfl) (by decide) rfl fun ok H => ?_
      rw [Try.results4]
      repeat' first
       | ((first | apply goGb_op (fun _ _ => rfl) | apply goDGb_op (fun _ _ => rfl)); (· intro hb; (try simp only [Bool.and_eq_true, Bool.not_eq_true', Bool.or_eq_false_iff, Bool.not_eq_false'] at hb); simp only [hb, ↓upd_eq, ↓envL_cons, WZ, reduceIte, reduceEqDiff, reduceAdd, reduceLT, reduceLeDiff, reduceCtorEq, reduceMul, reducePow, W1, W1C, W1P, W1V, W1L, W5, z1, z0, List.length_nil]; exact ⟨rfl, trivial⟩))
       | ((first | apply goGb_call (q1) | apply goDGb_call (q1) | apply goGb_call (q2) | apply goDGb_call (q2) | apply goGb_call (q3) | apply goDGb_call (q3) | apply goGb_call (q4) | apply goDGb_call (q4) | apply goGb_call (q5) | apply goDGb_call (q5) | apply goGb_call (qw) | apply goDGb_call (qw)); (· intro hb; (try simp only [Bool.and_eq_true, Bool.not_eq_true', Bool.or_eq_false_iff, Bool.not_eq_false'] at hb); simp only [hb, AV.norm, AV.normL, W2, W2C, W2P, W2V, W2L, ↓upd_eq, ↓envL_cons, WZ, reduceIte, reduceEqDiff, reduceAdd, reduceLT, reduceLeDiff, reduceCtorEq, reduceMul, reducePow, W1, W1C, W1P, W1V, W1L, W5, z1, z0, List.length_nil]; rfl))
       | (with_reducible first | apply bA | apply bB | apply bC | apply bD | apply bE | apply bF) <;> intro h <;> try simp only [h, ↓upd_eq, ↓envL_cons, WZ, reduceIte, reduceEqDiff, reduceAdd, reduceLT, reduceLeDiff, reduceCtorEq, reduceMul, reducePow, W1, W1C, W1P, W1V, W1L, W5, z1, z0, List.length_nil]
       | ((first | refine goCall_norm ?_ | refine goDCall_norm ?_); simp only [AV.norm, AV.normL, W2, W2C, W2P, W2V, W2L, z1, z0, List.length_nil]; first | refine goCall_p (q1) (.inl rfl) ?_ | refine goCall_p (q2) (.inl rfl) ?_ | refine goCall_p (q3) (.inl rfl) ?_ | refine goCall_p (q4) (.inl rfl) ?_ | refine goCall_p (q5) (.inl rfl) ?_ | refine goCall_p (qw) (.inl rfl) ?_ | refine goDCall_p (q1) (.inl rfl) ?_ | refine goDCall_p (q2) (.inl rfl) ?_ | refine goDCall_p (q3) (.inl rfl) ?_ | refine goDCall_p (q4) (.inl rfl) ?_ | refine goDCall_p (q5) (.inl rfl) ?_ | refine goDCall_p (qw) (.inl rfl) ?_)
       | refine go_draw (id := 12) C_ok (fun _ => trivial) mixed 0 Try.f4.ntmps rfl (by kernel_rfl) (by decide) ?_
       | simp only [↓upd_eq, ↓envL_cons, WZ, reduceIte, reduceEqDiff, reduceAdd, reduceLT, reduceLeDiff, reduceCtorEq, reduceMul, reducePow, W1, W1C, W1P, W1V, W1L, W5, z1, z0, List.length_nil]
  obtain ⟨hc, hr⟩ := hgood
  rw [matchA, if_pos ⟨hc, hr⟩] at q5
  rw [hc] at q3
  rw [hr] at q4
  have ho := okA_of hc
  have q6 := rMatch_ok pt v ho hr (by omega)
  obtain ⟨L, b, k, l, n, e, hf, hL⟩ := fitV_shape pt v ho
  rw [hf] at q5 q6
  have q7 := sameR_ok k l k l n n
  simp only [beq_self_eq_true, Bool.and_self] at q7
  unfold embR at q5 q6 q7
  have ebb : (!(b == b)) = false := by simp
  have eee : (e != e) = false := by simp
  have ell : ((L.length : Int) != (L.length : Int)) = false := by simp
  have hmax : L.length ≤ maxLen := by rw [maxLen_val]; omega
  refine pcalls_text C_ok Try.func4 rfl (by decide) (Nat.le_of_ble_eq_true rfl) (by decide) rfl fun ok H => ?_
  rw [Try.results4]
  repeat' first
   | ((first | apply goGb_op (fun _ _ => rfl) | apply goDGb_op (fun _ _ => rfl)); (· intro hb; (try simp only [Bool.and_eq_true, Bool.not_eq_true', Bool.or_eq_false_iff, Bool.not_eq_false'] at hb); simp only [hb, ↓upd_eq, ↓envL_cons, WZ, reduceIte, reduceEqDiff, reduceAdd, reduceLT, reduceLeDiff, reduceCtorEq, reduceMul, reducePow, W1, W1C, W1P, W1V, W1L, W5, ebb, eee, ell, mapL_norm, List.length_map]; exact ⟨rfl, trivial⟩))
   | ((first | apply goGb_call (q1) | apply goDGb_call (q1) | apply goGb_call (q2) | apply goDGb_call (q2) | apply goGb_call (q3) | apply goDGb_call (q3) | apply goGb_call (q4) | apply goDGb_call (q4) | apply goGb_call (q5) | apply goDGb_call (q5) | apply goGb_call (q6) | apply goDGb_call (q6) | apply goGb_call (q7) | apply goDGb_call (q7)); (· intro hb; (try simp only [Bool.and_eq_true, Bool.not_eq_true', Bool.or_eq_false_iff, Bool.not_eq_false'] at hb); simp only [hb, AV.norm, AV.normL, W2, W2C, W2P, W2V, W2L, ↓upd_eq, ↓envL_cons, WZ, reduceIte, reduceEqDiff, reduceAdd, reduceLT, reduceLeDiff, reduceCtorEq, reduceMul, reducePow, W1, W1C, W1P, W1V, W1L, W5, ebb, eee, ell, mapL_norm, List.length_map]; rfl))
   | (with_reducible first | apply bA | apply bB | apply bC | apply bD | apply bE | apply bF) <;> intro h <;> try simp only [h, ↓upd_eq, ↓envL_cons, WZ, reduceIte, reduceEqDiff, reduceAdd, reduceLT, reduceLeDiff, reduceCtorEq, reduceMul, reducePow, W1, W1C, W1P, W1V, W1L, W5, ebb, eee, ell, mapL_norm, List.length_map]
   | ((first | refine goCall_norm ?_ | refine goDCall_norm ?_); simp only [AV.norm, AV.normL, W2, W2C, W2P, W2V, W2L, ebb, eee, ell, mapL_norm, List.length_map]; first | refine goCall_p (q1) (.inl rfl) ?_ | refine goCall_p (q2) (.inl rfl) ?_ | refine goCall_p (q3) (.inl rfl) ?_ | refine goCall_p (q4) (.inl rfl) ?_ | refine goCall_p (q5) (.inl rfl) ?_ | refine goCall_p (q6) (.inl rfl) ?_ | refine goCall_p (q7) (.inl rfl) ?_ | refine goDCall_p (q1) (.inl rfl) ?_ | refine goDCall_p (q2) (.inl rfl) ?_ | refine goDCall_p (q3) (.inl rfl) ?_ | refine goDCall_p (q4) (.inl rfl) ?_ | refine goDCall_p (q5) (.inl rfl) ?_ | refine goDCall_p (q6) (.inl rfl) ?_ | refine goDCall_p (q7) (.inl rfl) ?_)
   | refine go_draw (id := 12) C_ok (fun _ => trivial) mixed 0 Try.f4.ntmps rfl (by kernel_rfl) (by decide) ?_
   | simp only [↓upd_eq, ↓envL_cons, WZ, reduceIte, reduceEqDiff, reduceAdd, reduceLT, reduceLeDiff, reduceCtorEq, reduceMul, reducePow, W1, W1C, W1P, W1V, W1L, W5, ebb, eee, ell, mapL_norm, List.length_map]
  refine aloop_trim [13, 5, 9] ?_
  simp only [List.map_cons, List.map_nil, ↓upd_eq, ↓envL_cons, WZ, reduceIte, reduceEqDiff, reduceAdd, reduceLT, reduceLeDiff, reduceCtorEq, reduceMul, reducePow, W1, W1C, W1P, W1V, W1L]
  refine goLoopS 1 (fun i : Nat => [(13, .int .i64 i)]) (fun _ => _) (fun i => i ≤ L.length) (fun i => L.length - i) C_ok 0 rfl rfl (Nat.zero_le _) (by decide) ?_
  intro i hi
  simp only [List.drop_succ_cons, List.drop_zero, List.cons_append, List.nil_append]
  simp only [↓upd_eq, ↓envL_cons, WZ, reduceIte, reduceEqDiff, reduceAdd, reduceLT, reduceLeDiff, reduceCtorEq, reduceMul, reducePow, W1, W1C, W1P, W1V, W1L]
  refine goIf_d (fun hlt => ?_) (fun hlt => ?_)
  · have hg := mapL_get hlt
    generalize L.getD i default = x at hg
    have q8 := rsameV_ok x.2 x.2
    rw [sameV_true.2 rfl] at q8
    have exx : (x.1.toList == x.1.toList) = true := by simp
    have h := True.intro
    repeat' (first
     | (with_reducible first | apply bA | apply bB | apply bC | apply bD | apply bE | apply bF) <;> intro h
     | ((first | refine goCall_norm ?_ | refine goDCall_norm ?_); simp only [AV.norm, AV.normL, W2, W2C, W2P, W2V, W2L, hlt, hg, exx, Bool.not_true, List.length_map]; first | refine goCall_p (q8) (.inl rfl) ?_ | refine goDCall_p (q8) (.inl rfl) ?_)
     | refine go_draw (id := 12) C_ok (fun _ => trivial) mixed 0 Try.f4.ntmps rfl (by kernel_rfl) (by decide) ?_
     | skip) <;> simp only [h, ↓upd_eq, ↓envL_cons, WZ, reduceIte, reduceEqDiff, reduceAdd, reduceLT, reduceLeDiff, reduceCtorEq, reduceMul, reducePow, W1, W1C, W1P, W1V, W1L, hlt, hg, exx, Bool.not_true, List.length_map]
    refine ⟨i + 1, hlt, by omega, weak_drop rfl rfl rfl rfl ?_ ?_ ?_⟩
    all_goals simp only [List.forall_mem_cons, mem_nil_all, frz_app, ↓upd_eq, ↓envL_cons, Nat.reduceEqDiff, if_true, if_false, reduceIte, true_and, and_true, and_self, true_or, or_true, implies_true, List.not_mem_nil, false_implies, AV.bel, AV.belL, AObj.bel, AV.norm, AV.normL, Bool.and_true, Bool.true_and, decide_true, decide_eq_true_eq, List.length_cons, List.length_nil, Nat.zero_add, Nat.reduceAdd, Nat.lt_add_one, Nat.lt_add_right_iff_pos, Nat.zero_lt_succ, Nat.zero_lt_one, Nat.reduceLT, List.take_succ_cons, List.take_zero, wrap_succ hlt hmax, mapL_bel, mapP_bel, mapV_bel, mapC_bel, AV.belL, List.length_map]
    all_goals trace_state
  · have h := True.intro
    repeat' (first
     | (with_reducible first | apply bA | apply bB | apply bC | apply bD | apply bE | apply bF) <;> intro h
     | ((first | refine goCall_norm ?_ | refine goDCall_norm ?_); simp only [AV.norm, AV.normL, W2, W2C, W2P, W2V, W2L]; first | refine goCall_p (qw) (.inl rfl) ?_ | refine goDCall_p (qw) (.inl rfl) ?_)
     | refine go_draw (id := 12) C_ok (fun _ => trivial) mixed 0 Try.f4.ntmps rfl (by kernel_rfl) (by decide) ?_
     | skip) <;> simp only [h, ↓upd_eq, ↓envL_cons, WZ, reduceIte, reduceEqDiff, reduceAdd, reduceLT, reduceLeDiff, reduceCtorEq, reduceMul, reducePow, W1, W1C, W1P, W1V, W1L]

end Go.Proofs.Ytofogicgnldfhaa
