/- Walks: a new node where there is no room; kinds in drawn regions. No condition. -/
import Derived.Test.YtdngjamjccjlmaaB1
import Derived.Test.YtdngjamjccjlmaaPWa
set_option linter.unusedSimpArgs false
set_option linter.unusedVariables false
set_option maxHeartbeats 4000000
set_option maxRecDepth 100000
namespace Go.Proofs.Ytdngjamjccjlmaa
open Go Go.Ab
open Nat (reduceEqDiff reduceAdd reduceLT reduceLeDiff reduceMul reducePow)
attribute [local irreducible] PCalls ACalls CallK GoCall GoDCall GoIf GoGb GoDGb GoO GoD GoX GoDX GoG GoDG GoGv GoDGv Go ALoop

section
variable {F : List AObj} {s r v : Nat} {L : Mem} {lim cnt rd : Int}
theorem kind_q {e : Nat → AV} {b m : Nat} {G : List AObj} (hs : s < F.length) (hr : r < F.length) (hne : r ≠ s) (hw : Wf L.st) (n : Nat) (hn : n < L.length) (hG : G[s]? = some (bxS r v L.length lim cnt rd) ∧ G[r]? = some (arS v L)) : QCalls Try.prog 32 [.bptr s 0, .int .i64 n] (.int .i64 (L.st.kind (L.st.root n))) (FS e G b m).obj :=
  qcalls_st (s := s) (r := r) (bx := bxS r v L.length lim cnt rd) (ar := arS v L) (fun F' h1 h2 => kind_in h1 h2 hne hw n hn) (by rw [fs_obj]; exact hG.1) (by rw [fs_obj]; exact hG.2) rfl rfl
theorem make_full (hs : s < F.length) (hr : r < F.length) (hne : r ≠ s) (kd : Int) (a b : Nat) (hk : kd = 7 ∨ kd = 9) (ha : a < L.length) (hb' : b < L.length) (hc : (cnt == lim) = true) :
    DCalls Try.prog 82 [.bptr s 0, .int .i64 kd, .int .i64 a, .int .i64 b] (hpS F s r v L lim cnt rd) (.tup [.int .i64 0, .int .i64 7]) (hpS F s r v L lim cnt rd) := by
  have i1 := is_ok (v := v) (L := L) (lim := lim) (cnt := cnt) (rd := rd) hs hr hne (a : Int)
  have i2 := is_ok (v := v) (L := L) (lim := lim) (cnt := cnt) (rd := rd) hs hr hne (b : Int)
  rw [show (decide (0 ≤ (a : Int)) && decide ((a : Int) < L.length)) = true by simp; omega] at i1
  rw [show (decide (0 ≤ (b : Int)) && decide ((b : Int) < L.length)) = true by simp; omega] at i2
  unfold DCalls
  rcases hk with rfl | rfl
  · refine acallsD_text C_ok Try.func82 rfl (by decide) (Nat.le_of_ble_eq_true rfl) (by decide) fun ok => ?_
    rw [Try.results82]
    have h := True.intro
    repeat' (first
     | (with_reducible first | apply bA | apply bB | apply bC | apply bD | apply bE | apply bF) <;> intro h
     | ((first | refine goCall_norm ?_ | refine goDCall_norm ?_); simp only [AV.norm, AV.normL, W2, Go.Ab.W3, Int.reduceAdd, Int.reduceLT, Int.reduceToNat, Int.reduceBEq, Int.reduceBNe, Int.reduceLE, hpS, bxS, arS, stP hs hr hne, retD_ret, retD_normal, AV.bel, mapN_len, hc, AV.belL]; first  | refine fsCallR (i1) (.inl rfl) ?_ | refine fsCallR (i2) (.inl rfl) ?_)
     | refine go_drawF (id := 14) C_ok (fun _ => trivial) mixed 0 Try.f82.ntmps (by first | (simp; done) | (simp; omega)) rfl (by kernel_rfl) (by decide) ?_
     | refine goRound ?_ C_ok Try.f82.ntmps rfl (by decide)
     | skip) <;> simp only [h, ↓upd_eq, ↓envL_cons, WY, reduceIte, reduceEqDiff, reduceAdd, reduceLT, reduceLeDiff, reduceCtorEq, reduceMul, reducePow, W1, fs_frz, fs_frz0, fs_env, fs_b, fs_n, fs_put, fs_put0, fs_tmp, fs_const, fs_func, fs_obj, fs_setObj, fs_new, fs_next, fs_mk, fs_H, le_app, le_set, app_get, app_set, app_get0c, app_getkc, app_set0c, app_setkc, List.append_assoc, not_false_eq_true, not_true_eq_false, retE_ret, retP_ret, List.length_append, List.length_set, Nat.le_succ, Go.Ab.W3, Int.reduceAdd, Int.reduceLT, Int.reduceToNat, Int.reduceBEq, Int.reduceBNe, Int.reduceLE, hpS, bxS, arS, stP hs hr hne, retD_ret, retD_normal, AV.bel, mapN_len, hc, AV.belL, cutNormal_normal]
  · refine acallsD_text C_ok Try.func82 rfl (by decide) (Nat.le_of_ble_eq_true rfl) (by decide) fun ok => ?_
    rw [Try.results82]
    have h := True.intro
    repeat' (first
     | (with_reducible first | apply bA | apply bB | apply bC | apply bD | apply bE | apply bF) <;> intro h
     | ((first | refine goCall_norm ?_ | refine goDCall_norm ?_); simp only [AV.norm, AV.normL, W2, Go.Ab.W3, Int.reduceAdd, Int.reduceLT, Int.reduceToNat, Int.reduceBEq, Int.reduceBNe, Int.reduceLE, hpS, bxS, arS, stP hs hr hne, retD_ret, retD_normal, AV.bel, mapN_len, hc, AV.belL]; first  | refine fsCallR (i1) (.inl rfl) ?_ | refine fsCallR (i2) (.inl rfl) ?_)
     | refine go_drawF (id := 14) C_ok (fun _ => trivial) mixed 0 Try.f82.ntmps (by first | (simp; done) | (simp; omega)) rfl (by kernel_rfl) (by decide) ?_
     | refine goRound ?_ C_ok Try.f82.ntmps rfl (by decide)
     | skip) <;> simp only [h, ↓upd_eq, ↓envL_cons, WY, reduceIte, reduceEqDiff, reduceAdd, reduceLT, reduceLeDiff, reduceCtorEq, reduceMul, reducePow, W1, fs_frz, fs_frz0, fs_env, fs_b, fs_n, fs_put, fs_put0, fs_tmp, fs_const, fs_func, fs_obj, fs_setObj, fs_new, fs_next, fs_mk, fs_H, le_app, le_set, app_get, app_set, app_get0c, app_getkc, app_set0c, app_setkc, List.append_assoc, not_false_eq_true, not_true_eq_false, retE_ret, retP_ret, List.length_append, List.length_set, Nat.le_succ, Go.Ab.W3, Int.reduceAdd, Int.reduceLT, Int.reduceToNat, Int.reduceBEq, Int.reduceBNe, Int.reduceLE, hpS, bxS, arS, stP hs hr hne, retD_ret, retD_normal, AV.bel, mapN_len, hc, AV.belL, cutNormal_normal]
theorem make_fullL (hs : s < F.length) (hr : r < F.length) (hne : r ≠ s) (a : Nat) (b : Int) (ha : a < L.length) (hc : (cnt == lim) = true) :
    DCalls Try.prog 82 [.bptr s 0, .int .i64 8, .int .i64 a, .int .i64 b] (hpS F s r v L lim cnt rd) (.tup [.int .i64 0, .int .i64 7]) (hpS F s r v L lim cnt rd) := by
  have i1 := is_ok (v := v) (L := L) (lim := lim) (cnt := cnt) (rd := rd) hs hr hne (a : Int)
  rw [show (decide (0 ≤ (a : Int)) && decide ((a : Int) < L.length)) = true by simp; omega] at i1
  unfold DCalls
  refine acallsD_text C_ok Try.func82 rfl (by decide) (Nat.le_of_ble_eq_true rfl) (by decide) fun ok => ?_
  rw [Try.results82]
  have h := True.intro
  repeat' (first
   | (with_reducible first | apply bA | apply bB | apply bC | apply bD | apply bE | apply bF) <;> intro h
   | ((first | refine goCall_norm ?_ | refine goDCall_norm ?_); simp only [AV.norm, AV.normL, W2, Go.Ab.W3, Int.reduceAdd, Int.reduceLT, Int.reduceToNat, Int.reduceBEq, Int.reduceBNe, Int.reduceLE, hpS, bxS, arS, stP hs hr hne, retD_ret, retD_normal, AV.bel, mapN_len, hc, AV.belL]; first  | refine fsCallR (i1) (.inl rfl) ?_)
   | refine go_drawF (id := 14) C_ok (fun _ => trivial) mixed 0 Try.f82.ntmps (by first | (simp; done) | (simp; omega)) rfl (by kernel_rfl) (by decide) ?_
   | refine goRound ?_ C_ok Try.f82.ntmps rfl (by decide)
   | skip) <;> simp only [h, ↓upd_eq, ↓envL_cons, WY, reduceIte, reduceEqDiff, reduceAdd, reduceLT, reduceLeDiff, reduceCtorEq, reduceMul, reducePow, W1, fs_frz, fs_frz0, fs_env, fs_b, fs_n, fs_put, fs_put0, fs_tmp, fs_const, fs_func, fs_obj, fs_setObj, fs_new, fs_next, fs_mk, fs_H, le_app, le_set, app_get, app_set, app_get0c, app_getkc, app_set0c, app_setkc, List.append_assoc, not_false_eq_true, not_true_eq_false, retE_ret, retP_ret, List.length_append, List.length_set, Nat.le_succ, Go.Ab.W3, Int.reduceAdd, Int.reduceLT, Int.reduceToNat, Int.reduceBEq, Int.reduceBNe, Int.reduceLE, hpS, bxS, arS, stP hs hr hne, retD_ret, retD_normal, AV.bel, mapN_len, hc, AV.belL, cutNormal_normal]
end

end Go.Proofs.Ytdngjamjccjlmaa
