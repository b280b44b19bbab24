/- Layer 13: closed types are made to agree just if they agree. No condition. -/
import Derived.Test.YtdngjamjccjlmaaB7
import Derived.Test.YtdngjamjccjlmaaNF
import Derived.Test.YtdngjamjccjlmaaPFa
set_option linter.unusedSimpArgs false
set_option linter.unusedVariables false
set_option maxHeartbeats 4000000
set_option maxRecDepth 100000
namespace Go.Proofs.Ytdngjamjccjlmaa
open Go Go.Ab
open Nat (reduceEqDiff reduceAdd reduceLT reduceLeDiff reduceMul reducePow)
attribute [local irreducible] PCalls ACalls CallK GoCall GoDCall GoIf GoGb GoDGb GoO GoD GoX GoDX GoG GoDG GoGv GoDGv Go ALoop

theorem solveClosed_ok (a b : Ty) : PCalls Try.prog 10 [emb a, emb b] (.bool true) := by
  by_cases hv : fine [a, b] = true
  · obtain ⟨ra, na⟩ := fine_mem hv (t := a) (by simp)
    obtain ⟨rb, nb⟩ := fine_mem hv (t := b) (by simp)
    obtain ⟨a, rfl⟩ := T.of_right a ra
    obtain ⟨b, rfl⟩ := T.of_right b rb
    rw [nodes_size] at na nb
    have oa : a.ok = true := by rw [← T.right_ty]; exact ra
    have ob : b.ok = true := by rw [← T.right_ty]; exact rb
    by_cases ca : a.closed = true
    · have wa : without 6 a.ty = true := by rw [T.closed_ty]; exact ca
      by_cases cb : b.closed = true
      · have wb : without 6 b.ty = true := by rw [T.closed_ty]; exact cb
        have ia := inner_lt a
        have ib := inner_lt b
        have hlim : limOf 65536 = 65536 := by decide
        have l1 := putM_len a mem0
        have l2 := putM_len b (putM a mem0).1
        have l0 : mem0.length = 5 := rfl
        have nv0 : NoVar mem0.st := fun i => by
          match i with
          | 0 | 1 | 2 | 3 | 4 => decide
          | i + 5 => show (0 : Int) ≠ 6; decide
        have nv := putM_novar b _ (putM_novar a mem0 nv0 ca) cb
        obtain ⟨s1, t1, e1⟩ := putM_si a mem0 SI.mem0 ca
        obtain ⟨s2, t2, e2⟩ := putM_si b _ s1 cb
        have e1' : (putM b (putM a mem0).1).1.st.tree (putM a mem0).2 = a.ty := by
          have h1 := putM_st b (putM a mem0).1
          have h2 := putN_ok b (putM a mem0).1.st s1.wf cb
          rw [h1.1, (h2.oldt _ (by rw [Mem.st_len]; exact t1)).1, e1]
        have hg : GoodS ⟨(putM b (putM a mem0).1).1, 4 + a.inner + b.inner, (a.inner : Int) + (b.inner : Nat), 0⟩ := ⟨s2, fun n h => absurd h (nv n)⟩
        have hn : (putM a mem0).2 < (putM b (putM a mem0).1).1.length := by omega
        have ta := s2.wf.tT_of (by rw [Mem.st_len]; exact hn) e1'
        have tb := s2.wf.tT_of (by rw [Mem.st_len]; exact t2) e2
        have wda := wD_size a
        have wdb := wD_size b
        obtain ⟨m, res, h1, h2, h3⟩ := run_closed (lim := 65536) hg nv hn t2 (by simp only [ta, tb]; omega) (by simp only; omega) (by simp only; omega) (by omega) (by simp only [ta, tb]; omega) (by simp only; omega)
        simp only [ta, tb] at h3
        have pa := fun (F : List AObj) (s r : Nat) (hs : s < F.length) (hr : r < F.length) (hne : r ≠ s) => put_done (F := F) (s := s) (r := r) (v := 4) (L := mem0) (lim := 65536) (cnt := 0) (rd := 0) hs hr hne a oa ca (by omega) (by omega) (by omega)
        have pb := fun (F : List AObj) (s r : Nat) (hs : s < F.length) (hr : r < F.length) (hne : r ≠ s) => put_done (F := F) (s := s) (r := r) (v := 4 + a.inner) (L := (putM a mem0).1) (lim := 65536) (cnt := (a.inner : Int)) (rd := 0) hs hr hne b ob cb (by omega) (by omega) (by omega)
        have pg := fun (F : List AObj) (s r : Nat) (hs : s < F.length) (hr : r < F.length) (hne : r ≠ s) => agree_ok (F := F) (s := s) (r := r) hs hr hne hg hn t2 h1
        simp only [Int.zero_add] at pa
        unfold Sto.heap at pg
        simp only [h2] at pg
        have pq := pagree_ok a.ty b.ty
        rw [ra, rb, T.agree_ty, Bool.and_self, Bool.true_and] at pq
        clear hn t2 ta tb e1 e1' e2 hg s1 s2 t1 l1 l2 nv
        generalize (putM b (putM a mem0).1).2 = nb' at *
        generalize (putM b (putM a mem0).1).1 = Lb at *
        generalize (putM a mem0).2 = na' at *
        generalize (putM a mem0).1 = La at *
        obtain ⟨rl, rr, re, σ'⟩ := res
        simp only at h2 h3 pg
        refine pcalls_text C_ok Try.func10 rfl (by decide) (Nat.le_of_ble_eq_true rfl) (by decide) rfl fun ok H => ?_
        rw [Try.results10]
        rw [initS_fs]
        have h := True.intro
        repeat' (first
         | (with_reducible first | apply bA | apply bB | apply bC | apply bD | apply bE | apply bF) <;> intro h
         | ((first | refine goCall_norm ?_ | refine goDCall_norm ?_); simp only [AV.norm, AV.normL, W2, hv, wa, wb, emb_solid, emb_bel, implies_true]; first | refine goCall_p (fine2_ok _ _) (.inl rfl) ?_ | refine goCall_p (rwithout_ok _ 6) (.inl rfl) ?_ | refine goDCall_p (fine2_ok _ _) (.inl rfl) ?_ | refine goDCall_p (rwithout_ok _ 6) (.inl rfl) ?_)
         | skip) <;> simp only [h, ↓upd_eq, ↓envL_cons, WY, reduceIte, reduceEqDiff, reduceAdd, reduceLT, reduceLeDiff, reduceCtorEq, reduceMul, reducePow, W1, fs_frz, fs_frz0, fs_env, fs_b, fs_n, fs_put, fs_put0, fs_tmp, fs_const, fs_func, fs_obj, fs_setObj, fs_new, fs_next, fs_mk, fs_H, le_app, le_set, app_get, app_set, app_get0c, app_getkc, app_set0c, app_setkc, List.append_assoc, not_false_eq_true, not_true_eq_false, retE_ret, retP_ret, List.length_append, List.length_set, Nat.le_succ, hv, wa, wb, emb_solid, emb_bel, implies_true]
        refine fsNew (by simp) fun G s r hs hr hne hl ht hbs hbr => ?_
        rw [hlim]
        have hT := st_old (q := H.length) (x := .box (cellsOf (emb a.ty))) (by simp [emb_cells]) ht hbs hbr
        have hU := st_old (q := H.length + 1) (x := .box (cellsOf (emb b.ty))) (by simp [emb_cells]) ht hbs hbr
        have hl0 : H.length ≤ G.length := by simp at hl; omega
        have hle : ∀ k, (H.length ≤ G.length + k) = True := fun k => by simp only [eq_iff_iff, iff_true]; omega
        simp only [emb_cells] at hT hU
        have hHt : G.take H.length = H := take_low ht (by simp) (List.take_left' rfl)
        rcases h3 with ⟨rfl, hag⟩ | ⟨rfl, p1, p2, p3, hag⟩
        · have h := True.intro
          repeat' (first
           | (with_reducible first | apply bA | apply bB | apply bC | apply bD | apply bE | apply bF) <;> intro h
           | ((first | refine goCall_norm ?_ | refine goDCall_norm ?_); simp only [AV.norm, AV.normL, W2, hpS, bxS, arS, stP hs hr hne, retD_ret, retD_normal, AV.bel, mapN_len, hT, hU, hl0, hle, hag, emb_solid, emb_bel, implies_true, AV.belL, beq_self_eq_true, bne_self_eq_false]; first | refine goCall_p (pq) (.inl rfl) ?_ | refine goCall_p (wakes13_ok) (.inl rfl) ?_ | refine goDCall_p (pq) (.inl rfl) ?_ | refine goDCall_p (wakes13_ok) (.inl rfl) ?_ | refine fsCallD (pa _ _ _ (by first | exact hs | exact lt_app hs | exact lt_app (lt_set hs) | exact lt_set hs) (by first | exact hr | exact lt_app hr | exact lt_app (lt_set hr) | exact lt_set hr) hne) (.inl rfl) (fun hb => hpS_bel (by first | exact hs | exact lt_app hs | exact lt_app (lt_set hs) | exact lt_set hs) (by first | exact hr | exact lt_app hr | exact lt_app (lt_set hr) | exact lt_set hr) hne hb) ?_ | refine fsCallD (pb _ _ _ (by first | exact hs | exact lt_app hs | exact lt_app (lt_set hs) | exact lt_set hs) (by first | exact hr | exact lt_app hr | exact lt_app (lt_set hr) | exact lt_set hr) hne) (.inl rfl) (fun hb => hpS_bel (by first | exact hs | exact lt_app hs | exact lt_app (lt_set hs) | exact lt_set hs) (by first | exact hr | exact lt_app hr | exact lt_app (lt_set hr) | exact lt_set hr) hne hb) ?_ | refine fsCallR (scount_ok (by first | exact hs | exact lt_app hs | exact lt_app (lt_set hs) | exact lt_set hs) (by first | exact hr | exact lt_app hr | exact lt_app (lt_set hr) | exact lt_set hr) hne) (.inl rfl) ?_ | refine fsCallD (pg _ _ _ (by first | exact hs | exact lt_app hs | exact lt_app (lt_set hs) | exact lt_set hs) (by first | exact hr | exact lt_app hr | exact lt_app (lt_set hr) | exact lt_set hr) hne) (.inl rfl) (fun hb => hpS_bel (by first | exact hs | exact lt_app hs | exact lt_app (lt_set hs) | exact lt_set hs) (by first | exact hr | exact lt_app hr | exact lt_app (lt_set hr) | exact lt_set hr) hne hb) ?_)
           | skip) <;> simp only [h, ↓upd_eq, ↓envL_cons, WY, reduceIte, reduceEqDiff, reduceAdd, reduceLT, reduceLeDiff, reduceCtorEq, reduceMul, reducePow, W1, fs_frz, fs_frz0, fs_env, fs_b, fs_n, fs_put, fs_put0, fs_tmp, fs_const, fs_func, fs_obj, fs_setObj, fs_new, fs_next, fs_mk, fs_H, le_app, le_set, app_get, app_set, app_get0c, app_getkc, app_set0c, app_setkc, List.append_assoc, not_false_eq_true, not_true_eq_false, retE_ret, retP_ret, List.length_append, List.length_set, Nat.le_succ, hpS, bxS, arS, stP hs hr hne, retD_ret, retD_normal, AV.bel, mapN_len, hT, hU, hl0, hle, hag, emb_solid, emb_bel, implies_true, AV.belL, beq_self_eq_true, bne_self_eq_false]
          all_goals exact st_take (by simp at hbs; omega) (by simp at hbr; omega) hHt
        · have c1 : (0 < rl) = True := by simp [p1]
          have c2 : (0 < rr) = True := by simp [p2]
          have c3 : (rl != rr) = true := by rw [bne_iff_ne]; exact p3
          have c4 : ((4 : Int) == 0) = false := rfl
          have h := True.intro
          repeat' (first
           | (with_reducible first | apply bA | apply bB | apply bC | apply bD | apply bE | apply bF) <;> intro h
           | ((first | refine goCall_norm ?_ | refine goDCall_norm ?_); simp only [AV.norm, AV.normL, W2, hpS, bxS, arS, stP hs hr hne, retD_ret, retD_normal, AV.bel, mapN_len, hT, hU, hl0, hle, hag, c1, c2, c3, c4, emb_solid, emb_bel, implies_true, AV.belL, beq_self_eq_true, bne_self_eq_false]; first | refine goCall_p (pq) (.inl rfl) ?_ | refine goCall_p (wakes13_ok) (.inl rfl) ?_ | refine goDCall_p (pq) (.inl rfl) ?_ | refine goDCall_p (wakes13_ok) (.inl rfl) ?_ | refine fsCallD (pa _ _ _ (by first | exact hs | exact lt_app hs | exact lt_app (lt_set hs) | exact lt_set hs) (by first | exact hr | exact lt_app hr | exact lt_app (lt_set hr) | exact lt_set hr) hne) (.inl rfl) (fun hb => hpS_bel (by first | exact hs | exact lt_app hs | exact lt_app (lt_set hs) | exact lt_set hs) (by first | exact hr | exact lt_app hr | exact lt_app (lt_set hr) | exact lt_set hr) hne hb) ?_ | refine fsCallD (pb _ _ _ (by first | exact hs | exact lt_app hs | exact lt_app (lt_set hs) | exact lt_set hs) (by first | exact hr | exact lt_app hr | exact lt_app (lt_set hr) | exact lt_set hr) hne) (.inl rfl) (fun hb => hpS_bel (by first | exact hs | exact lt_app hs | exact lt_app (lt_set hs) | exact lt_set hs) (by first | exact hr | exact lt_app hr | exact lt_app (lt_set hr) | exact lt_set hr) hne hb) ?_ | refine fsCallR (scount_ok (by first | exact hs | exact lt_app hs | exact lt_app (lt_set hs) | exact lt_set hs) (by first | exact hr | exact lt_app hr | exact lt_app (lt_set hr) | exact lt_set hr) hne) (.inl rfl) ?_ | refine fsCallD (pg _ _ _ (by first | exact hs | exact lt_app hs | exact lt_app (lt_set hs) | exact lt_set hs) (by first | exact hr | exact lt_app hr | exact lt_app (lt_set hr) | exact lt_set hr) hne) (.inl rfl) (fun hb => hpS_bel (by first | exact hs | exact lt_app hs | exact lt_app (lt_set hs) | exact lt_set hs) (by first | exact hr | exact lt_app hr | exact lt_app (lt_set hr) | exact lt_set hr) hne hb) ?_)
           | skip) <;> simp only [h, ↓upd_eq, ↓envL_cons, WY, reduceIte, reduceEqDiff, reduceAdd, reduceLT, reduceLeDiff, reduceCtorEq, reduceMul, reducePow, W1, fs_frz, fs_frz0, fs_env, fs_b, fs_n, fs_put, fs_put0, fs_tmp, fs_const, fs_func, fs_obj, fs_setObj, fs_new, fs_next, fs_mk, fs_H, le_app, le_set, app_get, app_set, app_get0c, app_getkc, app_set0c, app_setkc, List.append_assoc, not_false_eq_true, not_true_eq_false, retE_ret, retP_ret, List.length_append, List.length_set, Nat.le_succ, hpS, bxS, arS, stP hs hr hne, retD_ret, retD_normal, AV.bel, mapN_len, hT, hU, hl0, hle, hag, c1, c2, c3, c4, emb_solid, emb_bel, implies_true, AV.belL, beq_self_eq_true, bne_self_eq_false]
          all_goals exact st_take (by simp at hbs; omega) (by simp at hbr; omega) hHt
      · have wb : without 6 b.ty = false := by rw [T.closed_ty]; simpa using cb
        refine pcalls_text C_ok Try.func10 rfl (by decide) (Nat.le_of_ble_eq_true rfl) (by decide) rfl fun ok H => ?_
        rw [Try.results10]
        have h := True.intro
        repeat' (first
         | (with_reducible first | apply bA | apply bB | apply bC | apply bD | apply bE | apply bF) <;> intro h
         | ((first | refine goCall_norm ?_ | refine goDCall_norm ?_); simp only [AV.norm, AV.normL, W2, hv, wa, wb]; first | refine goCall_p (fine2_ok _ _) (.inl rfl) ?_ | refine goCall_p (rwithout_ok _ 6) (.inl rfl) ?_ | refine goDCall_p (fine2_ok _ _) (.inl rfl) ?_ | refine goDCall_p (rwithout_ok _ 6) (.inl rfl) ?_)
         | skip) <;> simp only [h, ↓upd_eq, ↓envL_cons, WZ, reduceIte, reduceEqDiff, reduceAdd, reduceLT, reduceLeDiff, reduceCtorEq, reduceMul, reducePow, W1, hv, wa, wb]
    · have wa : without 6 a.ty = false := by rw [T.closed_ty]; simpa using ca
      refine pcalls_text C_ok Try.func10 rfl (by decide) (Nat.le_of_ble_eq_true rfl) (by decide) rfl fun ok H => ?_
      rw [Try.results10]
      have h := True.intro
      repeat' (first
       | (with_reducible first | apply bA | apply bB | apply bC | apply bD | apply bE | apply bF) <;> intro h
       | ((first | refine goCall_norm ?_ | refine goDCall_norm ?_); simp only [AV.norm, AV.normL, W2, hv, wa]; first | refine goCall_p (fine2_ok _ _) (.inl rfl) ?_ | refine goCall_p (rwithout_ok _ 6) (.inl rfl) ?_ | refine goDCall_p (fine2_ok _ _) (.inl rfl) ?_ | refine goDCall_p (rwithout_ok _ 6) (.inl rfl) ?_)
       | skip) <;> simp only [h, ↓upd_eq, ↓envL_cons, WZ, reduceIte, reduceEqDiff, reduceAdd, reduceLT, reduceLeDiff, reduceCtorEq, reduceMul, reducePow, W1, hv, wa]
  · refine pcalls_text C_ok Try.func10 rfl (by decide) (Nat.le_of_ble_eq_true rfl) (by decide) rfl fun ok H => ?_
    rw [Try.results10]
    have h := True.intro
    repeat' (first
     | (with_reducible first | apply bA | apply bB | apply bC | apply bD | apply bE | apply bF) <;> intro h
     | ((first | refine goCall_norm ?_ | refine goDCall_norm ?_); simp only [AV.norm, AV.normL, W2, hv]; first | refine goCall_p (fine2_ok _ _) (.inl rfl) ?_ | refine goDCall_p (fine2_ok _ _) (.inl rfl) ?_)
     | skip) <;> simp only [h, ↓upd_eq, ↓envL_cons, WZ, reduceIte, reduceEqDiff, reduceAdd, reduceLT, reduceLeDiff, reduceCtorEq, reduceMul, reducePow, W1, hv]

end Go.Proofs.Ytdngjamjccjlmaa
