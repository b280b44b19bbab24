/- Layer 12: what is put is read as it was. No condition. -/
import Derived.Test.YtdngjamjccjlmaaW15
set_option linter.unusedSimpArgs false
set_option linter.unusedVariables false
set_option maxHeartbeats 4000000
set_option maxRecDepth 100000
namespace Go.Proofs.Ytdngjamjccjlmaa
open Go Go.Ab
attribute [local irreducible] PCalls ACalls CallK GoCall GoDCall GoIf GoGb GoDGb GoO GoD GoX GoDX GoG GoDG GoGv GoDGv Go ALoop

theorem putM_si {rd : Int} (t : T) (L : Mem) (h : SI L rd) (hc : t.closed = true) : SI (putM t L).1 rd ∧ (putM t L).2 < (putM t L).1.length ∧ (putM t L).1.st.tree (putM t L).2 = t.ty := by
  have h1 := putM_st t L
  have h2 := putN_ok t L.st h.wf hc
  rw [← h1.1, ← h1.2] at h2
  exact ⟨⟨h2.wf, putM_mb h.rd0 t L h.mb, h.rd0⟩, by have := h2.lt; rwa [Mem.st_len] at this, h2.tree⟩
theorem nodes_size (t : T) : nodes t.ty = t.size := by
  induction t with
  | base k => rfl
  | dyn => rfl
  | var n => rfl
  | pair a b ih1 ih2 => simp only [T.ty, nodes, nodesL, T.size, ih1, ih2]; omega
  | fn a b ih1 ih2 => simp only [T.ty, nodes, nodesL, T.size, ih1, ih2]; omega
  | list a ih1 => simp only [T.ty, nodes, nodesL, T.size, ih1]; omega
/-- Put and read twice, within a limit. -/
theorem sr_put {s r : Nat} {lm : Int} (t : T) (ho : t.ok = true) (hc : t.closed = true) (h6 : t.size ≤ 600) (hl : (t.inner : Int) ≤ lm ∧ lm ≤ 65536) (F : List AObj) (hs : s < F.length) (hr : r < F.length) (hne : r ≠ s) :
    DCalls Try.prog 42 [.bptr s 0, emb t.ty] (hpS F s r 4 mem0 lm 0 0) (.tup [.int .i64 ((putM t mem0).2 : Nat), .int .i64 0]) (hpS F s r (4 + t.inner) (putM t mem0).1 lm (t.inner : Nat) 0) := by
  have hin := inner_lt t
  have h := put_done (F := F) (s := s) (r := r) (v := 4) (L := mem0) (lim := lm) (cnt := 0) (rd := 0) hs hr hne t ho hc (by omega) (by have : mem0.length = 5 := rfl; omega) (by omega)
  rw [Int.zero_add] at h; exact h
theorem sr_read {s r : Nat} {lm cn : Int} (t : T) (hc : t.closed = true) (hl : 0 ≤ cn ∧ cn ≤ lm ∧ lm ≤ 65536) (hf : (t.size : Int) ≤ lm - cn) (F : List AObj) (hs : s < F.length) (hr : r < F.length) (hne : r ≠ s) :
    DCalls Try.prog 30 [.bptr s 0, .int .i64 ((putM t mem0).2 : Nat)] (hpS F s r (4 + t.inner) (putM t mem0).1 lm cn 0) (.tup [emb t.ty, .int .i64 0]) (hpS F s r (4 + t.inner) (putM t mem0).1 lm (cn + (t.size : Nat)) 0) := by
  obtain ⟨h1, h2, h3⟩ := putM_si t mem0 SI.mem0 hc
  have h := read_gen (F := F) (s := s) (r := r) (v := 4 + t.inner) (L := (putM t mem0).1) (lim := lm) (cnt := cn) (rd := 0) hs hr hne h1.wf _ h2 hl
  rw [h3, nodes_size, if_pos hf, if_pos hf] at h
  exact h
theorem sr_no {s r : Nat} {lm cn : Int} (t : T) (hc : t.closed = true) (hl : 0 ≤ cn ∧ cn ≤ lm ∧ lm ≤ 65536) (hf : ¬ (t.size : Int) ≤ lm - cn) (F : List AObj) (hs : s < F.length) (hr : r < F.length) (hne : r ≠ s) :
    DCalls Try.prog 30 [.bptr s 0, .int .i64 ((putM t mem0).2 : Nat)] (hpS F s r (4 + t.inner) (putM t mem0).1 lm cn 0) (.tup [emb (.mk 0 0 []), .int .i64 7]) (hpS F s r (4 + t.inner) (putM t mem0).1 lm cn 0) := by
  obtain ⟨h1, h2, h3⟩ := putM_si t mem0 SI.mem0 hc
  have h := read_gen (F := F) (s := s) (r := r) (v := 4 + t.inner) (L := (putM t mem0).1) (lim := lm) (cnt := cn) (rd := 0) hs hr hne h1.wf _ h2 hl
  rw [h3, nodes_size, if_neg hf, if_neg hf] at h
  exact h
theorem take_low {G F H : List AObj} {b : Nat} (ht : G.take F.length = F) (hb : b ≤ F.length) (h : F.take b = H) : G.take b = H := by
  have e : (G.take F.length).take b = G.take b := by rw [List.take_take, Nat.min_eq_left hb]
  rw [← e, ht, h]
theorem storeRead_ok (t : Ty) (n : Int) : PCalls Try.prog 7 [emb t, .int .i64 n] (.bool true) := by
  by_cases hv : heavy [t] = true
  · refine pcalls_text C_ok Try.func7 rfl (by decide) (Nat.le_of_ble_eq_true rfl) (by decide) rfl fun ok H => ?_
    rw [Try.results7]
    have h := True.intro
    repeat' (first
     | (with_reducible first | refine goIf_b ?_ ?_ | refine goIf_n ?_ ?_ | refine goIf_d ?_ ?_ | refine goIf_split ?_ ?_ | refine goGb_b ?_ ?_ | refine goGb_n ?_ ?_ | refine goGb_d ?_ ?_ | refine goGb_split ?_ ?_ | refine goDGb_b ?_ ?_ | refine goDGb_n ?_ ?_ | refine goDGb_d ?_ ?_ | refine goDGb_split ?_ ?_) <;> intro h
     | ((first | refine goCall_norm ?_ | refine goDCall_norm ?_); simp only [AV.norm, AV.normL, W2, hv]; first | refine goCall_p (heavy1_ok _) (.inl rfl) ?_ | refine goDCall_p (heavy1_ok _) (.inl rfl) ?_)
     | refine go_draw (id := 3) C_ok mixed 0 Try.f7.ntmps rfl (by kernel_rfl) (by decide) ?_
     | skip) <;> simp only [h, ↓upd_eq, ↓envL_cons, Go.Ab.W0, Go.Ab.WD, Go.Ab.WE, if_true, if_false, reduceIte, Nat.reduceEqDiff, Nat.reduceAdd, Nat.reduceLT, Nat.reduceLeDiff, reduceCtorEq, Nat.reduceMul, implies_true, forall_eq_or_imp, forall_eq, Nat.reducePow, W1, hv]
  · have na := heavy_nodes hv (t := t) (by simp)
    by_cases hr0 : right t = true
    · obtain ⟨t, rfl⟩ := T.of_right t hr0
      rw [nodes_size] at na
      have ho : t.ok = true := by rw [← T.right_ty]; exact hr0
      have hin := inner_lt t
      have qs := rsize_ok t.ty (by rw [nodes_size]; omega)
      rw [nodes_size] at qs
      have qi := inner12_ok t (by omega)
      have w1 : IntKind.wrap .i64 ((t.size : Int) + (t.inner : Int)) = ((t.size + t.inner : Nat) : Int) := wrapN (by omega) (by omega)
      have hlim : limOf ((t.size + t.inner : Nat) : Int) = ((t.size + t.inner : Nat) : Int) := by unfold limOf; (repeat' split) <;> omega
      by_cases hc : t.closed = true
      · have hwo : without 6 t.ty = true := by rw [T.closed_ty]; exact hc
        refine pcalls_text C_ok Try.func7 rfl (by decide) (Nat.le_of_ble_eq_true rfl) (by decide) rfl fun ok H => ?_
        rw [Try.results7]
        rw [initS_fs]
        have h := True.intro
        repeat' (first
         | (with_reducible first | refine goIf_b ?_ ?_ | refine goIf_n ?_ ?_ | refine goIf_d ?_ ?_ | refine goIf_split ?_ ?_ | refine goGb_b ?_ ?_ | refine goGb_n ?_ ?_ | refine goGb_d ?_ ?_ | refine goGb_split ?_ ?_ | refine goDGb_b ?_ ?_ | refine goDGb_n ?_ ?_ | refine goDGb_d ?_ ?_ | refine goDGb_split ?_ ?_) <;> intro h
         | ((first | refine goCall_norm ?_ | refine goDCall_norm ?_); simp only [AV.norm, AV.normL, W2, hv, hr0, hwo, w1, emb_solid, emb_bel, implies_true]; first | refine goCall_p (heavy1_ok _) (.inl rfl) ?_ | refine goCall_p (rright_ok _) (.inl rfl) ?_ | refine goCall_p (qs) (.inl rfl) ?_ | refine goCall_p (qi) (.inl rfl) ?_ | refine goDCall_p (heavy1_ok _) (.inl rfl) ?_ | refine goDCall_p (rright_ok _) (.inl rfl) ?_ | refine goDCall_p (qs) (.inl rfl) ?_ | refine goDCall_p (qi) (.inl rfl) ?_)
         | refine go_drawF (id := 3) C_ok mixed 0 Try.f7.ntmps (by first | (simp; done) | (simp; omega)) rfl (by kernel_rfl) (by decide) ?_
         | skip) <;> simp only [h, ↓upd_eq, ↓envL_cons, Go.Ab.W0, Go.Ab.WD, if_true, if_false, reduceIte, Nat.reduceEqDiff, Nat.reduceAdd, Nat.reduceLT, Nat.reduceLeDiff, reduceCtorEq, Nat.reduceMul, implies_true, forall_eq_or_imp, forall_eq, Nat.reducePow, W1, fs_frz, fs_frz0, fs_env, fs_b, fs_n, fs_put, fs_put0, fs_tmp, fs_const, fs_func, fs_obj, fs_setObj, fs_new, fs_next, fs_mk, fs_H, le_app, le_set, app_get, app_set, app_get0c, app_getkc, app_set0c, app_setkc, List.append_assoc, not_false_eq_true, not_true_eq_false, retE_ret, retP_ret, List.length_append, List.length_set, Nat.le_succ, hv, hr0, hwo, w1, emb_solid, emb_bel, implies_true]
        refine fsNew (by simp) fun G s r hs hr hne hl ht hbs hbr => ?_
        rw [hlim]
        have hT := st_old (q := H.length) (x := .box (cellsOf (emb t.ty))) (by simp [emb_cells]) ht hbs hbr
        have hl0 : H.length ≤ G.length := by simp at hl; omega
        have hle : ∀ k, (H.length ≤ G.length + k) = True := fun k => by simp only [eq_iff_iff, iff_true]; omega
        simp only [emb_cells] at hT
        have p1 := fun F hs hr => sr_put (s := s) (r := r) (lm := ((t.size + t.inner : Nat) : Int)) t ho hc na (by omega) F hs hr hne
        have e1 := fun F hs hr => sr_read (s := s) (r := r) (lm := ((t.size + t.inner : Nat) : Int)) (cn := t.inner) t hc (by omega) (by omega) F hs hr hne
        rw [show (t.inner : Int) + (t.size : Nat) = ((t.size + t.inner : Nat) : Int) by omega] at e1
        have e2 := fun F hs hr => sr_no (s := s) (r := r) (lm := ((t.size + t.inner : Nat) : Int)) (cn := ((t.size + t.inner : Nat) : Int)) t hc (by omega) (by omega) F hs hr hne
        obtain ⟨N, hN⟩ : ∃ N, N = t.size + t.inner := ⟨_, rfl⟩
        have hki := kint_ok n (n := (N : Int)) (by omega) (by omega)
        obtain ⟨K, hK, hKN⟩ := kint_nat n (n := (N : Int)) (by omega)
        rw [hK] at hki
        have w3 : IntKind.wrap .i64 (1 + (K : Int)) = ((1 + K : Nat) : Int) := wrapN (by omega) (by omega)
        have w4 : IntKind.wrap .i64 ((N : Int) - ((1 + K : Nat) : Int)) = ((N - 1 - K : Nat) : Int) := wrapN (by omega) (by omega)
        have hlim2 : limOf ((N - 1 - K : Nat) : Int) = ((N - 1 - K : Nat) : Int) := by unfold limOf; (repeat' split) <;> omega
        rw [← hN] at p1 e1 e2 w1 ⊢
        have h := True.intro
        repeat' (first
         | (with_reducible first | refine goIf_b ?_ ?_ | refine goIf_n ?_ ?_ | refine goIf_d ?_ ?_ | refine goIf_split ?_ ?_ | refine goGb_b ?_ ?_ | refine goGb_n ?_ ?_ | refine goGb_d ?_ ?_ | refine goGb_split ?_ ?_ | refine goDGb_b ?_ ?_ | refine goDGb_n ?_ ?_ | refine goDGb_d ?_ ?_ | refine goDGb_split ?_ ?_) <;> intro h
         | ((first | refine goCall_norm ?_ | refine goDCall_norm ?_); simp only [AV.norm, AV.normL, W2, hpS, bxS, arS, stP hs hr hne, retD_ret, retD_normal, AV.bel, mapN_len, hv, hr0, hwo, w1, w3, w4, hT, hl0, hle, emb_solid, emb_bel, implies_true, AV.belL, emb_mk0, T.same_ty, decide_true, bne_self_eq_false]; first | refine goCall_p (ksame_ok _ _) (.inl rfl) ?_ | refine goCall_p (rwithout_ok _ 6) (.inl rfl) ?_ | refine goCall_p (hki) (.inl rfl) ?_ | refine goDCall_p (ksame_ok _ _) (.inl rfl) ?_ | refine goDCall_p (rwithout_ok _ 6) (.inl rfl) ?_ | refine goDCall_p (hki) (.inl rfl) ?_ | refine fsCallD (p1 _ (by first | exact hs | exact lt_app hs | exact lt_app (lt_set hs) | exact lt_set hs) (by first | exact hr | exact lt_app hr | exact lt_app (lt_set hr) | exact lt_set hr)) (.inl rfl) (fun hb => hpS_bel (by first | exact hs | exact lt_app hs | exact lt_app (lt_set hs) | exact lt_set hs) (by first | exact hr | exact lt_app hr | exact lt_app (lt_set hr) | exact lt_set hr) hne hb) ?_ | refine fsCallD (e1 _ (by first | exact hs | exact lt_app hs | exact lt_app (lt_set hs) | exact lt_set hs) (by first | exact hr | exact lt_app hr | exact lt_app (lt_set hr) | exact lt_set hr)) (.inl rfl) (fun hb => hpS_bel (by first | exact hs | exact lt_app hs | exact lt_app (lt_set hs) | exact lt_set hs) (by first | exact hr | exact lt_app hr | exact lt_app (lt_set hr) | exact lt_set hr) hne hb) ?_ | refine fsCallD (e2 _ (by first | exact hs | exact lt_app hs | exact lt_app (lt_set hs) | exact lt_set hs) (by first | exact hr | exact lt_app hr | exact lt_app (lt_set hr) | exact lt_set hr)) (.inl rfl) (fun hb => hpS_bel (by first | exact hs | exact lt_app hs | exact lt_app (lt_set hs) | exact lt_set hs) (by first | exact hr | exact lt_app hr | exact lt_app (lt_set hr) | exact lt_set hr) hne hb) ?_ | refine fsCallR (scount_ok (by first | exact hs | exact lt_app hs | exact lt_app (lt_set hs) | exact lt_set hs) (by first | exact hr | exact lt_app hr | exact lt_app (lt_set hr) | exact lt_set hr) hne) (.inl rfl) ?_)
         | refine go_drawF (id := 3) C_ok mixed 0 Try.f7.ntmps (by first | (simp; done) | (simp; omega)) rfl (by kernel_rfl) (by decide) ?_
         | skip) <;> simp only [h, ↓upd_eq, ↓envL_cons, Go.Ab.W0, Go.Ab.WD, if_true, if_false, reduceIte, Nat.reduceEqDiff, Nat.reduceAdd, Nat.reduceLT, Nat.reduceLeDiff, reduceCtorEq, Nat.reduceMul, implies_true, forall_eq_or_imp, forall_eq, Nat.reducePow, W1, fs_frz, fs_frz0, fs_env, fs_b, fs_n, fs_put, fs_put0, fs_tmp, fs_const, fs_func, fs_obj, fs_setObj, fs_new, fs_next, fs_mk, fs_H, le_app, le_set, app_get, app_set, app_get0c, app_getkc, app_set0c, app_setkc, List.append_assoc, not_false_eq_true, not_true_eq_false, retE_ret, retP_ret, List.length_append, List.length_set, Nat.le_succ, hpS, bxS, arS, stP hs hr hne, retD_ret, retD_normal, AV.bel, mapN_len, hv, hr0, hwo, w1, w3, w4, hT, hl0, hle, emb_solid, emb_bel, implies_true, AV.belL, emb_mk0, T.same_ty, decide_true, bne_self_eq_false]
        have hHt : G.take H.length = H := take_low ht (by simp) (List.take_left' rfl)
        have hHt2 := fun J bx ar => stJ_take (J := J) (bx := bx) (ar := ar) (s := s) (r := r) (by simp at hbs; omega) (by simp at hbr; omega) hl0 hHt
        refine fsNew (by simp; omega) fun G2 s2 r2 hs hr hne hl2 ht2 hbs2 hbr2 => ?_
        rw [hlim2]
        have hT2 := st_old (hT.2 _ _ _) ht2 hbs2 hbr2
        have hl2' : H.length ≤ G2.length := by simp at hl2; omega
        have hle2 : ∀ k, (H.length ≤ G2.length + k) = True := fun k => by simp only [eq_iff_iff, iff_true]; omega
        have hb2 : H.length ≤ s2 ∧ H.length ≤ r2 := by simp at hbs2 hbr2; omega
        have hG2 : G2.take H.length = H := take_low ht2 (by simp; omega) (hHt2 _ _ _)
        by_cases hfit : t.inner ≤ N - 1 - K
        · have c1 : (N - 1 - K < t.inner) = False := by simp only [eq_iff_iff, iff_false]; omega
          have p2 := fun F hs hr => sr_put (s := s2) (r := r2) (lm := ((N - 1 - K : Nat) : Int)) t ho hc na (by omega) F hs hr hne
          have e2 := fun F hs hr => sr_no (s := s2) (r := r2) (lm := ((N - 1 - K : Nat) : Int)) (cn := t.inner) t hc (by omega) (by omega) F hs hr hne
          have h := True.intro
          repeat' (first
           | (with_reducible first | refine goIf_b ?_ ?_ | refine goIf_n ?_ ?_ | refine goIf_d ?_ ?_ | refine goIf_split ?_ ?_ | refine goGb_b ?_ ?_ | refine goGb_n ?_ ?_ | refine goGb_d ?_ ?_ | refine goGb_split ?_ ?_ | refine goDGb_b ?_ ?_ | refine goDGb_n ?_ ?_ | refine goDGb_d ?_ ?_ | refine goDGb_split ?_ ?_) <;> intro h
           | ((first | refine goCall_norm ?_ | refine goDCall_norm ?_); simp only [AV.norm, AV.normL, W2, hpS, bxS, arS, stP hs hr hne, retD_ret, retD_normal, AV.bel, mapN_len, hwo, w1, w4, hT2, hl2', hle2, c1, emb_solid, emb_bel, implies_true, AV.belL, emb_mk0, beq_self_eq_true, bne_self_eq_false]; first | refine goCall_p (wakes12_ok) (.inl rfl) ?_ | refine goDCall_p (wakes12_ok) (.inl rfl) ?_ | refine fsCallD (p2 _ (by first | exact hs | exact lt_app hs | exact lt_app (lt_set hs) | exact lt_set hs) (by first | exact hr | exact lt_app hr | exact lt_app (lt_set hr) | exact lt_set hr)) (.inl rfl) (fun hb => hpS_bel (by first | exact hs | exact lt_app hs | exact lt_app (lt_set hs) | exact lt_set hs) (by first | exact hr | exact lt_app hr | exact lt_app (lt_set hr) | exact lt_set hr) hne hb) ?_ | refine fsCallD (e2 _ (by first | exact hs | exact lt_app hs | exact lt_app (lt_set hs) | exact lt_set hs) (by first | exact hr | exact lt_app hr | exact lt_app (lt_set hr) | exact lt_set hr)) (.inl rfl) (fun hb => hpS_bel (by first | exact hs | exact lt_app hs | exact lt_app (lt_set hs) | exact lt_set hs) (by first | exact hr | exact lt_app hr | exact lt_app (lt_set hr) | exact lt_set hr) hne hb) ?_ | refine fsCallR (scount_ok (by first | exact hs | exact lt_app hs | exact lt_app (lt_set hs) | exact lt_set hs) (by first | exact hr | exact lt_app hr | exact lt_app (lt_set hr) | exact lt_set hr) hne) (.inl rfl) ?_)
           | refine go_drawF (id := 3) C_ok mixed 0 Try.f7.ntmps (by first | (simp; done) | (simp; omega)) rfl (by kernel_rfl) (by decide) ?_
           | skip) <;> simp only [h, ↓upd_eq, ↓envL_cons, Go.Ab.W0, Go.Ab.WD, if_true, if_false, reduceIte, Nat.reduceEqDiff, Nat.reduceAdd, Nat.reduceLT, Nat.reduceLeDiff, reduceCtorEq, Nat.reduceMul, implies_true, forall_eq_or_imp, forall_eq, Nat.reducePow, W1, fs_frz, fs_frz0, fs_env, fs_b, fs_n, fs_put, fs_put0, fs_tmp, fs_const, fs_func, fs_obj, fs_setObj, fs_new, fs_next, fs_mk, fs_H, le_app, le_set, app_get, app_set, app_get0c, app_getkc, app_set0c, app_setkc, List.append_assoc, not_false_eq_true, not_true_eq_false, retE_ret, retP_ret, List.length_append, List.length_set, Nat.le_succ, hpS, bxS, arS, stP hs hr hne, retD_ret, retD_normal, AV.bel, mapN_len, hwo, w1, w4, hT2, hl2', hle2, c1, emb_solid, emb_bel, implies_true, AV.belL, emb_mk0, beq_self_eq_true, bne_self_eq_false]
          all_goals exact stJ_take hb2.1 hb2.2 hl2' hG2
        · have c1 : (N - 1 - K < t.inner) = True := by simp only [eq_iff_iff, iff_true]; omega
          have p2 := fun F hs hr => put_full (F := F) (s := s2) (r := r2) (v := 4) (L := mem0) (cnt := 0) (rd := 0) (lim := ((N - 1 - K : Nat) : Int)) hs hr hne t ho hc (by omega) (by omega) (by omega)
          have h := True.intro
          repeat' (first
           | (with_reducible first | refine goIf_b ?_ ?_ | refine goIf_n ?_ ?_ | refine goIf_d ?_ ?_ | refine goIf_split ?_ ?_ | refine goGb_b ?_ ?_ | refine goGb_n ?_ ?_ | refine goGb_d ?_ ?_ | refine goGb_split ?_ ?_ | refine goDGb_b ?_ ?_ | refine goDGb_n ?_ ?_ | refine goDGb_d ?_ ?_ | refine goDGb_split ?_ ?_) <;> intro h
           | ((first | refine goCall_norm ?_ | refine goDCall_norm ?_); simp only [AV.norm, AV.normL, W2, hpS, bxS, arS, stP hs hr hne, retD_ret, retD_normal, AV.bel, mapN_len, hwo, w1, w4, hT2, hl2', hle2, c1, emb_solid, emb_bel, implies_true, AV.belL, emb_mk0, beq_self_eq_true, bne_self_eq_false]; first | refine goCall_p (wakes12_ok) (.inl rfl) ?_ | refine goDCall_p (wakes12_ok) (.inl rfl) ?_ | refine fsCallD (p2 _ (by first | exact hs | exact lt_app hs | exact lt_app (lt_set hs) | exact lt_set hs) (by first | exact hr | exact lt_app hr | exact lt_app (lt_set hr) | exact lt_set hr)) (.inl rfl) (fun hb => hpS_bel (by first | exact hs | exact lt_app hs | exact lt_app (lt_set hs) | exact lt_set hs) (by first | exact hr | exact lt_app hr | exact lt_app (lt_set hr) | exact lt_set hr) hne hb) ?_ | refine fsCallR (scount_ok (by first | exact hs | exact lt_app hs | exact lt_app (lt_set hs) | exact lt_set hs) (by first | exact hr | exact lt_app hr | exact lt_app (lt_set hr) | exact lt_set hr) hne) (.inl rfl) ?_)
           | refine go_drawF (id := 3) C_ok mixed 0 Try.f7.ntmps (by first | (simp; done) | (simp; omega)) rfl (by kernel_rfl) (by decide) ?_
           | skip) <;> simp only [h, ↓upd_eq, ↓envL_cons, Go.Ab.W0, Go.Ab.WD, if_true, if_false, reduceIte, Nat.reduceEqDiff, Nat.reduceAdd, Nat.reduceLT, Nat.reduceLeDiff, reduceCtorEq, Nat.reduceMul, implies_true, forall_eq_or_imp, forall_eq, Nat.reducePow, W1, fs_frz, fs_frz0, fs_env, fs_b, fs_n, fs_put, fs_put0, fs_tmp, fs_const, fs_func, fs_obj, fs_setObj, fs_new, fs_next, fs_mk, fs_H, le_app, le_set, app_get, app_set, app_get0c, app_getkc, app_set0c, app_setkc, List.append_assoc, not_false_eq_true, not_true_eq_false, retE_ret, retP_ret, List.length_append, List.length_set, Nat.le_succ, hpS, bxS, arS, stP hs hr hne, retD_ret, retD_normal, AV.bel, mapN_len, hwo, w1, w4, hT2, hl2', hle2, c1, emb_solid, emb_bel, implies_true, AV.belL, emb_mk0, beq_self_eq_true, bne_self_eq_false]
          all_goals exact st_take hb2.1 hb2.2 hG2
      · have hwo : without 6 t.ty = false := by rw [T.closed_ty]; simpa using hc
        refine pcalls_text C_ok Try.func7 rfl (by decide) (Nat.le_of_ble_eq_true rfl) (by decide) rfl fun ok H => ?_
        rw [Try.results7]
        rw [initS_fs]
        have h := True.intro
        repeat' (first
         | (with_reducible first | refine goIf_b ?_ ?_ | refine goIf_n ?_ ?_ | refine goIf_d ?_ ?_ | refine goIf_split ?_ ?_ | refine goGb_b ?_ ?_ | refine goGb_n ?_ ?_ | refine goGb_d ?_ ?_ | refine goGb_split ?_ ?_ | refine goDGb_b ?_ ?_ | refine goDGb_n ?_ ?_ | refine goDGb_d ?_ ?_ | refine goDGb_split ?_ ?_) <;> intro h
         | ((first | refine goCall_norm ?_ | refine goDCall_norm ?_); simp only [AV.norm, AV.normL, W2, hv, hr0, hwo, w1, emb_solid, emb_bel, implies_true]; first | refine goCall_p (heavy1_ok _) (.inl rfl) ?_ | refine goCall_p (rright_ok _) (.inl rfl) ?_ | refine goCall_p (qs) (.inl rfl) ?_ | refine goCall_p (qi) (.inl rfl) ?_ | refine goDCall_p (heavy1_ok _) (.inl rfl) ?_ | refine goDCall_p (rright_ok _) (.inl rfl) ?_ | refine goDCall_p (qs) (.inl rfl) ?_ | refine goDCall_p (qi) (.inl rfl) ?_)
         | refine go_drawF (id := 3) C_ok mixed 0 Try.f7.ntmps (by first | (simp; done) | (simp; omega)) rfl (by kernel_rfl) (by decide) ?_
         | skip) <;> simp only [h, ↓upd_eq, ↓envL_cons, Go.Ab.W0, Go.Ab.WD, if_true, if_false, reduceIte, Nat.reduceEqDiff, Nat.reduceAdd, Nat.reduceLT, Nat.reduceLeDiff, reduceCtorEq, Nat.reduceMul, implies_true, forall_eq_or_imp, forall_eq, Nat.reducePow, W1, fs_frz, fs_frz0, fs_env, fs_b, fs_n, fs_put, fs_put0, fs_tmp, fs_const, fs_func, fs_obj, fs_setObj, fs_new, fs_next, fs_mk, fs_H, le_app, le_set, app_get, app_set, app_get0c, app_getkc, app_set0c, app_setkc, List.append_assoc, not_false_eq_true, not_true_eq_false, retE_ret, retP_ret, List.length_append, List.length_set, Nat.le_succ, hv, hr0, hwo, w1, emb_solid, emb_bel, implies_true]
        refine fsNew (by simp) fun G s r hs hr hne hl ht hbs hbr => ?_
        rw [hlim]
        have hT := st_old (q := H.length) (x := .box (cellsOf (emb t.ty))) (by simp [emb_cells]) ht hbs hbr
        have hl0 : H.length ≤ G.length := by simp at hl; omega
        have hle : ∀ k, (H.length ≤ G.length + k) = True := fun k => by simp only [eq_iff_iff, iff_true]; omega
        simp only [emb_cells] at hT
        have pa := fun F hs hr => put_arg (F := F) (s := s) (r := r) (v := 4) (L := mem0) (lim := ((t.size + t.inner : Nat) : Int)) (cnt := 0) (rd := 0) hs hr hne t.ty (by rw [hwo, Bool.and_false])
        have h := True.intro
        repeat' (first
         | (with_reducible first | refine goIf_b ?_ ?_ | refine goIf_n ?_ ?_ | refine goIf_d ?_ ?_ | refine goIf_split ?_ ?_ | refine goGb_b ?_ ?_ | refine goGb_n ?_ ?_ | refine goGb_d ?_ ?_ | refine goGb_split ?_ ?_ | refine goDGb_b ?_ ?_ | refine goDGb_n ?_ ?_ | refine goDGb_d ?_ ?_ | refine goDGb_split ?_ ?_) <;> intro h
         | ((first | refine goCall_norm ?_ | refine goDCall_norm ?_); simp only [AV.norm, AV.normL, W2, hpS, bxS, arS, stP hs hr hne, retD_ret, retD_normal, AV.bel, mapN_len, hwo, hT, hl0, hle, emb_solid, emb_bel, implies_true, AV.belL, emb_mk0, beq_self_eq_true, bne_self_eq_false]; first | refine goCall_p (rwithout_ok _ 6) (.inl rfl) ?_ | refine goCall_p (wakes12_ok) (.inl rfl) ?_ | refine goDCall_p (rwithout_ok _ 6) (.inl rfl) ?_ | refine goDCall_p (wakes12_ok) (.inl rfl) ?_ | refine fsCallD (pa _ (by first | exact hs | exact lt_app hs | exact lt_app (lt_set hs) | exact lt_set hs) (by first | exact hr | exact lt_app hr | exact lt_app (lt_set hr) | exact lt_set hr)) (.inl rfl) (fun hb => hpS_bel (by first | exact hs | exact lt_app hs | exact lt_app (lt_set hs) | exact lt_set hs) (by first | exact hr | exact lt_app hr | exact lt_app (lt_set hr) | exact lt_set hr) hne hb) ?_ | refine fsCallR (scount_ok (by first | exact hs | exact lt_app hs | exact lt_app (lt_set hs) | exact lt_set hs) (by first | exact hr | exact lt_app hr | exact lt_app (lt_set hr) | exact lt_set hr) hne) (.inl rfl) ?_)
         | refine go_drawF (id := 3) C_ok mixed 0 Try.f7.ntmps (by first | (simp; done) | (simp; omega)) rfl (by kernel_rfl) (by decide) ?_
         | skip) <;> simp only [h, ↓upd_eq, ↓envL_cons, Go.Ab.W0, Go.Ab.WD, if_true, if_false, reduceIte, Nat.reduceEqDiff, Nat.reduceAdd, Nat.reduceLT, Nat.reduceLeDiff, reduceCtorEq, Nat.reduceMul, implies_true, forall_eq_or_imp, forall_eq, Nat.reducePow, W1, fs_frz, fs_frz0, fs_env, fs_b, fs_n, fs_put, fs_put0, fs_tmp, fs_const, fs_func, fs_obj, fs_setObj, fs_new, fs_next, fs_mk, fs_H, le_app, le_set, app_get, app_set, app_get0c, app_getkc, app_set0c, app_setkc, List.append_assoc, not_false_eq_true, not_true_eq_false, retE_ret, retP_ret, List.length_append, List.length_set, Nat.le_succ, hpS, bxS, arS, stP hs hr hne, retD_ret, retD_normal, AV.bel, mapN_len, hwo, hT, hl0, hle, emb_solid, emb_bel, implies_true, AV.belL, emb_mk0, beq_self_eq_true, bne_self_eq_false]
        all_goals exact st_take (by simp at hbs; omega) (by simp at hbr; omega) (take_low ht (by simp) (List.take_left' rfl))
    · refine pcalls_text C_ok Try.func7 rfl (by decide) (Nat.le_of_ble_eq_true rfl) (by decide) rfl fun ok H => ?_
      rw [Try.results7]
      have h := True.intro
      repeat' (first
       | (with_reducible first | refine goIf_b ?_ ?_ | refine goIf_n ?_ ?_ | refine goIf_d ?_ ?_ | refine goIf_split ?_ ?_ | refine goGb_b ?_ ?_ | refine goGb_n ?_ ?_ | refine goGb_d ?_ ?_ | refine goGb_split ?_ ?_ | refine goDGb_b ?_ ?_ | refine goDGb_n ?_ ?_ | refine goDGb_d ?_ ?_ | refine goDGb_split ?_ ?_) <;> intro h
       | ((first | refine goCall_norm ?_ | refine goDCall_norm ?_); simp only [AV.norm, AV.normL, W2, hv, hr0]; first | refine goCall_p (heavy1_ok _) (.inl rfl) ?_ | refine goCall_p (rright_ok _) (.inl rfl) ?_ | refine goDCall_p (heavy1_ok _) (.inl rfl) ?_ | refine goDCall_p (rright_ok _) (.inl rfl) ?_)
       | refine go_draw (id := 3) C_ok mixed 0 Try.f7.ntmps rfl (by kernel_rfl) (by decide) ?_
       | skip) <;> simp only [h, ↓upd_eq, ↓envL_cons, Go.Ab.W0, Go.Ab.WD, Go.Ab.WE, if_true, if_false, reduceIte, Nat.reduceEqDiff, Nat.reduceAdd, Nat.reduceLT, Nat.reduceLeDiff, reduceCtorEq, Nat.reduceMul, implies_true, forall_eq_or_imp, forall_eq, Nat.reducePow, W1, hv, hr0]

end Go.Proofs.Ytdngjamjccjlmaa
