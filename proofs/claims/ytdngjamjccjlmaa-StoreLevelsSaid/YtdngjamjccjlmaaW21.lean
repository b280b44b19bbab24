/- Layer 12: levels behind a link and a lowering: the law. No condition. -/
import Derived.Test.YtdngjamjccjlmaaW20
set_option linter.unusedSimpArgs false
set_option linter.unusedVariables false
set_option maxHeartbeats 4000000
set_option maxRecDepth 100000
namespace Go.Proofs.Ytdngjamjccjlmaa
open Go Go.Ab
attribute [local irreducible] PCalls ACalls CallK GoCall GoDCall GoIf GoGb GoDGb GoO GoD GoX GoDX GoG GoDG GoGv GoDGv Go ALoop

section
variable {F : List AObj} {s r v : Nat} {L : Mem} {lim cnt rd : Int}
theorem level_at (hs : s < F.length) (hr : r < F.length) (hne : r ≠ s) (hw : Wf L.st) {n z : Nat} (hn : n < L.length) (hz : z ∈ L.st.vars n) {l : Int} (hl : (L.st.nd z).level = l) :
    DCalls Try.prog 35 [.bptr s 0, .int .i64 z] (hpS F s r v L lim cnt rd) (.int .i64 l) (hpS F s r v L lim cnt rd) := by
  obtain ⟨h1, h2, h3⟩ := vars_root hw (by rw [Mem.st_len]; exact hn) hz
  rw [Mem.st_len] at h3
  have := level_in (v := v) (lim := lim) (cnt := cnt) (rd := rd) hs hr hne hw z h3
  rw [h1, if_pos h2, hl] at this
  exact this
end
theorem lv_vars {S S' : St} (h : Lv S S') (n : Nat) : S'.vars n = S.vars n := by
  unfold St.vars St.all
  rw [h.look]
  exact List.filter_congr fun x _ => by rw [h.kind]
theorem storeLevels_ok (t u : Ty) (a0 b0 w0 : Int) : PCalls Try.prog 5 [emb t, emb u, .int .i64 a0, .int .i64 b0, .int .i64 w0] (.bool true) := by
  by_cases hv : heavy [t, u] = true
  · refine pcalls_text C_ok Try.func5 rfl (by decide) (Nat.le_of_ble_eq_true rfl) (by decide) rfl fun ok H => ?_
    rw [Try.results5]
    have h := True.intro
    repeat' (first
     | (with_reducible first | refine goIf_b ?_ ?_ | refine goIf_n ?_ ?_ | refine goIf_d ?_ ?_ | refine goIf_split ?_ ?_ | refine goGb_b ?_ ?_ | refine goGb_n ?_ ?_ | refine goGb_d ?_ ?_ | refine goGb_split ?_ ?_ | refine goDGb_b ?_ ?_ | refine goDGb_n ?_ ?_ | refine goDGb_d ?_ ?_ | refine goDGb_split ?_ ?_) <;> intro h
     | ((first | refine goCall_norm ?_ | refine goDCall_norm ?_); simp only [AV.norm, AV.normL, W2, hv]; first | refine goCall_p (heavy2_ok _ _) (.inl rfl) ?_ | refine goDCall_p (heavy2_ok _ _) (.inl rfl) ?_)
     | skip) <;> simp only [h, ↓upd_eq, ↓envL_cons, Go.Ab.W0, Go.Ab.WD, Go.Ab.WE, if_true, if_false, reduceIte, Nat.reduceEqDiff, Nat.reduceAdd, Nat.reduceLT, Nat.reduceLeDiff, reduceCtorEq, Nat.reduceMul, implies_true, forall_eq_or_imp, forall_eq, Nat.reducePow, W1, hv]
  · have na := heavy_nodes hv (t := t) (by simp)
    have nb := heavy_nodes hv (t := u) (by simp)
    by_cases hr0 : right t = true
    · by_cases hr1 : right u = true
      · obtain ⟨t, rfl⟩ := T.of_right t hr0
        obtain ⟨u, rfl⟩ := T.of_right u hr1
        rw [nodes_size] at na nb
        have hlim : limOf 65536 = 65536 := by decide
        have hka := kint_ok a0 (n := 20) (by decide) (by decide)
        have hkb := kint_ok b0 (n := 20) (by decide) (by decide)
        have hkw := kint_ok w0 (n := 20) (by decide) (by decide)
        obtain ⟨A, hA, hA20⟩ := kint_nat a0 (n := 20) (by decide)
        obtain ⟨B, hB, hB20⟩ := kint_nat b0 (n := 20) (by decide)
        obtain ⟨W, hW, hW20⟩ := kint_nat w0 (n := 20) (by decide)
        rw [hA] at hka; rw [hB] at hkb; rw [hW] at hkw
        have hmin : ∀ X : Nat, (if W < X then (W : Int) else (X : Int)) = min (X : Int) (W : Int) := fun X => by split <;> omega
        have wb : IntKind.wrap .i64 ((B : Int) + 1) = (B : Int) + 1 := wrap_i (by omega) (by omega)
        refine pcalls_text C_ok Try.func5 rfl (by decide) (Nat.le_of_ble_eq_true rfl) (by decide) rfl fun ok H => ?_
        rw [Try.results5]
        rw [initS_fs]
        have h := True.intro
        repeat' (first
         | (with_reducible first | refine goIf_b ?_ ?_ | refine goIf_n ?_ ?_ | refine goIf_d ?_ ?_ | refine goIf_split ?_ ?_ | refine goGb_b ?_ ?_ | refine goGb_n ?_ ?_ | refine goGb_d ?_ ?_ | refine goGb_split ?_ ?_ | refine goDGb_b ?_ ?_ | refine goDGb_n ?_ ?_ | refine goDGb_d ?_ ?_ | refine goDGb_split ?_ ?_) <;> intro h
         | ((first | refine goCall_norm ?_ | refine goDCall_norm ?_); simp only [AV.norm, AV.normL, W2, hv, hr0, hr1, emb_solid, emb_bel, implies_true]; first | refine goCall_p (heavy2_ok _ _) (.inl rfl) ?_ | refine goCall_p (rright_ok _) (.inl rfl) ?_ | refine goCall_p (hka) (.inl rfl) ?_ | refine goCall_p (hkb) (.inl rfl) ?_ | refine goCall_p (hkw) (.inl rfl) ?_ | refine goDCall_p (heavy2_ok _ _) (.inl rfl) ?_ | refine goDCall_p (rright_ok _) (.inl rfl) ?_ | refine goDCall_p (hka) (.inl rfl) ?_ | refine goDCall_p (hkb) (.inl rfl) ?_ | refine goDCall_p (hkw) (.inl rfl) ?_)
         | skip) <;> simp only [h, ↓upd_eq, ↓envL_cons, Go.Ab.W0, Go.Ab.WD, if_true, if_false, reduceIte, Nat.reduceEqDiff, Nat.reduceAdd, Nat.reduceLT, Nat.reduceLeDiff, reduceCtorEq, Nat.reduceMul, implies_true, forall_eq_or_imp, forall_eq, Nat.reducePow, W1, fs_frz, fs_frz0, fs_env, fs_b, fs_n, fs_put, fs_put0, fs_tmp, fs_const, fs_func, fs_obj, fs_setObj, fs_new, fs_next, fs_mk, fs_H, le_app, le_set, app_get, app_set, app_get0c, app_getkc, app_set0c, app_setkc, List.append_assoc, not_false_eq_true, not_true_eq_false, retE_ret, retP_ret, List.length_append, List.length_set, Nat.le_succ, hv, hr0, hr1, emb_solid, emb_bel, implies_true]
        refine fsNew (by simp) fun G s r hs hr hne hl ht hbs hbr => ?_
        rw [hlim]
        have hl0 : H.length ≤ G.length := by simp at hl; omega
        have hle : ∀ k, (H.length ≤ G.length + k) = True := fun k => by simp only [eq_iff_iff, iff_true]; omega
        have hT := st_old (q := H.length) (x := .box (cellsOf (emb t.ty))) (by simp [emb_cells]) ht hbs hbr
        have hU := st_old (q := H.length + 1) (x := .box (cellsOf (emb u.ty))) (by simp [emb_cells]) ht hbs hbr
        simp only [emb_cells] at hT hU
        have hHt : G.take H.length = H := take_low ht (by simp) (List.take_left' rfl)
        have hbs' : H.length ≤ s := by simp at hbs; omega
        have hbr' : H.length ≤ r := by simp at hbr; omega
        clear hbs hbr ht hl
        have l1 := madeM_len A t mem0 []
        have l0 : mem0.length = 5 := rfl
        obtain ⟨s1, o1⟩ := madeM_ok A t mem0 [] SI.mem0 (VI_nil _)
        have l2 := madeM_len B u (madeM A t mem0 []).1 []
        obtain ⟨s2, o2⟩ := madeM_ok B u _ [] s1 (VI_nil _)
        have m1 := (made_all (s := s) (r := r) (m := G.length + 0) (lim := 65536) (rd := 0) (lvl := A) hne (by omega) (by omega) (by omega) rfl t 4 mem0 0 [] SI.mem0 (VI_nil _) (by omega) (by omega) (by omega)).loc hs hr [.map [], .map []] [.map (embM (madeM A t mem0 []).2.1), .map []] (by simp) rfl rfl
        have m2 := (made_all (s := s) (r := r) (m := G.length + 1) (lim := 65536) (rd := 0) (lvl := B) hne (by omega) (by omega) (by omega) rfl u (4 + ((madeM A t mem0 []).1.length - mem0.length)) (madeM A t mem0 []).1 (0 + (((madeM A t mem0 []).1.length - mem0.length : Nat) : Int)) [] s1 (VI_nil _) (by omega) (by omega) (by omega)).loc hs hr [.map (embM (madeM A t mem0 []).2.1), .map []] [.map (embM (madeM A t mem0 []).2.1), .map (embM (madeM B u (madeM A t mem0 []).1 []).2.1)] (by simp) rfl rfl
        have hst1 := madeM_st A t mem0 []
        have hst2 := madeM_st B u (madeM A t mem0 []).1 []
        rw [hst1.1] at hst2
        have key := lev_two (t := t) (u := u) (a := A) (b := B) (S1 := (madeM A t mem0 []).1.st) (Z1 := (madeM A t mem0 []).2.1) (n := (madeM A t mem0 []).2.2) (S2 := (madeM B u (madeM A t mem0 []).1 []).1.st) (Z2 := (madeM B u (madeM A t mem0 []).1 []).2.1) (mm := (madeM B u (madeM A t mem0 []).1 []).2.2)
          (by rw [hst1.1, hst1.2]) (by rw [hst1.1, hst2.1, hst2.2]) (by rw [Mem.st_len]; omega)
        have hrn := (o2.oldt _ o1.lt).2
        rw [o1.root] at hrn
        generalize hc2 : (0 + (((madeM A t mem0 []).1.length - mem0.length : Nat) : Int)) + (((madeM B u (madeM A t mem0 []).1 []).1.length - (madeM A t mem0 []).1.length : Nat) : Int) = c2 at m2
        have hc2' : 0 ≤ c2 ∧ c2 ≤ 1200 := by omega
        clear hc2 hst1 hst2
        generalize madeM B u (madeM A t mem0 []).1 [] = q at *
        generalize madeM A t mem0 [] = p at *
        generalize (4 + (p.1.length - mem0.length) + (q.1.length - p.1.length)) = v2 at *
        have hLen : q.1.length ≤ 1300 := by omega
        clear l1 l2 o1 o2 s1
        generalize q.1 = L2 at *
        generalize q.2.1 = Z2 at *
        generalize q.2.2 = mm at *
        generalize p.2.1 = Z1 at *
        generalize p.2.2 = n at *
        obtain ⟨kw1, kw2, kn, kl, km, kt1, kt2, kv1, kv2, kz1, kz2⟩ := key
        simp only [Mem.st_len] at kn kl km kv1 kv2
        have kn2 : n < L2.length := by omega
        obtain ⟨hL3, rx, kx, rn, hnin, hL4, tree4, lev4⟩ := lev_link (low := (W : Int)) s2 (by omega) kn2 hrn
        have len4 : (linkM (L2 ++ [varN (W : Int)]) 0 L2.length n).length = L2.length + 1 := by rw [linkM_len]; simp
        have qv := fun (F : List AObj) (hs : s < F.length) (hr : r < F.length) => var_ok (F := F) (v := v2) (L := L2) (lim := 65536) (cnt := c2) (rd := 0) hs hr hne (W : Int) (by omega) (by rw [beq_eq_false_iff_ne]; omega) (by omega) (by omega)
        have ql := fun (F : List AObj) (hs : s < F.length) (hr : r < F.length) => link_ok (F := F) (v := v2 + 1) (L := L2 ++ [varN (W : Int)]) (lim := 65536) (cnt := c2 + 1) (rd := 0) hs hr hne hL3.wf hL3.mb (by simp; omega) (by omega) L2.length n (by simp) (by simp; omega) (by rw [rx]; exact kx) (by rw [rx, rn]; omega) (by rw [rx, rn]; exact hnin)
        rw [rx, rn] at ql
        generalize linkM (L2 ++ [varN (W : Int)]) 0 L2.length n = L4 at *
        generalize L2 ++ [varN (W : Int)] = L3 at *
        have t4n : L4.st.tree n = _ := (tree4 n kn2).trans kt1
        have t4m : L4.st.tree mm = _ := (tree4 mm km).trans kt2
        have v4n := vars_has hL4.wf (by rw [Mem.st_len]; omega) (by rw [Mem.st_len]; omega) t4n
        have v4m := vars_has hL4.wf (by rw [Mem.st_len]; omega) (by rw [Mem.st_len]; omega) t4m
        have v2n := vars_has s2.wf (by rw [Mem.st_len]; omega) (by rw [Mem.st_len]; omega) kt1
        have hz1 : (L4.st.vars n).length = Z1.length := by rw [hL4.wf.vars_len (by rw [Mem.st_len]; omega) (by rw [Mem.st_len]; omega) t4n, kz1]
        have hz2 : (L4.st.vars mm).length = Z2.length := by rw [hL4.wf.vars_len (by rw [Mem.st_len]; omega) (by rw [Mem.st_len]; omega) t4m, kz2]
        have lv1 : ∀ z ∈ L4.st.vars n, (L4.st.nd z).level = min (A : Int) W := fun z hz => by
          obtain ⟨g1, g2⟩ := kv1 z ((v4n z).1 hz)
          rw [lev4 z (by omega), if_pos ((v2n z).2 ((v4n z).1 hz)), g2]
        have lv2 : ∀ z ∈ L4.st.vars mm, (L4.st.nd z).level = B := fun z hz => by
          obtain ⟨g1, g2, g3⟩ := kv2 z ((v4m z).1 hz)
          rw [lev4 z g2, if_neg (fun h => by have := (kv1 z ((v2n z).1 h)).1; omega), g3]
        clear kt1 kt2 kz1 kz2 kv1 kv2 tree4 lev4 v2n v4n v4m t4n t4m
        have lst4 : L4.length = L2.length + 1 := len4
        have qn := fun (F : List AObj) (hs : s < F.length) (hr : r < F.length) => vars_ok (F := F) (v := v2 + 1) (L := L4) (lim := 65536) (cnt := c2 + 1) (rd := 0 + 2) hs hr hne hL4.wf hL4.mb (by omega) (by omega) n (by omega)
        have hL5 := hL4.mark (L4.st.all n)
        have st5 : (mkL L4 (0 + 2 + 1) (L4.st.all n)).st = L4.st := mkL_st _ _ _
        have len5 : (mkL L4 (0 + 2 + 1) (L4.st.all n)).length = L4.length := mkL_len _ _ _
        generalize mkL L4 (0 + 2 + 1) (L4.st.all n) = L5 at *
        have qm := fun (F : List AObj) (hs : s < F.length) (hr : r < F.length) => vars_ok (F := F) (v := v2 + 1) (L := L5) (lim := 65536) (cnt := c2 + 1) (rd := 0 + 2 + 1) hs hr hne hL5.wf hL5.mb (by omega) (by omega) mm (by omega)
        have hL6 := hL5.mark (L5.st.all mm)
        have st6 : (mkL L5 (0 + 2 + 1 + 1) (L5.st.all mm)).st = L4.st := by rw [mkL_st, st5]
        have len6 : (mkL L5 (0 + 2 + 1 + 1) (L5.st.all mm)).length = L4.length := by rw [mkL_len, len5]
        rw [st5] at qm
        rw [st5] at st6 len6 hL6
        generalize mkL L5 (0 + 2 + 1 + 1) (L4.st.all mm) = L6 at *
        have qlow := fun (F : List AObj) (hs : s < F.length) (hr : r < F.length) => Lower_yes (F := F) (v := v2 + 1) (L := L6) (lim := 65536) (cnt := c2 + 1) (rd := 0 + 2 + 1 + 1) hs hr hne hL6.wf hL6.mb (by omega) (by omega) mm (by omega) (lv := W) (by omega)
        obtain ⟨hL7, hv7⟩ := hL6.low (n := mm) (by omega) (W : Int)
        have lev7 := lowL_level (lv := (W : Int)) (L6.st.vars mm) (mkL L6 (0 + 2 + 1 + 1 + 1) (L6.st.all mm)) (fun z hz => by have := (vars_root hL6.wf (by rw [Mem.st_len]; omega) hz).2.2; rw [mkL_len]; rwa [Mem.st_len] at this)
        have len7 : (lowL (mkL L6 (0 + 2 + 1 + 1 + 1) (L6.st.all mm)) W (L6.st.vars mm)).length = L4.length := by rw [lowL_len, mkL_len, len6]
        rw [mkL_st] at lev7
        generalize lowL (mkL L6 (0 + 2 + 1 + 1 + 1) (L6.st.all mm)) W (L6.st.vars mm) = L7 at *
        have vars7 : L7.st.vars mm = L4.st.vars mm := by rw [lv_vars hv7 mm, st6]
        rw [st6] at lev7
        have qlow2 := fun (F : List AObj) (hs : s < F.length) (hr : r < F.length) => Lower_yes (F := F) (v := v2 + 1) (L := L7) (lim := 65536) (cnt := c2 + 1) (rd := 0 + 2 + 1 + 1 + 1) hs hr hne hL7.wf hL7.mb (by omega) (by omega) mm (by omega) (lv := (B : Int) + 1) (by omega)
        obtain ⟨hL8, hv8⟩ := hL7.low (n := mm) (by omega) ((B : Int) + 1)
        have lev8 := lowL_level (lv := (B : Int) + 1) (L7.st.vars mm) (mkL L7 (0 + 2 + 1 + 1 + 1 + 1) (L7.st.all mm)) (fun z hz => by have := (vars_root hL7.wf (by rw [Mem.st_len]; omega) hz).2.2; rw [mkL_len]; rwa [Mem.st_len] at this)
        have len8 : (lowL (mkL L7 (0 + 2 + 1 + 1 + 1 + 1) (L7.st.all mm)) ((B : Int) + 1) (L7.st.vars mm)).length = L4.length := by rw [lowL_len, mkL_len, len7]
        rw [mkL_st] at lev8
        generalize lowL (mkL L7 (0 + 2 + 1 + 1 + 1 + 1) (L7.st.all mm)) ((B : Int) + 1) (L7.st.vars mm) = L8 at *
        rw [vars7] at lev8
        have vars8 : L8.st.vars mm = L4.st.vars mm := by rw [lv_vars hv8 mm, vars7]
        have q0 := fun (F : List AObj) (hs : s < F.length) (hr : r < F.length) => Lower_no (F := F) (v := v2 + 1) (L := L8) (lim := 65536) (cnt := c2 + 1) (rd := 0 + 2 + 1 + 1 + 1 + 1) hs hr hne n (by omega) (lv := -1) (by omega)
        have qa := fun (i : Nat) (hi : i < (L4.st.vars n).length) (F : List AObj) (hs : s < F.length) (hr : r < F.length) => level_at (F := F) (v := v2 + 1) (L := L6) (lim := 65536) (cnt := c2 + 1) (rd := 0 + 2 + 1 + 1) hs hr hne hL6.wf (n := n) (z := (L4.st.vars n).getD i 0) (by omega) (by rw [st6]; simp [hi]) (l := min (A : Int) W) (by rw [st6]; exact lv1 _ (by simp [hi]))
        have qb := fun (i : Nat) (hi : i < (L4.st.vars mm).length) (F : List AObj) (hs : s < F.length) (hr : r < F.length) => level_at (F := F) (v := v2 + 1) (L := L8) (lim := 65536) (cnt := c2 + 1) (rd := 0 + 2 + 1 + 1 + 1 + 1) hs hr hne hL8.wf (n := mm) (z := (L4.st.vars mm).getD i 0) (by omega) (by rw [vars8]; simp [hi]) (l := min (B : Int) W)
          (by rw [lev8, if_pos (by simp [hi]), lev7, if_pos (by simp [hi]), lv2 _ (by simp [hi])]; omega)
        have hm1 : (L4.st.vars n).length ≤ maxLen := by
          rw [maxLen_val]; exact Nat.le_trans (List.length_filter_le _ _) (Nat.le_trans (all_len hL4.wf (by omega)) (by omega))
        have hm2 : (L4.st.vars mm).length ≤ maxLen := by
          rw [maxLen_val]; exact Nat.le_trans (List.length_filter_le _ _) (Nat.le_trans (all_len hL4.wf (by omega)) (by omega))
        clear lev7 lev8 lv1 lv2 hv7 hv8 vars7 vars8
        generalize L4.st.vars n = vs at *
        generalize L4.st.vars mm = ks at *
        have hzb1 : (Z1.length ≤ 9223372036854775807) = True := by rw [maxLen_val] at hm1; simp only [eq_iff_iff, iff_true]; omega
        have hzb2 : (Z2.length ≤ 9223372036854775807) = True := by rw [maxLen_val] at hm2; simp only [eq_iff_iff, iff_true]; omega
        have h := True.intro
        repeat' (first
         | (with_reducible first | refine goIf_b ?_ ?_ | refine goIf_n ?_ ?_ | refine goIf_d ?_ ?_ | refine goIf_split ?_ ?_ | refine goGb_b ?_ ?_ | refine goGb_n ?_ ?_ | refine goGb_d ?_ ?_ | refine goGb_split ?_ ?_ | refine goDGb_b ?_ ?_ | refine goDGb_n ?_ ?_ | refine goDGb_d ?_ ?_ | refine goDGb_split ?_ ?_) <;> intro h
         | ((first | refine goCall_norm ?_ | refine goDCall_norm ?_); simp only [AV.norm, AV.normL, W2, hpS, bxS, arS, stP hs hr hne, retD_ret, retD_normal, AV.bel, mapN_len, hT, hU, hl0, hle, hzb1, hzb2, emb_solid, emb_bel, implies_true, ints_norm, kidI_len, List.length_map, embM_len, hz1, hz2, beq_self_eq_true, bne_self_eq_false]; first  | refine fsCallD (m1) (.inl rfl) (fun hb => belJ hs hr hne hl0 hb) ?_ | refine fsCallD (m2) (.inl rfl) (fun hb => belJ hs hr hne hl0 hb) ?_ | refine fsCallD (qv _ (by first | exact hs | exact lt_app hs | exact lt_app (lt_set hs) | exact lt_set hs) (by first | exact hr | exact lt_app hr | exact lt_app (lt_set hr) | exact lt_set hr)) (.inl rfl) (fun hb => hpS_bel (by first | exact hs | exact lt_app hs | exact lt_app (lt_set hs) | exact lt_set hs) (by first | exact hr | exact lt_app hr | exact lt_app (lt_set hr) | exact lt_set hr) hne hb) ?_ | refine fsCallD (ql _ (by first | exact hs | exact lt_app hs | exact lt_app (lt_set hs) | exact lt_set hs) (by first | exact hr | exact lt_app hr | exact lt_app (lt_set hr) | exact lt_set hr)) (.inl rfl) (fun hb => hpS_bel (by first | exact hs | exact lt_app hs | exact lt_app (lt_set hs) | exact lt_set hs) (by first | exact hr | exact lt_app hr | exact lt_app (lt_set hr) | exact lt_set hr) hne hb) ?_ | refine fsCallD (qn _ (by first | exact hs | exact lt_app hs | exact lt_app (lt_set hs) | exact lt_set hs) (by first | exact hr | exact lt_app hr | exact lt_app (lt_set hr) | exact lt_set hr)) (.inl rfl) (fun hb => hpS_bel (by first | exact hs | exact lt_app hs | exact lt_app (lt_set hs) | exact lt_set hs) (by first | exact hr | exact lt_app hr | exact lt_app (lt_set hr) | exact lt_set hr) hne hb) ?_ | refine fsCallD (qm _ (by first | exact hs | exact lt_app hs | exact lt_app (lt_set hs) | exact lt_set hs) (by first | exact hr | exact lt_app hr | exact lt_app (lt_set hr) | exact lt_set hr)) (.inl rfl) (fun hb => hpS_bel (by first | exact hs | exact lt_app hs | exact lt_app (lt_set hs) | exact lt_set hs) (by first | exact hr | exact lt_app hr | exact lt_app (lt_set hr) | exact lt_set hr) hne hb) ?_)
         | skip) <;> simp only [h, ↓upd_eq, ↓envL_cons, Go.Ab.W0, Go.Ab.WD, if_true, if_false, reduceIte, Nat.reduceEqDiff, Nat.reduceAdd, Nat.reduceLT, Nat.reduceLeDiff, reduceCtorEq, Nat.reduceMul, implies_true, forall_eq_or_imp, forall_eq, Nat.reducePow, W1, fs_frz, fs_frz0, fs_env, fs_b, fs_n, fs_put, fs_put0, fs_tmp, fs_const, fs_func, fs_obj, fs_setObj, fs_new, fs_next, fs_mk, fs_H, le_app, le_set, app_get, app_set, app_get0c, app_getkc, app_set0c, app_setkc, List.append_assoc, not_false_eq_true, not_true_eq_false, retE_ret, retP_ret, List.length_append, List.length_set, Nat.le_succ, hpS, bxS, arS, stP hs hr hne, retD_ret, retD_normal, AV.bel, mapN_len, hT, hU, hl0, hle, hzb1, hzb2, emb_solid, emb_bel, implies_true, ints_norm, kidI_len, List.length_map, embM_len, hz1, hz2, beq_self_eq_true, bne_self_eq_false]
        refine aloop_trimF [22, 2, 3, 4, 11, 14, 16, 20, 21] ?_
        simp only [List.map_cons, List.map_nil, ↓upd_eq, ↓envL_cons, Go.Ab.W0, Go.Ab.WD, if_true, if_false, reduceIte, Nat.reduceEqDiff, Nat.reduceAdd, Nat.reduceLT, Nat.reduceLeDiff, reduceCtorEq, Nat.reduceMul, implies_true, forall_eq_or_imp, forall_eq, Nat.reducePow, W1, fs_frz, fs_frz0, fs_env, fs_b, fs_n, fs_put, fs_put0, fs_tmp, fs_const, fs_func, fs_obj, fs_setObj, fs_new, fs_next, fs_mk, fs_H, le_app, le_set, app_get, app_set, app_get0c, app_getkc, app_set0c, app_setkc, List.append_assoc, not_false_eq_true, not_true_eq_false, retE_ret, retP_ret, List.length_append, List.length_set, Nat.le_succ]
        refine goLoopF 1 (fun i : Nat => [(22, .int .i64 i)]) (fun i => _) (fun i => i ≤ vs.length) (fun i => vs.length - i) C_ok 0 rfl rfl (Nat.zero_le _) (by decide) ?_
        rintro i hi
        simp only [List.drop_succ_cons, List.drop_zero, List.cons_append, List.nil_append]
        by_cases hlt : i < vs.length
        · have qa' := qa i hlt
          have hlt1 : (i < Z1.length) = True := by rw [← hz1]; simp only [eq_iff_iff, iff_true]; exact hlt
          have hmn := hmin A
          have h := True.intro
          repeat' (first
           | (with_reducible first | refine goIf_b ?_ ?_ | refine goIf_n ?_ ?_ | refine goIf_d ?_ ?_ | refine goIf_split ?_ ?_ | refine goGb_b ?_ ?_ | refine goGb_n ?_ ?_ | refine goGb_d ?_ ?_ | refine goGb_split ?_ ?_ | refine goDGb_b ?_ ?_ | refine goDGb_n ?_ ?_ | refine goDGb_d ?_ ?_ | refine goDGb_split ?_ ?_) <;> intro h
           | ((first | refine goCall_norm ?_ | refine goDCall_norm ?_); simp only [AV.norm, AV.normL, W2, hpS, bxS, arS, stP hs hr hne, retD_ret, retD_normal, AV.bel, mapN_len, hT, hU, hl0, hle, hlt, hlt1, hz1, kidI_len, List.length_map, kidI_get hlt, hmn, bne_self_eq_false]; first  | refine fsCallR (qa' _ (by first | exact hs | exact lt_app hs | exact lt_app (lt_set hs) | exact lt_set hs) (by first | exact hr | exact lt_app hr | exact lt_app (lt_set hr) | exact lt_set hr)) (.inl rfl) ?_)
           | skip) <;> simp only [h, ↓upd_eq, ↓envL_cons, Go.Ab.W0, Go.Ab.WD, if_true, if_false, reduceIte, Nat.reduceEqDiff, Nat.reduceAdd, Nat.reduceLT, Nat.reduceLeDiff, reduceCtorEq, Nat.reduceMul, implies_true, forall_eq_or_imp, forall_eq, Nat.reducePow, W1, fs_frz, fs_frz0, fs_env, fs_b, fs_n, fs_put, fs_put0, fs_tmp, fs_const, fs_func, fs_obj, fs_setObj, fs_new, fs_next, fs_mk, fs_H, le_app, le_set, app_get, app_set, app_get0c, app_getkc, app_set0c, app_setkc, List.append_assoc, not_false_eq_true, not_true_eq_false, retE_ret, retP_ret, List.length_append, List.length_set, Nat.le_succ, hpS, bxS, arS, stP hs hr hne, retD_ret, retD_normal, AV.bel, mapN_len, hT, hU, hl0, hle, hlt, hlt1, hz1, kidI_len, List.length_map, kidI_get hlt, hmn, bne_self_eq_false]
          refine ⟨i + 1, by omega, by omega, weakF rfl ?_⟩
          simp only [List.forall_mem_cons, mem_nil_all, frz_app, ↓upd_eq, ↓envL_cons, Nat.reduceEqDiff, if_true, if_false, reduceIte, true_and, and_true, and_self, true_or, or_true, implies_true, List.not_mem_nil, false_implies, AV.bel, AV.belL, AObj.bel, AV.norm, AV.normL, Bool.and_true, Bool.true_and, decide_true, decide_eq_true_eq, List.length_cons, List.length_nil, Nat.zero_add, Nat.reduceAdd, Nat.lt_add_one, Nat.lt_add_right_iff_pos, Nat.zero_lt_succ, Nat.zero_lt_one, Nat.reduceLT, List.take_succ_cons, List.take_zero, wrap_succ hlt hm1]
        · have hlt1 : (i < Z1.length) = False := by rw [← hz1]; simp only [eq_iff_iff, iff_false]; exact hlt
          have h := True.intro
          repeat' (first
           | (with_reducible first | refine goIf_b ?_ ?_ | refine goIf_n ?_ ?_ | refine goIf_d ?_ ?_ | refine goIf_split ?_ ?_ | refine goGb_b ?_ ?_ | refine goGb_n ?_ ?_ | refine goGb_d ?_ ?_ | refine goGb_split ?_ ?_ | refine goDGb_b ?_ ?_ | refine goDGb_n ?_ ?_ | refine goDGb_d ?_ ?_ | refine goDGb_split ?_ ?_) <;> intro h
           | ((first | refine goCall_norm ?_ | refine goDCall_norm ?_); simp only [AV.norm, AV.normL, W2, hpS, bxS, arS, stP hs hr hne, retD_ret, retD_normal, AV.bel, mapN_len, hT, hU, hl0, hle, hlt, hlt1, hz1, wb, kidI_len, List.length_map, bne_self_eq_false]; first  | refine fsCallD (qlow _ (by first | exact hs | exact lt_app hs | exact lt_app (lt_set hs) | exact lt_set hs) (by first | exact hr | exact lt_app hr | exact lt_app (lt_set hr) | exact lt_set hr)) (.inl rfl) (fun hb => hpS_bel (by first | exact hs | exact lt_app hs | exact lt_app (lt_set hs) | exact lt_set hs) (by first | exact hr | exact lt_app hr | exact lt_app (lt_set hr) | exact lt_set hr) hne hb) ?_ | refine fsCallD (qlow2 _ (by first | exact hs | exact lt_app hs | exact lt_app (lt_set hs) | exact lt_set hs) (by first | exact hr | exact lt_app hr | exact lt_app (lt_set hr) | exact lt_set hr)) (.inl rfl) (fun hb => hpS_bel (by first | exact hs | exact lt_app hs | exact lt_app (lt_set hs) | exact lt_set hs) (by first | exact hr | exact lt_app hr | exact lt_app (lt_set hr) | exact lt_set hr) hne hb) ?_)
           | skip) <;> simp only [h, ↓upd_eq, ↓envL_cons, Go.Ab.W0, Go.Ab.WD, if_true, if_false, reduceIte, Nat.reduceEqDiff, Nat.reduceAdd, Nat.reduceLT, Nat.reduceLeDiff, reduceCtorEq, Nat.reduceMul, implies_true, forall_eq_or_imp, forall_eq, Nat.reducePow, W1, fs_frz, fs_frz0, fs_env, fs_b, fs_n, fs_put, fs_put0, fs_tmp, fs_const, fs_func, fs_obj, fs_setObj, fs_new, fs_next, fs_mk, fs_H, le_app, le_set, app_get, app_set, app_get0c, app_getkc, app_set0c, app_setkc, List.append_assoc, not_false_eq_true, not_true_eq_false, retE_ret, retP_ret, List.length_append, List.length_set, Nat.le_succ, hpS, bxS, arS, stP hs hr hne, retD_ret, retD_normal, AV.bel, mapN_len, hT, hU, hl0, hle, hlt, hlt1, hz1, wb, kidI_len, List.length_map, bne_self_eq_false]
          refine aloop_trimF [23, 3, 4, 11, 14, 21] ?_
          simp only [List.map_cons, List.map_nil, ↓upd_eq, ↓envL_cons, Go.Ab.W0, Go.Ab.WD, if_true, if_false, reduceIte, Nat.reduceEqDiff, Nat.reduceAdd, Nat.reduceLT, Nat.reduceLeDiff, reduceCtorEq, Nat.reduceMul, implies_true, forall_eq_or_imp, forall_eq, Nat.reducePow, W1, fs_frz, fs_frz0, fs_env, fs_b, fs_n, fs_put, fs_put0, fs_tmp, fs_const, fs_func, fs_obj, fs_setObj, fs_new, fs_next, fs_mk, fs_H, le_app, le_set, app_get, app_set, app_get0c, app_getkc, app_set0c, app_setkc, List.append_assoc, not_false_eq_true, not_true_eq_false, retE_ret, retP_ret, List.length_append, List.length_set, Nat.le_succ]
          refine goLoopF 1 (fun i : Nat => [(23, .int .i64 i)]) (fun i => _) (fun i => i ≤ ks.length) (fun i => ks.length - i) C_ok 0 rfl rfl (Nat.zero_le _) (by decide) ?_
          rintro j hj
          simp only [List.drop_succ_cons, List.drop_zero, List.cons_append, List.nil_append]
          by_cases hlt2 : j < ks.length
          · have qb' := qb j hlt2
            have hlt3 : (j < Z2.length) = True := by rw [← hz2]; simp only [eq_iff_iff, iff_true]; exact hlt2
            have hmn := hmin B
            have h := True.intro
            repeat' (first
             | (with_reducible first | refine goIf_b ?_ ?_ | refine goIf_n ?_ ?_ | refine goIf_d ?_ ?_ | refine goIf_split ?_ ?_ | refine goGb_b ?_ ?_ | refine goGb_n ?_ ?_ | refine goGb_d ?_ ?_ | refine goGb_split ?_ ?_ | refine goDGb_b ?_ ?_ | refine goDGb_n ?_ ?_ | refine goDGb_d ?_ ?_ | refine goDGb_split ?_ ?_) <;> intro h
             | ((first | refine goCall_norm ?_ | refine goDCall_norm ?_); simp only [AV.norm, AV.normL, W2, hpS, bxS, arS, stP hs hr hne, retD_ret, retD_normal, AV.bel, mapN_len, hT, hU, hl0, hle, hlt2, hlt3, hz2, kidI_len, List.length_map, kidI_get hlt2, hmn, bne_self_eq_false]; first  | refine fsCallR (qb' _ (by first | exact hs | exact lt_app hs | exact lt_app (lt_set hs) | exact lt_set hs) (by first | exact hr | exact lt_app hr | exact lt_app (lt_set hr) | exact lt_set hr)) (.inl rfl) ?_)
             | skip) <;> simp only [h, ↓upd_eq, ↓envL_cons, Go.Ab.W0, Go.Ab.WD, if_true, if_false, reduceIte, Nat.reduceEqDiff, Nat.reduceAdd, Nat.reduceLT, Nat.reduceLeDiff, reduceCtorEq, Nat.reduceMul, implies_true, forall_eq_or_imp, forall_eq, Nat.reducePow, W1, fs_frz, fs_frz0, fs_env, fs_b, fs_n, fs_put, fs_put0, fs_tmp, fs_const, fs_func, fs_obj, fs_setObj, fs_new, fs_next, fs_mk, fs_H, le_app, le_set, app_get, app_set, app_get0c, app_getkc, app_set0c, app_setkc, List.append_assoc, not_false_eq_true, not_true_eq_false, retE_ret, retP_ret, List.length_append, List.length_set, Nat.le_succ, hpS, bxS, arS, stP hs hr hne, retD_ret, retD_normal, AV.bel, mapN_len, hT, hU, hl0, hle, hlt2, hlt3, hz2, kidI_len, List.length_map, kidI_get hlt2, hmn, bne_self_eq_false]
            refine ⟨j + 1, by omega, by omega, weakF rfl ?_⟩
            simp only [List.forall_mem_cons, mem_nil_all, frz_app, ↓upd_eq, ↓envL_cons, Nat.reduceEqDiff, if_true, if_false, reduceIte, true_and, and_true, and_self, true_or, or_true, implies_true, List.not_mem_nil, false_implies, AV.bel, AV.belL, AObj.bel, AV.norm, AV.normL, Bool.and_true, Bool.true_and, decide_true, decide_eq_true_eq, List.length_cons, List.length_nil, Nat.zero_add, Nat.reduceAdd, Nat.lt_add_one, Nat.lt_add_right_iff_pos, Nat.zero_lt_succ, Nat.zero_lt_one, Nat.reduceLT, List.take_succ_cons, List.take_zero, wrap_succ hlt2 hm2]
          · have hlt3 : (j < Z2.length) = False := by rw [← hz2]; simp only [eq_iff_iff, iff_false]; exact hlt2
            have h := True.intro
            repeat' (first
             | (with_reducible first | refine goIf_b ?_ ?_ | refine goIf_n ?_ ?_ | refine goIf_d ?_ ?_ | refine goIf_split ?_ ?_ | refine goGb_b ?_ ?_ | refine goGb_n ?_ ?_ | refine goGb_d ?_ ?_ | refine goGb_split ?_ ?_ | refine goDGb_b ?_ ?_ | refine goDGb_n ?_ ?_ | refine goDGb_d ?_ ?_ | refine goDGb_split ?_ ?_) <;> intro h
             | ((first | refine goCall_norm ?_ | refine goDCall_norm ?_); simp only [AV.norm, AV.normL, W2, hpS, bxS, arS, stP hs hr hne, retD_ret, retD_normal, AV.bel, mapN_len, hT, hU, hl0, hle, hlt2, hlt3, hz2, kidI_len, List.length_map, bne_self_eq_false, beq_self_eq_true]; first | refine goCall_p (wakes12_ok) (.inl rfl) ?_ | refine goDCall_p (wakes12_ok) (.inl rfl) ?_ | refine fsCallR (q0 _ (by first | exact hs | exact lt_app hs | exact lt_app (lt_set hs) | exact lt_set hs) (by first | exact hr | exact lt_app hr | exact lt_app (lt_set hr) | exact lt_set hr)) (.inl rfl) ?_)
             | skip) <;> simp only [h, ↓upd_eq, ↓envL_cons, Go.Ab.W0, Go.Ab.WD, if_true, if_false, reduceIte, Nat.reduceEqDiff, Nat.reduceAdd, Nat.reduceLT, Nat.reduceLeDiff, reduceCtorEq, Nat.reduceMul, implies_true, forall_eq_or_imp, forall_eq, Nat.reducePow, W1, fs_frz, fs_frz0, fs_env, fs_b, fs_n, fs_put, fs_put0, fs_tmp, fs_const, fs_func, fs_obj, fs_setObj, fs_new, fs_next, fs_mk, fs_H, le_app, le_set, app_get, app_set, app_get0c, app_getkc, app_set0c, app_setkc, List.append_assoc, not_false_eq_true, not_true_eq_false, retE_ret, retP_ret, List.length_append, List.length_set, Nat.le_succ, hpS, bxS, arS, stP hs hr hne, retD_ret, retD_normal, AV.bel, mapN_len, hT, hU, hl0, hle, hlt2, hlt3, hz2, kidI_len, List.length_map, bne_self_eq_false, beq_self_eq_true]
            all_goals exact stJ_take hbs' hbr' hl0 hHt
      · refine pcalls_text C_ok Try.func5 rfl (by decide) (Nat.le_of_ble_eq_true rfl) (by decide) rfl fun ok H => ?_
        rw [Try.results5]
        have h := True.intro
        repeat' (first
         | (with_reducible first | refine goIf_b ?_ ?_ | refine goIf_n ?_ ?_ | refine goIf_d ?_ ?_ | refine goIf_split ?_ ?_ | refine goGb_b ?_ ?_ | refine goGb_n ?_ ?_ | refine goGb_d ?_ ?_ | refine goGb_split ?_ ?_ | refine goDGb_b ?_ ?_ | refine goDGb_n ?_ ?_ | refine goDGb_d ?_ ?_ | refine goDGb_split ?_ ?_) <;> intro h
         | ((first | refine goCall_norm ?_ | refine goDCall_norm ?_); simp only [AV.norm, AV.normL, W2, hv, hr0, hr1]; first | refine goCall_p (heavy2_ok _ _) (.inl rfl) ?_ | refine goCall_p (rright_ok _) (.inl rfl) ?_ | refine goDCall_p (heavy2_ok _ _) (.inl rfl) ?_ | refine goDCall_p (rright_ok _) (.inl rfl) ?_)
         | skip) <;> simp only [h, ↓upd_eq, ↓envL_cons, Go.Ab.W0, Go.Ab.WD, Go.Ab.WE, if_true, if_false, reduceIte, Nat.reduceEqDiff, Nat.reduceAdd, Nat.reduceLT, Nat.reduceLeDiff, reduceCtorEq, Nat.reduceMul, implies_true, forall_eq_or_imp, forall_eq, Nat.reducePow, W1, hv, hr0, hr1]
    · refine pcalls_text C_ok Try.func5 rfl (by decide) (Nat.le_of_ble_eq_true rfl) (by decide) rfl fun ok H => ?_
      rw [Try.results5]
      have h := True.intro
      repeat' (first
       | (with_reducible first | refine goIf_b ?_ ?_ | refine goIf_n ?_ ?_ | refine goIf_d ?_ ?_ | refine goIf_split ?_ ?_ | refine goGb_b ?_ ?_ | refine goGb_n ?_ ?_ | refine goGb_d ?_ ?_ | refine goGb_split ?_ ?_ | refine goDGb_b ?_ ?_ | refine goDGb_n ?_ ?_ | refine goDGb_d ?_ ?_ | refine goDGb_split ?_ ?_) <;> intro h
       | ((first | refine goCall_norm ?_ | refine goDCall_norm ?_); simp only [AV.norm, AV.normL, W2, hv, hr0]; first | refine goCall_p (heavy2_ok _ _) (.inl rfl) ?_ | refine goCall_p (rright_ok _) (.inl rfl) ?_ | refine goDCall_p (heavy2_ok _ _) (.inl rfl) ?_ | refine goDCall_p (rright_ok _) (.inl rfl) ?_)
       | skip) <;> simp only [h, ↓upd_eq, ↓envL_cons, Go.Ab.W0, Go.Ab.WD, Go.Ab.WE, if_true, if_false, reduceIte, Nat.reduceEqDiff, Nat.reduceAdd, Nat.reduceLT, Nat.reduceLeDiff, reduceCtorEq, Nat.reduceMul, implies_true, forall_eq_or_imp, forall_eq, Nat.reducePow, W1, hv, hr0]

end Go.Proofs.Ytdngjamjccjlmaa
