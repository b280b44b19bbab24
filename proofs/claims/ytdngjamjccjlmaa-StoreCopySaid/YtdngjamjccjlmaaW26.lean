/- Layer 12: a copy is the type with other nodes for variables. No condition. -/
import Derived.Test.YtdngjamjccjlmaaW25
set_option linter.unusedSimpArgs false
set_option linter.unusedVariables false
set_option maxHeartbeats 4000000
set_option maxRecDepth 100000
namespace Go.Proofs.Ytdngjamjccjlmaa
open Go Go.Ab
attribute [local irreducible] PCalls ACalls CallK GoCall GoDCall GoIf GoGb GoDGb GoO GoD GoX GoDX GoG GoDG GoGv GoDGv Go ALoop

theorem hld_none {S : St} {to : List (Int × Int)} (h : Wf S) {n : Nat} (hn : n < S.length) (hk : ∀ k x, mget to k = some x → ∀ m : Nat, k = m → ¬ Rch S n m) : hld S to n = false := by
  rw [Bool.eq_false_iff]
  intro hh
  obtain ⟨z, h1, h2⟩ := (hld_iff h hn).1 hh
  obtain ⟨x, hx⟩ := Option.isSome_iff_exists.1 h2
  exact hk _ x hx z rfl h1
theorem copy_law {F : List AObj} {s r v : Nat} {L : Mem} {lim cnt rd : Int} (hs : s < F.length) (hr : r < F.length) (hne : r ≠ s) (hSI : SI L rd) (hL : L.length + inn L.st ≤ 1000000) (hrd : rd ≤ 1000000000) (hc : 0 ≤ cnt) (hlim : lim ≤ 65536) (hcnt : cnt ≤ lim)
    (n : Nat) (hn : n < L.length) {fr tt : List Nat} (hl : fr.length = tt.length) (hfl : fr.length ≤ 1000000) (hnd : fr.Nodup)
    (hfr : ∀ f ∈ fr, f < L.length ∧ L.st.root f = f ∧ L.st.kind f = 6) (htt : ∀ t ∈ tt, t < L.length) (hk : (cntH L.st (toM fr tt) (L.st.all n) : Int) ≤ lim - cnt) (hb : cnt + ((inn L.st : Nat) : Int) ≤ 1000000) :
    ∃ v' L' cnt' m, SI L' (rd + 1) ∧ L.length ≤ L'.length ∧ L'.length ≤ L.length + inn L.st ∧ cnt ≤ cnt' ∧ cnt' ≤ cnt + ((inn L.st : Nat) : Int) ∧ m < L'.length ∧ L'.st.tree m = sbT (fOf L.st (toM fr tt)) (L.st.tree n) ∧
      (∀ i, i < L.length → L'.st.tree i = L.st.tree i ∧ L'.st.root i = L.st.root i) ∧ (hld L.st (toM fr tt) n = false → cnt' = cnt ∧ m = L.st.root n) ∧
      DCalls Try.prog 38 [.bptr s 0, .int .i64 n, .sl ((kidI fr).map I64) .no, .sl ((kidI tt).map I64) .no] (hpS F s r v L lim cnt rd) (.tup [.int .i64 m, .int .i64 0]) (hpS F s r v' L' lim cnt' (rd + 1)) := by
  have hst1 : (mkL L (rd + 1) (L.st.all n)).st = L.st := mkL_st _ _ _
  have hlen1 : (mkL L (rd + 1) (L.st.all n)).length = L.length := mkL_len _ _ _
  have hal := all_len hSI.wf hn
  have hrl : ∀ x ∈ L.st.all n, x < L.st.length ∧ L.st.root x = x := fun x hx => by
    have := (hSI.wf.mem_all (by rw [Mem.st_len]; exact hn)).1 hx
    exact ⟨this.lt hSI.wf (by rw [Mem.st_len]; exact hn), this.root hSI.wf⟩
  have hget : ∀ k x, mget (toM fr tt) k = some x → ∃ a b : Nat, k = a ∧ x = b ∧ a ∈ fr ∧ b ∈ tt := fun k x e => by
    obtain ⟨i, h1, h2, h3⟩ := toM_get hl e
    exact ⟨_, _, h2, h3, by simp [h1], by simp [show i < tt.length by omega]⟩
  have hto : TOK L.st (toM fr tt) := fun k x e => by
    obtain ⟨a, b, e1, e2, e3, e4⟩ := hget k x e
    exact ⟨a, b, e1, e2, (hfr a e3).2.2, by rw [Mem.st_len]; exact htt b e4⟩
  have hX0 : CX L.st (toM fr tt) (rd + 1) (mkL L (rd + 1) (L.st.all n)) [] [] := ⟨hSI.mark _, by rw [Mem.st_len, hlen1]; exact Nat.le_refl _, fun i hi => by rw [hst1], fun i hi => by rw [hst1]; exact ⟨rfl, rfl⟩, fun k x e => by simp [mget] at e, fun k x e => by simp [mget] at e⟩
  obtain ⟨Zs, z0, z1, z2⟩ := holdL (s := s) (r := r) (v := v) (c := F.length + 3) (m1 := F.length) (m2 := F.length + 1) (m3 := F.length + 2) (lim := lim) (cnt := cnt) (rd := rd + 1) (hX0.sm hSI.wf) (by omega) (L.st.all n) hrl [] hX0.vh
  rw [hlen1] at z2
  have hK0 : KM L.st [] := ⟨List.nodup_nil, fun k hk => by cases hk⟩
  obtain ⟨v', L', cnt', Z', M', m, o, q⟩ := copy_ok (s := s) (r := r) (c := F.length + 3) (m1 := F.length) (m2 := F.length + 1) (m3 := F.length + 2) (lim := lim) (rd := rd + 1) hSI.wf hto (by omega) n (by rw [Mem.st_len]; exact hn) v (mkL L (rd + 1) (L.st.all n)) cnt (Zs (L.st.all n).length) [] (hX0.putH (z1 _ (Nat.le_refl _))) hK0 (by rw [hlen1]; simpa using hL) hc (by simpa using hb)
  have h1 := o.len
  have h2 := o.cn
  have h3 := o.km.le
  simp only [List.length_nil, Nat.sub_zero] at h1 h2
  refine ⟨v', L', cnt', m, o.cx.si, by omega, by omega, by omega, by omega, o.mlt, o.tr, fun i hi => o.cx.tr i (by rw [Mem.st_len]; exact hi), fun hh => ?_, ?_⟩
  · obtain ⟨g1, g2⟩ := o.same hh
    have := congrArg List.length g1
    exact ⟨by omega, g2⟩
  · exact copy_done hs hr hne hSI hL hrd hc hlim hcnt n hn hl hfl hnd hfr htt z0 (fun i hi => z2 i hi) hk (fun G hG => q G hG)
theorem cp_use {L2 : Mem} (s2 : SI L2 1) (hL : L2.length ≤ 605) {x : T} {n : Nat} (hx : L2.st.tree n = x.ty) (hxn : nodes x.ty ≤ 600) (hn : n < L2.length) (hrn : L2.st.root n = n) {I : Nat} (hI : inn L2.st = I) (hI6 : I ≤ 600) {vs : List Nat} (hvs : L2.st.vars n = vs) (hnd : vs.Nodup)
    {c1 : Int} (hc1 : 0 ≤ c1 ∧ c1 ≤ 600) {K : Nat} (hK : K ≤ vs.length) {ks : List Nat} (hks : ks.length = K) (hk5 : ∀ k ∈ ks, k < 5) {F : List AObj} {s r v : Nat} (hs : s < F.length) (hr : r < F.length) (hne : r ≠ s) :
    (SI (L2 ++ [varN 9]) 1 ∧ (L2 ++ [varN 9]).st.tree n = x.ty) ∧ ∃ v' L' cnt' m, SI L' 2 ∧ L'.length ≤ 1300 ∧ c1 + 1 + nodes x.ty ≤ cnt' ∧ cnt' ≤ c1 + 1 + nodes x.ty + (I : Nat) ∧ m < L'.length ∧ n < L'.length ∧ L'.st.tree n = x.ty ∧ L'.st.root n = n ∧ L'.st.tree m = sbT (fPut (toM (vs.take K ++ [L2.length]) (ks ++ [0]))) x.ty ∧ (K = 0 → cnt' = c1 + 1 + nodes x.ty ∧ m = n) ∧
      DCalls Try.prog 38 [.bptr s 0, .int .i64 n, .sl ((kidI (vs.take K ++ [L2.length])).map I64) .no, .sl ((kidI (ks ++ [0])).map I64) .no] (hpS F s r v (L2 ++ [varN 9]) 65536 (c1 + 1 + nodes x.ty) 1) (.tup [.int .i64 m, .int .i64 0]) (hpS F s r v' L' 65536 cnt' 2) := by
  obtain ⟨s3, rx, kx, rn, hnin, -, -, -⟩ := lev_link (low := 9) s2 (by omega) hn hrn
  have st3 : (L2 ++ [varN 9]).st = L2.st ++ [⟨6, 9, none, []⟩] := Mem.st_app _ _
  have l3 : (L2 ++ [varN 9]).length = L2.length + 1 := by simp
  have lst : (L2 ++ [varN 9]).st.length = L2.length + 1 := by rw [Mem.st_len, l3]
  have w3 := s3.wf
  have hta : ∀ i, i < L2.length → (L2 ++ [varN 9]).st.tree i = L2.st.tree i := fun i hi => by rw [st3]; exact s2.wf.tree_add (by rw [← st3]; exact w3) rfl i (by rw [Mem.st_len]; exact hi)
  have hra : ∀ i, i < L2.length → (L2 ++ [varN 9]).st.root i = L2.st.root i := fun i hi => by rw [st3]; exact s2.wf.root_add (by rw [← st3]; exact w3) rfl i (by rw [Mem.st_len]; exact hi)
  have hinn3 : inn (L2 ++ [varN 9]).st = I := by rw [st3, inn_app, hI]; simp
  have hv : ∀ f ∈ vs, f < L2.length ∧ L2.st.root f = f ∧ L2.st.kind f = 6 := fun f hf => by
    rw [← hvs] at hf
    obtain ⟨h1, h2, h3⟩ := vars_root s2.wf (by rw [Mem.st_len]; exact hn) hf
    rw [Mem.st_len] at h3
    exact ⟨h3, h1, h2⟩
  have hfr : ∀ f ∈ vs.take K ++ [L2.length], f < (L2 ++ [varN 9]).length ∧ (L2 ++ [varN 9]).st.root f = f ∧ (L2 ++ [varN 9]).st.kind f = 6 := fun f hf => by
    rcases List.mem_append.1 hf with hf | hf
    · obtain ⟨h1, h2, h3⟩ := hv f (List.mem_of_mem_take hf)
      refine ⟨by omega, by rw [hra f h1, h2], ?_⟩
      rw [st3, St.kind, St.nd_app (by rw [Mem.st_len]; exact h1)]; exact h3
    · simp only [List.mem_singleton] at hf
      subst hf; exact ⟨by omega, rx, kx⟩
  have htt : ∀ t ∈ ks ++ [0], t < 5 := fun t ht => by
    rcases List.mem_append.1 ht with ht | ht
    · exact hk5 t ht
    · simp only [List.mem_singleton] at ht; omega
  have hlen : (vs.take K ++ [L2.length]).length = (ks ++ [0]).length := by simp; omega
  have hnd2 : (vs.take K ++ [L2.length]).Nodup := by
    rw [List.nodup_append]
    refine ⟨hnd.sublist (List.take_sublist _ _), by simp, ?_⟩
    intro a ha b hb e
    simp only [List.mem_singleton] at hb
    have := (hv a (List.mem_of_mem_take ha)).1
    omega
  have h5 := s2.wf.five
  rw [Mem.st_len] at h5
  have hvl : vs.length ≤ 605 := by rw [← hvs]; exact Nat.le_trans (List.length_filter_le _ _) (Nat.le_trans (all_len s2.wf hn) hL)
  have hall := all_len (L := L2 ++ [varN 9]) (n := n) w3 (by omega)
  have hcH : cntH (L2 ++ [varN 9]).st (toM (vs.take K ++ [L2.length]) (ks ++ [0])) ((L2 ++ [varN 9]).st.all n) ≤ 606 := Nat.le_trans List.countP_le_length (by omega)
  obtain ⟨v', L', cnt', m, o1, o2, o3, o4, o5, o6, o7, o8, o9, o10⟩ := copy_law (F := F) (v := v) (L := L2 ++ [varN 9]) (lim := 65536) (cnt := c1 + 1 + nodes x.ty) (rd := 1) hs hr hne s3 (by rw [hinn3]; omega) (by omega) (by omega) (by omega) (by omega) n (by omega) hlen (by simp; omega) hnd2 hfr (fun t ht => by have := htt t ht; omega) (by omega) (by rw [hinn3]; omega)
  have hfo : fOf (L2 ++ [varN 9]).st (toM (vs.take K ++ [L2.length]) (ks ++ [0])) = fPut (toM (vs.take K ++ [L2.length]) (ks ++ [0])) := fOf_put w3 fun k z e => by
    obtain ⟨i, h1, h2, h3⟩ := toM_get hlen e
    exact ⟨_, h3, htt _ (by have : i < (ks ++ [0]).length := by omega
                            simp [List.getD_eq_getElem?_getD, List.getElem?_eq_getElem this])⟩
  rw [hfo, hta n hn, hx] at o7
  rw [hinn3] at o3 o5
  obtain ⟨p1, p2⟩ := o8 n (by omega)
  refine ⟨⟨s3, by rw [hta n hn, hx]⟩, v', L', cnt', m, o1, by omega, o4, o5, o6, by omega, by rw [p1, hta n hn, hx], by rw [p2, rn], o7, fun h0 => ?_, o10⟩
  subst h0
  have := o9 (hld_none w3 (by omega) fun k z e a ha => by
    obtain ⟨i, h1, h2, h3⟩ := toM_get hlen e
    simp only [List.take_zero, List.nil_append, List.length_singleton] at h1 h2
    have : i = 0 := by omega
    subst this
    have : a = L2.length := by rw [ha] at h2; simp only [List.getD_cons_zero] at h2; omega
    subst this
    exact fun hr => hnin ((w3.mem_all (by omega)).2 hr))
  exact ⟨this.1, by rw [this.2, rn]⟩
def kn5 (x : Int) : Nat := (kint x 5).toNat
theorem kn5_spec (x : Int) : kint x 5 = (kn5 x : Int) ∧ kn5 x < 5 := by
  obtain ⟨k, h1, h2⟩ := kint_nat x (n := 5) (by decide)
  have : kn5 x = k := by unfold kn5; rw [h1]; rfl
  rw [this]; exact ⟨h1, by omega⟩
theorem kn5_ok (x : Int) : PCalls Try.prog 27 [.int .i64 x, .int .i64 5] (.int .i64 (kn5 x)) := by
  have := kint_ok x (n := 5) (by decide) (by decide)
  rwa [(kn5_spec x).1] at this
theorem kidI_nil : kidI [] = [] := rfl
theorem kidI_take {vs : List Nat} {i : Nat} (h : i < vs.length) : (kidI (vs.take (i + 1))).map I64 = (kidI (vs.take i)).map I64 ++ [.int .i64 (vs.getD i 0 : Nat)] := by
  rw [List.take_add_one, List.getElem?_eq_getElem h, Option.toList_some, kidI_app]
  simp [h]
theorem knI_take {l : List Int} {i : Nat} (h : i < l.length) : (kidI ((l.take (i + 1)).map kn5)).map I64 = (kidI ((l.take i).map kn5)).map I64 ++ [.int .i64 (kn5 (l.getD i 0) : Nat)] := by
  rw [List.take_add_one, List.getElem?_eq_getElem h, Option.toList_some, List.map_append, List.map_cons, List.map_nil, kidI_app]
  simp [h]
theorem ren_size (ρ : Int → Int) : ∀ t : T, (putS (fun k => .var (ρ k)) t).size = t.size := by
  intro t
  induction t <;> simp_all [putS, T.size]
theorem storeCopy_ok (t : Ty) (l : List Int) : PCalls Try.prog 6 [emb t, .sl (l.map I64) .no] (.bool true) := by
  by_cases hv : heavy [t] = true
  · refine pcalls_text C_ok Try.func6 rfl (by decide) (Nat.le_of_ble_eq_true rfl) (by decide) rfl fun ok H => ?_
    rw [Try.results6]
    have h := True.intro
    repeat' (first
     | (with_reducible first | refine goIf_b ?_ ?_ | refine goIf_n ?_ ?_ | refine goIf_d ?_ ?_ | refine goIf_split ?_ ?_ | refine goGb_b ?_ ?_ | refine goGb_n ?_ ?_ | refine goGb_d ?_ ?_ | refine goGb_split ?_ ?_ | refine goDGb_b ?_ ?_ | refine goDGb_n ?_ ?_ | refine goDGb_d ?_ ?_ | refine goDGb_split ?_ ?_) <;> intro h
     | ((first | refine goCall_norm ?_ | refine goDCall_norm ?_); simp only [AV.norm, AV.normL, W2, hv]; first | refine goCall_p (heavy1_ok _) (.inl rfl) ?_ | refine goDCall_p (heavy1_ok _) (.inl rfl) ?_)
     | refine go_draw (id := 29) C_ok mixed 0 Try.f6.ntmps rfl (by kernel_rfl) (by decide) ?_
     | skip) <;> simp only [h, ↓upd_eq, ↓envL_cons, Go.Ab.W0, Go.Ab.WD, Go.Ab.WE, if_true, if_false, reduceIte, Nat.reduceEqDiff, Nat.reduceAdd, Nat.reduceLT, Nat.reduceLeDiff, reduceCtorEq, Nat.reduceMul, implies_true, forall_eq_or_imp, forall_eq, Nat.reducePow, W1, hv]
  · have na := heavy_nodes hv (t := t) (by simp)
    by_cases hr0 : right t = true
    · by_cases hl10 : 10 < l.length
      · have hl10' : ((10 : Int) < l.length) = True := by simp only [eq_iff_iff, iff_true]; omega
        refine pcalls_text C_ok Try.func6 rfl (by decide) (Nat.le_of_ble_eq_true rfl) (by decide) rfl fun ok H => ?_
        rw [Try.results6]
        have h := True.intro
        repeat' (first
         | (with_reducible first | refine goIf_b ?_ ?_ | refine goIf_n ?_ ?_ | refine goIf_d ?_ ?_ | refine goIf_split ?_ ?_ | refine goGb_b ?_ ?_ | refine goGb_n ?_ ?_ | refine goGb_d ?_ ?_ | refine goGb_split ?_ ?_ | refine goDGb_b ?_ ?_ | refine goDGb_n ?_ ?_ | refine goDGb_d ?_ ?_ | refine goDGb_split ?_ ?_) <;> intro h
         | ((first | refine goCall_norm ?_ | refine goDCall_norm ?_); simp only [AV.norm, AV.normL, W2, hv, hr0, hl10', List.length_map]; first | refine goCall_p (heavy1_ok _) (.inl rfl) ?_ | refine goCall_p (rright_ok _) (.inl rfl) ?_ | refine goDCall_p (heavy1_ok _) (.inl rfl) ?_ | refine goDCall_p (rright_ok _) (.inl rfl) ?_)
         | refine go_draw (id := 29) C_ok mixed 0 Try.f6.ntmps rfl (by kernel_rfl) (by decide) ?_
         | skip) <;> simp only [h, ↓upd_eq, ↓envL_cons, Go.Ab.W0, Go.Ab.WD, Go.Ab.WE, if_true, if_false, reduceIte, Nat.reduceEqDiff, Nat.reduceAdd, Nat.reduceLT, Nat.reduceLeDiff, reduceCtorEq, Nat.reduceMul, implies_true, forall_eq_or_imp, forall_eq, Nat.reducePow, W1, hv, hr0, hl10', List.length_map]
      · have hl10' : ((10 : Int) < l.length) = False := by simp only [eq_iff_iff, iff_false]; omega
        obtain ⟨t, rfl⟩ := T.of_right t hr0
        rw [nodes_size] at na
        have hlim : limOf 65536 = 65536 := by decide
        refine pcalls_text C_ok Try.func6 rfl (by decide) (Nat.le_of_ble_eq_true rfl) (by decide) rfl fun ok H => ?_
        rw [Try.results6]
        rw [initS_fs]
        have h := True.intro
        repeat' (first
         | (with_reducible first | refine goIf_b ?_ ?_ | refine goIf_n ?_ ?_ | refine goIf_d ?_ ?_ | refine goIf_split ?_ ?_ | refine goGb_b ?_ ?_ | refine goGb_n ?_ ?_ | refine goGb_d ?_ ?_ | refine goGb_split ?_ ?_ | refine goDGb_b ?_ ?_ | refine goDGb_n ?_ ?_ | refine goDGb_d ?_ ?_ | refine goDGb_split ?_ ?_) <;> intro h
         | ((first | refine goCall_norm ?_ | refine goDCall_norm ?_); simp only [AV.norm, AV.normL, W2, hv, hr0, hl10', List.length_map, emb_solid, emb_bel, implies_true]; first | refine goCall_p (heavy1_ok _) (.inl rfl) ?_ | refine goCall_p (rright_ok _) (.inl rfl) ?_ | refine goDCall_p (heavy1_ok _) (.inl rfl) ?_ | refine goDCall_p (rright_ok _) (.inl rfl) ?_)
         | refine go_drawF (id := 29) C_ok mixed 0 Try.f6.ntmps (by first | (simp; done) | (simp; omega)) rfl (by kernel_rfl) (by decide) ?_
         | skip) <;> simp only [h, ↓upd_eq, ↓envL_cons, Go.Ab.W0, Go.Ab.WD, if_true, if_false, reduceIte, Nat.reduceEqDiff, Nat.reduceAdd, Nat.reduceLT, Nat.reduceLeDiff, reduceCtorEq, Nat.reduceMul, implies_true, forall_eq_or_imp, forall_eq, Nat.reducePow, W1, fs_frz, fs_frz0, fs_env, fs_b, fs_n, fs_put, fs_put0, fs_tmp, fs_const, fs_func, fs_obj, fs_setObj, fs_new, fs_next, fs_mk, fs_H, le_app, le_set, app_get, app_set, app_get0c, app_getkc, app_set0c, app_setkc, List.append_assoc, not_false_eq_true, not_true_eq_false, retE_ret, retP_ret, List.length_append, List.length_set, Nat.le_succ, hv, hr0, hl10', List.length_map, emb_solid, emb_bel, implies_true]
        refine fsNew (by simp) fun G s r hs hr hne hl ht hbs hbr => ?_
        rw [hlim]
        have hl0 : H.length ≤ G.length := by simp at hl; omega
        have hle : ∀ k, (H.length ≤ G.length + k) = True := fun k => by simp only [eq_iff_iff, iff_true]; omega
        have hT := st_old (q := H.length) (x := .box (cellsOf (emb t.ty))) (by simp [emb_cells]) ht hbs hbr
        simp only [emb_cells] at hT
        have hHt : G.take H.length = H := take_low ht (by simp) (List.take_left' rfl)
        have hbs' : H.length ≤ s := by simp at hbs; omega
        have hbr' : H.length ≤ r := by simp at hbr; omega
        clear hbs hbr ht hl
        have l1 := madeM_len 1 t mem0 []
        have l0 : mem0.length = 5 := rfl
        obtain ⟨s1, o1⟩ := madeM_ok 1 t mem0 [] SI.mem0 (VI_nil _)
        have m1 := (made_all (s := s) (r := r) (m := G.length + 0) (lim := 65536) (rd := 0) (lvl := 1) hne (by omega) (by omega) (by omega) rfl t 4 mem0 0 [] SI.mem0 (VI_nil _) (by omega) (by omega) (by omega)).loc hs hr [.map []] [.map (embM (madeM 1 t mem0 []).2.1)] (by simp) rfl rfl
        have hst1 := madeM_st 1 t mem0 []
        have hinn0 : inn mem0.st = 0 := by decide
        have hinn : inn (madeM 1 t mem0 []).1.st = t.inner := by rw [hst1.1, madeN_inn, hinn0, Nat.zero_add]
        generalize hc1 : (0 + (((madeM 1 t mem0 []).1.length - mem0.length : Nat) : Int)) = c1 at m1
        have hc1' : 0 ≤ c1 ∧ c1 ≤ 600 := by omega
        clear hst1 hc1
        generalize madeM 1 t mem0 [] = p at *
        generalize (4 + (p.1.length - mem0.length)) = v1 at *
        have hLen : p.1.length ≤ 605 := by omega
        have htree := o1.tree
        have hnlt := o1.lt
        have hrn := o1.root
        rw [Mem.st_len] at hnlt
        clear l1 o1
        generalize p.1 = L1 at *
        generalize p.2.2 = n at *
        generalize p.2.1 = Z1 at *
        have qn := fun (F : List AObj) (hs : s < F.length) (hr : r < F.length) => vars_ok (F := F) (v := v1) (L := L1) (lim := 65536) (cnt := c1) (rd := 0) hs hr hne s1.wf s1.mb (by omega) (by omega) n (by omega)
        have s2 := s1.mark (L1.st.all n)
        have hst2 : (mkL L1 (0 + 1) (L1.st.all n)).st = L1.st := mkL_st _ _ _
        have len2 : (mkL L1 (0 + 1) (L1.st.all n)).length = L1.length := mkL_len _ _ _
        rw [Int.zero_add] at qn s2 hst2 len2
        have hvnd : (L1.st.vars n).Nodup := (s1.wf.nodup_all (n := n) (by rw [Mem.st_len]; exact hnlt)).filter _
        have hvl : (L1.st.vars n).length ≤ 605 := Nat.le_trans (List.length_filter_le _ _) (Nat.le_trans (all_len s1.wf hnlt) hLen)
        have hx : L1.st.tree n = (putS (fun k => .var (nu Z1 k)) t).ty := htree
        have hxn : nodes (putS (fun k => .var (nu Z1 k)) t).ty ≤ 600 := by rw [nodes_size, ren_size]; exact na
        clear htree
        generalize putS (fun k => .var (nu Z1 k)) t = x at *
        generalize mkL L1 1 (L1.st.all n) = L2 at *
        rw [← hst2] at hx hinn hrn
        have hvs : L2.st.vars n = L1.st.vars n := by rw [hst2]
        generalize L1.st.vars n = vs at *
        have hin := inner12_ok t (by have := inner_lt t; omega)
        have hti := inner_lt t
        have h := True.intro
        repeat' (first
         | (with_reducible first | refine goIf_b ?_ ?_ | refine goIf_n ?_ ?_ | refine goIf_d ?_ ?_ | refine goIf_split ?_ ?_ | refine goGb_b ?_ ?_ | refine goGb_n ?_ ?_ | refine goGb_d ?_ ?_ | refine goGb_split ?_ ?_ | refine goDGb_b ?_ ?_ | refine goDGb_n ?_ ?_ | refine goDGb_d ?_ ?_ | refine goDGb_split ?_ ?_) <;> intro h
         | ((first | refine goCall_norm ?_ | refine goDCall_norm ?_); simp only [AV.norm, AV.normL, W2, hpS, bxS, arS, stP hs hr hne, retD_ret, retD_normal, AV.bel, mapN_len, hT, hl0, hle, emb_solid, emb_bel, implies_true, ints_norm, kidI_len, List.length_map, bne_self_eq_false, beq_self_eq_true]; first  | refine fsCallD (m1) (.inl rfl) (fun hb => belJ hs hr hne hl0 hb) ?_ | refine fsCallD (qn _ (by first | exact hs | exact lt_app hs | exact lt_app (lt_set hs) | exact lt_set hs) (by first | exact hr | exact lt_app hr | exact lt_app (lt_set hr) | exact lt_set hr)) (.inl rfl) (fun hb => hpS_bel (by first | exact hs | exact lt_app hs | exact lt_app (lt_set hs) | exact lt_set hs) (by first | exact hr | exact lt_app hr | exact lt_app (lt_set hr) | exact lt_set hr) hne hb) ?_)
         | refine go_drawF (id := 29) C_ok mixed 0 Try.f6.ntmps (by first | (simp; done) | (simp; omega)) rfl (by kernel_rfl) (by decide) ?_
         | skip) <;> simp only [h, ↓upd_eq, ↓envL_cons, Go.Ab.W0, Go.Ab.WD, if_true, if_false, reduceIte, Nat.reduceEqDiff, Nat.reduceAdd, Nat.reduceLT, Nat.reduceLeDiff, reduceCtorEq, Nat.reduceMul, implies_true, forall_eq_or_imp, forall_eq, Nat.reducePow, W1, fs_frz, fs_frz0, fs_env, fs_b, fs_n, fs_put, fs_put0, fs_tmp, fs_const, fs_func, fs_obj, fs_setObj, fs_new, fs_next, fs_mk, fs_H, le_app, le_set, app_get, app_set, app_get0c, app_getkc, app_set0c, app_setkc, List.append_assoc, not_false_eq_true, not_true_eq_false, retE_ret, retP_ret, List.length_append, List.length_set, Nat.le_succ, hpS, bxS, arS, stP hs hr hne, retD_ret, retD_normal, AV.bel, mapN_len, hT, hl0, hle, emb_solid, emb_bel, implies_true, ints_norm, kidI_len, List.length_map, bne_self_eq_false, beq_self_eq_true]
        refine aloop_trimF [10, 11, 12, 1, 2, 5, 7, 9] ?_
        simp only [List.map_cons, List.map_nil, ↓upd_eq, ↓envL_cons, Go.Ab.W0, Go.Ab.WD, if_true, if_false, reduceIte, Nat.reduceEqDiff, Nat.reduceAdd, Nat.reduceLT, Nat.reduceLeDiff, reduceCtorEq, Nat.reduceMul, implies_true, forall_eq_or_imp, forall_eq, Nat.reducePow, W1, fs_frz, fs_frz0, fs_env, fs_b, fs_n, fs_put, fs_put0, fs_tmp, fs_const, fs_func, fs_obj, fs_setObj, fs_new, fs_next, fs_mk, fs_H, le_app, le_set, app_get, app_set, app_get0c, app_getkc, app_set0c, app_setkc, List.append_assoc, not_false_eq_true, not_true_eq_false, retE_ret, retP_ret, List.length_append, List.length_set, Nat.le_succ]
        refine goLoopF 3 (fun i : Nat => match i with
            | 0 => [(10, .sl [] .full), (11, .sl [] .full), (12, .int .i64 0)]
            | i + 1 => [(10, .sl ((kidI (vs.take (i + 1))).map I64) (.own (G.length + 1))), (11, .sl ((kidI ((l.take (i + 1)).map kn5)).map I64) (.own (G.length + 2))), (12, .int .i64 ((i + 1 : Nat) : Int))])
          (fun i => match i with
            | 0 => hpS (G ++ [.map (embM Z1)]) s r v1 L2 65536 c1 1
            | i + 1 => hpS (G ++ [.map (embM Z1), .tok (i + 1) 1, .tok (i + 1) 1]) s r v1 L2 65536 c1 1)
          (fun i => i ≤ vs.length ∧ i ≤ l.length) (fun i => vs.length - i) C_ok 0 rfl rfl ⟨Nat.zero_le _, Nat.zero_le _⟩ (by decide) ?_
        rintro (_ | i) ⟨hi1, hi2⟩
        · simp only [List.drop_succ_cons, List.drop_zero, List.cons_append, List.nil_append]
          by_cases hlt : 0 < vs.length
          · have hltI : ((0 : Int) < vs.length) = True := by simp only [eq_iff_iff, iff_true]; omega
            by_cases hlt2 : 0 < l.length
            · have hltI2 : ((0 : Int) < l.length) = True := by simp only [eq_iff_iff, iff_true]; omega
              have hgl : (l.map I64).getD 0 .any = .int .i64 (l.getD 0 0) := by simp [hlt2, I64]
              have hk := kn5_ok (l.getD 0 0)
              have e1 := kidI_take hlt
              have e2 := knI_take hlt2
              have w01 : IntKind.wrap .i64 1 = 1 := by decide
              simp only [List.take_zero, List.map_nil, List.nil_append, kidI_nil] at e1 e2
              have h := True.intro
              repeat' (first
               | (with_reducible first | refine goIf_b ?_ ?_ | refine goIf_n ?_ ?_ | refine goIf_d ?_ ?_ | refine goIf_split ?_ ?_ | refine goGb_b ?_ ?_ | refine goGb_n ?_ ?_ | refine goGb_d ?_ ?_ | refine goGb_split ?_ ?_ | refine goDGb_b ?_ ?_ | refine goDGb_n ?_ ?_ | refine goDGb_d ?_ ?_ | refine goDGb_split ?_ ?_) <;> intro h
               | ((first | refine goCall_norm ?_ | refine goDCall_norm ?_); simp only [AV.norm, AV.normL, W2, hpS, bxS, arS, stP hs hr hne, retD_ret, retD_normal, AV.bel, mapN_len, hT, hl0, hle, hlt, hlt2, hltI, hltI2, hgl, w01, Int.zero_add, Int.toNat_zero, Int.le_refl, List.length_map, kidI_len, kidI_get hlt]; first | refine goCall_p (hk) (.inl rfl) ?_ | refine goDCall_p (hk) (.inl rfl) ?_)
               | refine go_drawF (id := 29) C_ok mixed 0 Try.f6.ntmps (by first | (simp; done) | (simp; omega)) rfl (by kernel_rfl) (by decide) ?_
               | skip) <;> simp only [h, ↓upd_eq, ↓envL_cons, Go.Ab.W0, Go.Ab.WD, if_true, if_false, reduceIte, Nat.reduceEqDiff, Nat.reduceAdd, Nat.reduceLT, Nat.reduceLeDiff, reduceCtorEq, Nat.reduceMul, implies_true, forall_eq_or_imp, forall_eq, Nat.reducePow, W1, fs_frz, fs_frz0, fs_env, fs_b, fs_n, fs_put, fs_put0, fs_tmp, fs_const, fs_func, fs_obj, fs_setObj, fs_new, fs_next, fs_mk, fs_H, le_app, le_set, app_get, app_set, app_get0c, app_getkc, app_set0c, app_setkc, List.append_assoc, not_false_eq_true, not_true_eq_false, retE_ret, retP_ret, List.length_append, List.length_set, Nat.le_succ, hpS, bxS, arS, stP hs hr hne, retD_ret, retD_normal, AV.bel, mapN_len, hT, hl0, hle, hlt, hlt2, hltI, hltI2, hgl, w01, Int.zero_add, Int.toNat_zero, Int.le_refl, List.length_map, kidI_len, kidI_get hlt]
              refine ⟨0 + 1, ⟨by omega, by omega⟩, by omega, weakF rfl ?_⟩
              simp only [List.forall_mem_cons, mem_nil_all, frz_app, ↓upd_eq, ↓envL_cons, Nat.reduceEqDiff, if_true, if_false, reduceIte, true_and, and_true, and_self, true_or, or_true, implies_true, List.not_mem_nil, false_implies, AV.bel, AV.belL, AObj.bel, AV.norm, AV.normL, Bool.and_true, Bool.true_and, decide_true, decide_eq_true_eq, List.length_cons, List.length_nil, Nat.zero_add, Nat.reduceAdd, Nat.lt_add_one, Nat.lt_add_right_iff_pos, Nat.zero_lt_succ, Nat.zero_lt_one, Nat.reduceLT, List.take_succ_cons, List.take_zero, e1, e2]
              all_goals simp
            · have hltI2 : ((0 : Int) < l.length) = False := by simp only [eq_iff_iff, iff_false]; omega
              obtain ⟨⟨s3, t3⟩, v4, L4, c4, m, s4, len4, cge, cle, hm4, hn4, t4, r4, tm4, hK0, qc⟩ := cp_use s2 (by omega) hx hxn (by omega) hrn hinn (by omega) hvs hvnd hc1' (K := 0) (by omega) (ks := (l.take (0)).map kn5) (by simp; try omega) (fun k hk => by obtain ⟨y, _, rfl⟩ := List.mem_map.1 hk; exact (kn5_spec y).2)
                (F := G ++ [.map (embM Z1), .tok (0 + 1) 1, .tok (0 + 1) 1, .box [.int .i64 x.ty.kind, .int .i64 x.ty.num, .sl (x.ty.kids.map emb) .no]]) (s := s) (r := r) (v := v1 + 1) (lt_app hs) (lt_app hr) hne
              have l3 : (L2 ++ [varN 9]).length = L2.length + 1 := by simp
              have qput := put12_ok (fr := vs.take (0) ++ [L2.length]) (tt := (l.take (0)).map kn5 ++ [0]) (by simp; try omega) (by simp) (by simp <;> omega) (fun t ht => by
                rcases List.mem_append.1 ht with ht | ht
                · obtain ⟨y, _, rfl⟩ := List.mem_map.1 ht; exact (kn5_spec y).2
                · simp only [List.mem_singleton] at ht; omega) x
              have hn1 : AV.normL ((kidI (vs.take (0) ++ [L2.length])).map I64) = (kidI (vs.take (0) ++ [L2.length])).map I64 := ints_norm _
              have hn2 : AV.normL ((kidI ((l.take (0)).map kn5 ++ [0])).map I64) = (kidI ((l.take (0)).map kn5 ++ [0])).map I64 := ints_norm _
              have qv := fun F hs hr => var_ok (F := F) (s := s) (r := r) (v := v1) (L := L2) (lim := 65536) (cnt := c1) (rd := 1) hs hr hne 9 (by omega) (by rw [beq_eq_false_iff_ne]; omega) (by omega) (by omega)
              have q1 := fun F hs hr => read_gen (F := F) (s := s) (r := r) (v := v1 + 1) (L := L2 ++ [varN 9]) (lim := 65536) (cnt := c1 + 1) (rd := 1) hs hr hne s3.wf n (by omega) ⟨by omega, by omega, by omega⟩
              rw [t3] at q1
              simp only [if_pos (show (nodes x.ty : Int) ≤ 65536 - (c1 + 1) by omega)] at q1
              have q2 := fun F hs hr => read_gen (F := F) (s := s) (r := r) (v := v4) (L := L4) (lim := 65536) (cnt := c4) (rd := 2) hs hr hne s4.wf n hn4 ⟨by omega, by omega, by omega⟩
              rw [t4] at q2
              simp only [if_pos (show (nodes x.ty : Int) ≤ 65536 - c4 by omega)] at q2
              have q3 := fun F hs hr => read_gen (F := F) (s := s) (r := r) (v := v4) (L := L4) (lim := 65536) (cnt := c4 + nodes x.ty) (rd := 2) hs hr hne s4.wf m hm4 ⟨by omega, by omega, by omega⟩
              rw [tm4] at q3
              have hsn := sb_nodes (toM (vs.take (0) ++ [L2.length]) ((l.take (0)).map kn5 ++ [0])) x
              simp only [if_pos (show (nodes (sbT (fPut (toM (vs.take (0) ++ [L2.length]) ((l.take (0)).map kn5 ++ [0]))) x.ty) : Int) ≤ 65536 - (c4 + nodes x.ty) by omega)] at q3
              have q4 := fun (cc : Int) F hs hr => root_in (F := F) (s := s) (r := r) (v := v4) (L := L4) (lim := 65536) (cnt := cc) (rd := 2) hs hr hne s4.wf n hn4
              rw [r4] at q4
              have hs1 := same_refl x.ty
              have hs2 := same_refl (sbT (fPut (toM (vs.take (0) ++ [L2.length]) ((l.take (0)).map kn5 ++ [0]))) x.ty)
              clear tm4 t4 t3 s3 s4
              generalize sbT (fPut (toM (vs.take (0) ++ [L2.length]) ((l.take (0)).map kn5 ++ [0]))) x.ty = X at *
              simp only [kidI_app, Int.natCast_zero] at qc qput hn1 hn2
              try simp only [List.take_zero, kidI_nil, List.map_nil, List.nil_append] at qc qput hn1 hn2
              generalize L2 ++ [varN 9] = L3 at *
              have w1 : IntKind.wrap .i64 (c4 - (c1 + 1 + nodes x.ty)) = c4 - (c1 + 1 + nodes x.ty) := wrap_i (by omega) (by omega)
              have hin2 : ((t.inner : Int) < c4 - (c1 + 1 + nodes x.ty)) = False := by simp only [eq_iff_iff, iff_false]; omega
              obtain ⟨k1, k2⟩ := hK0 rfl
              have f1 : (c4 - (c1 + 1 + nodes x.ty) != 0) = false := by rw [bne_eq_false_iff_eq]; omega
              have f2 : ((m : Int) != (n : Int)) = false := by rw [bne_eq_false_iff_eq]; omega
              have f3 : True := trivial
              have h := True.intro
              repeat' (first
               | (with_reducible first | refine goIf_b ?_ ?_ | refine goIf_n ?_ ?_ | refine goIf_d ?_ ?_ | refine goIf_split ?_ ?_ | refine goGb_b ?_ ?_ | refine goGb_n ?_ ?_ | refine goGb_d ?_ ?_ | refine goGb_split ?_ ?_ | refine goDGb_b ?_ ?_ | refine goDGb_n ?_ ?_ | refine goDGb_d ?_ ?_ | refine goDGb_split ?_ ?_) <;> intro h
               | ((first | refine goCall_norm ?_ | refine goDCall_norm ?_); simp only [AV.norm, AV.normL, W2, hpS, bxS, arS, stP hs hr hne, retD_ret, retD_normal, AV.bel, mapN_len, hT, hl0, hle, Int.zero_add, Nat.zero_add, hltI, hltI2, hn1, hn2, w1, hin2, hs1, hs2, f1, f2, f3, List.length_map, kidI_len, emb_solid, emb_bel, emb_cells, implies_true, bne_self_eq_false, beq_self_eq_true]; first | refine goCall_p (ksame_ok _ _) (.inl rfl) ?_ | refine goCall_p (hin) (.inl rfl) ?_ | refine goCall_p (qput) (.inl rfl) ?_ | refine goCall_p (wakes12_ok) (.inl rfl) ?_ | refine goDCall_p (ksame_ok _ _) (.inl rfl) ?_ | refine goDCall_p (hin) (.inl rfl) ?_ | refine goDCall_p (qput) (.inl rfl) ?_ | refine goDCall_p (wakes12_ok) (.inl rfl) ?_ | refine fsCallD (qv _ (by first | exact hs | exact lt_app hs | exact lt_app (lt_set hs) | exact lt_set hs) (by first | exact hr | exact lt_app hr | exact lt_app (lt_set hr) | exact lt_set hr)) (.inl rfl) (fun hb => hpS_bel (by first | exact hs | exact lt_app hs | exact lt_app (lt_set hs) | exact lt_set hs) (by first | exact hr | exact lt_app hr | exact lt_app (lt_set hr) | exact lt_set hr) hne hb) ?_ | refine fsCallD (q1 _ (by first | exact hs | exact lt_app hs | exact lt_app (lt_set hs) | exact lt_set hs) (by first | exact hr | exact lt_app hr | exact lt_app (lt_set hr) | exact lt_set hr)) (.inl rfl) (fun hb => hpS_bel (by first | exact hs | exact lt_app hs | exact lt_app (lt_set hs) | exact lt_set hs) (by first | exact hr | exact lt_app hr | exact lt_app (lt_set hr) | exact lt_set hr) hne hb) ?_ | refine fsCallR (scount_ok (by first | exact hs | exact lt_app hs | exact lt_app (lt_set hs) | exact lt_set hs) (by first | exact hr | exact lt_app hr | exact lt_app (lt_set hr) | exact lt_set hr) hne) (.inl rfl) ?_ | refine fsCallD (qc) (.inl rfl) (fun hb => belJ hs hr hne hl0 hb) ?_ | refine fsCallD (q2 _ (by first | exact hs | exact lt_app hs | exact lt_app (lt_set hs) | exact lt_set hs) (by first | exact hr | exact lt_app hr | exact lt_app (lt_set hr) | exact lt_set hr)) (.inl rfl) (fun hb => hpS_bel (by first | exact hs | exact lt_app hs | exact lt_app (lt_set hs) | exact lt_set hs) (by first | exact hr | exact lt_app hr | exact lt_app (lt_set hr) | exact lt_set hr) hne hb) ?_ | refine fsCallD (q3 _ (by first | exact hs | exact lt_app hs | exact lt_app (lt_set hs) | exact lt_set hs) (by first | exact hr | exact lt_app hr | exact lt_app (lt_set hr) | exact lt_set hr)) (.inl rfl) (fun hb => hpS_bel (by first | exact hs | exact lt_app hs | exact lt_app (lt_set hs) | exact lt_set hs) (by first | exact hr | exact lt_app hr | exact lt_app (lt_set hr) | exact lt_set hr) hne hb) ?_ | refine fsCallR (q4 _ _ (by first | exact hs | exact lt_app hs | exact lt_app (lt_set hs) | exact lt_set hs) (by first | exact hr | exact lt_app hr | exact lt_app (lt_set hr) | exact lt_set hr)) (.inl rfl) ?_)
               | refine go_drawF (id := 29) C_ok mixed 0 Try.f6.ntmps (by first | (simp; done) | (simp; omega)) rfl (by kernel_rfl) (by decide) ?_
               | skip) <;> simp only [h, ↓upd_eq, ↓envL_cons, Go.Ab.W0, Go.Ab.WD, if_true, if_false, reduceIte, Nat.reduceEqDiff, Nat.reduceAdd, Nat.reduceLT, Nat.reduceLeDiff, reduceCtorEq, Nat.reduceMul, implies_true, forall_eq_or_imp, forall_eq, Nat.reducePow, W1, fs_frz, fs_frz0, fs_env, fs_b, fs_n, fs_put, fs_put0, fs_tmp, fs_const, fs_func, fs_obj, fs_setObj, fs_new, fs_next, fs_mk, fs_H, le_app, le_set, app_get, app_set, app_get0c, app_getkc, app_set0c, app_setkc, List.append_assoc, not_false_eq_true, not_true_eq_false, retE_ret, retP_ret, List.length_append, List.length_set, Nat.le_succ, hpS, bxS, arS, stP hs hr hne, retD_ret, retD_normal, AV.bel, mapN_len, hT, hl0, hle, Int.zero_add, Nat.zero_add, hltI, hltI2, hn1, hn2, w1, hin2, hs1, hs2, f1, f2, f3, List.length_map, kidI_len, emb_solid, emb_bel, emb_cells, implies_true, bne_self_eq_false, beq_self_eq_true]
              all_goals exact stJ_take hbs' hbr' hl0 hHt
          · have hltI : ((0 : Int) < vs.length) = False := by simp only [eq_iff_iff, iff_false]; omega
            obtain ⟨⟨s3, t3⟩, v4, L4, c4, m, s4, len4, cge, cle, hm4, hn4, t4, r4, tm4, hK0, qc⟩ := cp_use s2 (by omega) hx hxn (by omega) hrn hinn (by omega) hvs hvnd hc1' (K := 0) (by omega) (ks := (l.take (0)).map kn5) (by simp; try omega) (fun k hk => by obtain ⟨y, _, rfl⟩ := List.mem_map.1 hk; exact (kn5_spec y).2)
              (F := G ++ [.map (embM Z1), .tok (0 + 1) 1, .tok (0 + 1) 1, .box [.int .i64 x.ty.kind, .int .i64 x.ty.num, .sl (x.ty.kids.map emb) .no]]) (s := s) (r := r) (v := v1 + 1) (lt_app hs) (lt_app hr) hne
            have l3 : (L2 ++ [varN 9]).length = L2.length + 1 := by simp
            have qput := put12_ok (fr := vs.take (0) ++ [L2.length]) (tt := (l.take (0)).map kn5 ++ [0]) (by simp; try omega) (by simp) (by simp <;> omega) (fun t ht => by
              rcases List.mem_append.1 ht with ht | ht
              · obtain ⟨y, _, rfl⟩ := List.mem_map.1 ht; exact (kn5_spec y).2
              · simp only [List.mem_singleton] at ht; omega) x
            have hn1 : AV.normL ((kidI (vs.take (0) ++ [L2.length])).map I64) = (kidI (vs.take (0) ++ [L2.length])).map I64 := ints_norm _
            have hn2 : AV.normL ((kidI ((l.take (0)).map kn5 ++ [0])).map I64) = (kidI ((l.take (0)).map kn5 ++ [0])).map I64 := ints_norm _
            have qv := fun F hs hr => var_ok (F := F) (s := s) (r := r) (v := v1) (L := L2) (lim := 65536) (cnt := c1) (rd := 1) hs hr hne 9 (by omega) (by rw [beq_eq_false_iff_ne]; omega) (by omega) (by omega)
            have q1 := fun F hs hr => read_gen (F := F) (s := s) (r := r) (v := v1 + 1) (L := L2 ++ [varN 9]) (lim := 65536) (cnt := c1 + 1) (rd := 1) hs hr hne s3.wf n (by omega) ⟨by omega, by omega, by omega⟩
            rw [t3] at q1
            simp only [if_pos (show (nodes x.ty : Int) ≤ 65536 - (c1 + 1) by omega)] at q1
            have q2 := fun F hs hr => read_gen (F := F) (s := s) (r := r) (v := v4) (L := L4) (lim := 65536) (cnt := c4) (rd := 2) hs hr hne s4.wf n hn4 ⟨by omega, by omega, by omega⟩
            rw [t4] at q2
            simp only [if_pos (show (nodes x.ty : Int) ≤ 65536 - c4 by omega)] at q2
            have q3 := fun F hs hr => read_gen (F := F) (s := s) (r := r) (v := v4) (L := L4) (lim := 65536) (cnt := c4 + nodes x.ty) (rd := 2) hs hr hne s4.wf m hm4 ⟨by omega, by omega, by omega⟩
            rw [tm4] at q3
            have hsn := sb_nodes (toM (vs.take (0) ++ [L2.length]) ((l.take (0)).map kn5 ++ [0])) x
            simp only [if_pos (show (nodes (sbT (fPut (toM (vs.take (0) ++ [L2.length]) ((l.take (0)).map kn5 ++ [0]))) x.ty) : Int) ≤ 65536 - (c4 + nodes x.ty) by omega)] at q3
            have q4 := fun (cc : Int) F hs hr => root_in (F := F) (s := s) (r := r) (v := v4) (L := L4) (lim := 65536) (cnt := cc) (rd := 2) hs hr hne s4.wf n hn4
            rw [r4] at q4
            have hs1 := same_refl x.ty
            have hs2 := same_refl (sbT (fPut (toM (vs.take (0) ++ [L2.length]) ((l.take (0)).map kn5 ++ [0]))) x.ty)
            clear tm4 t4 t3 s3 s4
            generalize sbT (fPut (toM (vs.take (0) ++ [L2.length]) ((l.take (0)).map kn5 ++ [0]))) x.ty = X at *
            simp only [kidI_app, Int.natCast_zero] at qc qput hn1 hn2
            try simp only [List.take_zero, kidI_nil, List.map_nil, List.nil_append] at qc qput hn1 hn2
            generalize L2 ++ [varN 9] = L3 at *
            have w1 : IntKind.wrap .i64 (c4 - (c1 + 1 + nodes x.ty)) = c4 - (c1 + 1 + nodes x.ty) := wrap_i (by omega) (by omega)
            have hin2 : ((t.inner : Int) < c4 - (c1 + 1 + nodes x.ty)) = False := by simp only [eq_iff_iff, iff_false]; omega
            obtain ⟨k1, k2⟩ := hK0 rfl
            have f1 : (c4 - (c1 + 1 + nodes x.ty) != 0) = false := by rw [bne_eq_false_iff_eq]; omega
            have f2 : ((m : Int) != (n : Int)) = false := by rw [bne_eq_false_iff_eq]; omega
            have f3 : True := trivial
            have h := True.intro
            repeat' (first
             | (with_reducible first | refine goIf_b ?_ ?_ | refine goIf_n ?_ ?_ | refine goIf_d ?_ ?_ | refine goIf_split ?_ ?_ | refine goGb_b ?_ ?_ | refine goGb_n ?_ ?_ | refine goGb_d ?_ ?_ | refine goGb_split ?_ ?_ | refine goDGb_b ?_ ?_ | refine goDGb_n ?_ ?_ | refine goDGb_d ?_ ?_ | refine goDGb_split ?_ ?_) <;> intro h
             | ((first | refine goCall_norm ?_ | refine goDCall_norm ?_); simp only [AV.norm, AV.normL, W2, hpS, bxS, arS, stP hs hr hne, retD_ret, retD_normal, AV.bel, mapN_len, hT, hl0, hle, Int.zero_add, Nat.zero_add, hltI, hn1, hn2, w1, hin2, hs1, hs2, f1, f2, f3, List.length_map, kidI_len, emb_solid, emb_bel, emb_cells, implies_true, bne_self_eq_false, beq_self_eq_true]; first | refine goCall_p (ksame_ok _ _) (.inl rfl) ?_ | refine goCall_p (hin) (.inl rfl) ?_ | refine goCall_p (qput) (.inl rfl) ?_ | refine goCall_p (wakes12_ok) (.inl rfl) ?_ | refine goDCall_p (ksame_ok _ _) (.inl rfl) ?_ | refine goDCall_p (hin) (.inl rfl) ?_ | refine goDCall_p (qput) (.inl rfl) ?_ | refine goDCall_p (wakes12_ok) (.inl rfl) ?_ | refine fsCallD (qv _ (by first | exact hs | exact lt_app hs | exact lt_app (lt_set hs) | exact lt_set hs) (by first | exact hr | exact lt_app hr | exact lt_app (lt_set hr) | exact lt_set hr)) (.inl rfl) (fun hb => hpS_bel (by first | exact hs | exact lt_app hs | exact lt_app (lt_set hs) | exact lt_set hs) (by first | exact hr | exact lt_app hr | exact lt_app (lt_set hr) | exact lt_set hr) hne hb) ?_ | refine fsCallD (q1 _ (by first | exact hs | exact lt_app hs | exact lt_app (lt_set hs) | exact lt_set hs) (by first | exact hr | exact lt_app hr | exact lt_app (lt_set hr) | exact lt_set hr)) (.inl rfl) (fun hb => hpS_bel (by first | exact hs | exact lt_app hs | exact lt_app (lt_set hs) | exact lt_set hs) (by first | exact hr | exact lt_app hr | exact lt_app (lt_set hr) | exact lt_set hr) hne hb) ?_ | refine fsCallR (scount_ok (by first | exact hs | exact lt_app hs | exact lt_app (lt_set hs) | exact lt_set hs) (by first | exact hr | exact lt_app hr | exact lt_app (lt_set hr) | exact lt_set hr) hne) (.inl rfl) ?_ | refine fsCallD (qc) (.inl rfl) (fun hb => belJ hs hr hne hl0 hb) ?_ | refine fsCallD (q2 _ (by first | exact hs | exact lt_app hs | exact lt_app (lt_set hs) | exact lt_set hs) (by first | exact hr | exact lt_app hr | exact lt_app (lt_set hr) | exact lt_set hr)) (.inl rfl) (fun hb => hpS_bel (by first | exact hs | exact lt_app hs | exact lt_app (lt_set hs) | exact lt_set hs) (by first | exact hr | exact lt_app hr | exact lt_app (lt_set hr) | exact lt_set hr) hne hb) ?_ | refine fsCallD (q3 _ (by first | exact hs | exact lt_app hs | exact lt_app (lt_set hs) | exact lt_set hs) (by first | exact hr | exact lt_app hr | exact lt_app (lt_set hr) | exact lt_set hr)) (.inl rfl) (fun hb => hpS_bel (by first | exact hs | exact lt_app hs | exact lt_app (lt_set hs) | exact lt_set hs) (by first | exact hr | exact lt_app hr | exact lt_app (lt_set hr) | exact lt_set hr) hne hb) ?_ | refine fsCallR (q4 _ _ (by first | exact hs | exact lt_app hs | exact lt_app (lt_set hs) | exact lt_set hs) (by first | exact hr | exact lt_app hr | exact lt_app (lt_set hr) | exact lt_set hr)) (.inl rfl) ?_)
             | refine go_drawF (id := 29) C_ok mixed 0 Try.f6.ntmps (by first | (simp; done) | (simp; omega)) rfl (by kernel_rfl) (by decide) ?_
             | skip) <;> simp only [h, ↓upd_eq, ↓envL_cons, Go.Ab.W0, Go.Ab.WD, if_true, if_false, reduceIte, Nat.reduceEqDiff, Nat.reduceAdd, Nat.reduceLT, Nat.reduceLeDiff, reduceCtorEq, Nat.reduceMul, implies_true, forall_eq_or_imp, forall_eq, Nat.reducePow, W1, fs_frz, fs_frz0, fs_env, fs_b, fs_n, fs_put, fs_put0, fs_tmp, fs_const, fs_func, fs_obj, fs_setObj, fs_new, fs_next, fs_mk, fs_H, le_app, le_set, app_get, app_set, app_get0c, app_getkc, app_set0c, app_setkc, List.append_assoc, not_false_eq_true, not_true_eq_false, retE_ret, retP_ret, List.length_append, List.length_set, Nat.le_succ, hpS, bxS, arS, stP hs hr hne, retD_ret, retD_normal, AV.bel, mapN_len, hT, hl0, hle, Int.zero_add, Nat.zero_add, hltI, hn1, hn2, w1, hin2, hs1, hs2, f1, f2, f3, List.length_map, kidI_len, emb_solid, emb_bel, emb_cells, implies_true, bne_self_eq_false, beq_self_eq_true]
            all_goals exact stJ_take hbs' hbr' hl0 hHt
        · simp only [List.drop_succ_cons, List.drop_zero, List.cons_append, List.nil_append]
          have hq1 : (vs.take (i + 1)).length = i + 1 := by simp; omega
          have hq2 : (l.take (i + 1)).length = i + 1 := by simp; omega
          have a1 := all_int1 (kidI (vs.take (i + 1)))
          have a2 := all_int1 (kidI ((l.take (i + 1)).map kn5))
          have r1 : (i + 1 + 1 ≤ 9223372036854775807) = True := by simp only [eq_iff_iff, iff_true]; omega
          have r2 : ((i + 1 + 1) * 8 ≤ 140737488355328) = True := by simp only [eq_iff_iff, iff_true]; omega
          by_cases hlt : i + 1 < vs.length
          · by_cases hlt2 : i + 1 < l.length
            · have hgl : (l.map I64).getD (i + 1) .any = .int .i64 (l.getD (i + 1) 0) := by simp [hlt2, I64]
              have hk := kn5_ok (l.getD (i + 1) 0)
              have e1 := kidI_take hlt
              have e2 := knI_take hlt2
              have hmx : vs.length ≤ maxLen := by rw [maxLen_val]; omega
              have h := True.intro
              repeat' (first
               | (with_reducible first | refine goIf_b ?_ ?_ | refine goIf_n ?_ ?_ | refine goIf_d ?_ ?_ | refine goIf_split ?_ ?_ | refine goGb_b ?_ ?_ | refine goGb_n ?_ ?_ | refine goGb_d ?_ ?_ | refine goGb_split ?_ ?_ | refine goDGb_b ?_ ?_ | refine goDGb_n ?_ ?_ | refine goDGb_d ?_ ?_ | refine goDGb_split ?_ ?_) <;> intro h
               | ((first | refine goCall_norm ?_ | refine goDCall_norm ?_); simp only [AV.norm, AV.normL, W2, hpS, bxS, arS, stP hs hr hne, retD_ret, retD_normal, AV.bel, mapN_len, hT, hl0, hle, hlt, hlt2, hgl, hq1, hq2, a1, a2, r1, r2, List.length_map, kidI_len, kidI_get hlt]; first | refine goCall_p (hk) (.inl rfl) ?_ | refine goDCall_p (hk) (.inl rfl) ?_)
               | refine go_drawF (id := 29) C_ok mixed 0 Try.f6.ntmps (by first | (simp; done) | (simp; omega)) rfl (by kernel_rfl) (by decide) ?_
               | skip) <;> simp only [h, ↓upd_eq, ↓envL_cons, Go.Ab.W0, Go.Ab.WD, if_true, if_false, reduceIte, Nat.reduceEqDiff, Nat.reduceAdd, Nat.reduceLT, Nat.reduceLeDiff, reduceCtorEq, Nat.reduceMul, implies_true, forall_eq_or_imp, forall_eq, Nat.reducePow, W1, fs_frz, fs_frz0, fs_env, fs_b, fs_n, fs_put, fs_put0, fs_tmp, fs_const, fs_func, fs_obj, fs_setObj, fs_new, fs_next, fs_mk, fs_H, le_app, le_set, app_get, app_set, app_get0c, app_getkc, app_set0c, app_setkc, List.append_assoc, not_false_eq_true, not_true_eq_false, retE_ret, retP_ret, List.length_append, List.length_set, Nat.le_succ, hpS, bxS, arS, stP hs hr hne, retD_ret, retD_normal, AV.bel, mapN_len, hT, hl0, hle, hlt, hlt2, hgl, hq1, hq2, a1, a2, r1, r2, List.length_map, kidI_len, kidI_get hlt]
              refine ⟨i + 1 + 1, ⟨by omega, by omega⟩, by omega, weakF rfl ?_⟩
              simp only [List.cons_append, List.nil_append, List.forall_mem_cons, mem_nil_all, frz_app, ↓upd_eq, ↓envL_cons, Nat.reduceEqDiff, if_true, if_false, reduceIte, true_and, and_true, and_self, true_or, or_true, implies_true, List.not_mem_nil, false_implies, AV.bel, AV.belL, AObj.bel, AV.norm, AV.normL, Bool.and_true, Bool.true_and, decide_true, decide_eq_true_eq, List.length_cons, List.length_nil, Nat.zero_add, Nat.reduceAdd, Nat.lt_add_one, Nat.lt_add_right_iff_pos, Nat.zero_lt_succ, Nat.zero_lt_one, Nat.reduceLT, List.take_succ_cons, List.take_zero, e1, e2, wrap_succ hlt hmx]
            · obtain ⟨⟨s3, t3⟩, v4, L4, c4, m, s4, len4, cge, cle, hm4, hn4, t4, r4, tm4, hK0, qc⟩ := cp_use s2 (by omega) hx hxn (by omega) hrn hinn (by omega) hvs hvnd hc1' (K := i + 1) (by omega) (ks := (l.take (i + 1)).map kn5) (by simp; try omega) (fun k hk => by obtain ⟨y, _, rfl⟩ := List.mem_map.1 hk; exact (kn5_spec y).2)
                (F := G ++ [.map (embM Z1), .tok (i + 1 + 1) 1, .tok (i + 1 + 1) 1, .box [.int .i64 x.ty.kind, .int .i64 x.ty.num, .sl (x.ty.kids.map emb) .no]]) (s := s) (r := r) (v := v1 + 1) (lt_app hs) (lt_app hr) hne
              have l3 : (L2 ++ [varN 9]).length = L2.length + 1 := by simp
              have qput := put12_ok (fr := vs.take (i + 1) ++ [L2.length]) (tt := (l.take (i + 1)).map kn5 ++ [0]) (by simp; try omega) (by simp) (by simp <;> omega) (fun t ht => by
                rcases List.mem_append.1 ht with ht | ht
                · obtain ⟨y, _, rfl⟩ := List.mem_map.1 ht; exact (kn5_spec y).2
                · simp only [List.mem_singleton] at ht; omega) x
              have hn1 : AV.normL ((kidI (vs.take (i + 1) ++ [L2.length])).map I64) = (kidI (vs.take (i + 1) ++ [L2.length])).map I64 := ints_norm _
              have hn2 : AV.normL ((kidI ((l.take (i + 1)).map kn5 ++ [0])).map I64) = (kidI ((l.take (i + 1)).map kn5 ++ [0])).map I64 := ints_norm _
              have qv := fun F hs hr => var_ok (F := F) (s := s) (r := r) (v := v1) (L := L2) (lim := 65536) (cnt := c1) (rd := 1) hs hr hne 9 (by omega) (by rw [beq_eq_false_iff_ne]; omega) (by omega) (by omega)
              have q1 := fun F hs hr => read_gen (F := F) (s := s) (r := r) (v := v1 + 1) (L := L2 ++ [varN 9]) (lim := 65536) (cnt := c1 + 1) (rd := 1) hs hr hne s3.wf n (by omega) ⟨by omega, by omega, by omega⟩
              rw [t3] at q1
              simp only [if_pos (show (nodes x.ty : Int) ≤ 65536 - (c1 + 1) by omega)] at q1
              have q2 := fun F hs hr => read_gen (F := F) (s := s) (r := r) (v := v4) (L := L4) (lim := 65536) (cnt := c4) (rd := 2) hs hr hne s4.wf n hn4 ⟨by omega, by omega, by omega⟩
              rw [t4] at q2
              simp only [if_pos (show (nodes x.ty : Int) ≤ 65536 - c4 by omega)] at q2
              have q3 := fun F hs hr => read_gen (F := F) (s := s) (r := r) (v := v4) (L := L4) (lim := 65536) (cnt := c4 + nodes x.ty) (rd := 2) hs hr hne s4.wf m hm4 ⟨by omega, by omega, by omega⟩
              rw [tm4] at q3
              have hsn := sb_nodes (toM (vs.take (i + 1) ++ [L2.length]) ((l.take (i + 1)).map kn5 ++ [0])) x
              simp only [if_pos (show (nodes (sbT (fPut (toM (vs.take (i + 1) ++ [L2.length]) ((l.take (i + 1)).map kn5 ++ [0]))) x.ty) : Int) ≤ 65536 - (c4 + nodes x.ty) by omega)] at q3
              have q4 := fun (cc : Int) F hs hr => root_in (F := F) (s := s) (r := r) (v := v4) (L := L4) (lim := 65536) (cnt := cc) (rd := 2) hs hr hne s4.wf n hn4
              rw [r4] at q4
              have hs1 := same_refl x.ty
              have hs2 := same_refl (sbT (fPut (toM (vs.take (i + 1) ++ [L2.length]) ((l.take (i + 1)).map kn5 ++ [0]))) x.ty)
              clear tm4 t4 t3 s3 s4
              generalize sbT (fPut (toM (vs.take (i + 1) ++ [L2.length]) ((l.take (i + 1)).map kn5 ++ [0]))) x.ty = X at *
              simp only [kidI_app, Int.natCast_zero] at qc qput hn1 hn2
              try simp only [kidI_app] at qc qput hn1 hn2
              generalize L2 ++ [varN 9] = L3 at *
              have w1 : IntKind.wrap .i64 (c4 - (c1 + 1 + nodes x.ty)) = c4 - (c1 + 1 + nodes x.ty) := wrap_i (by omega) (by omega)
              have hin2 : ((t.inner : Int) < c4 - (c1 + 1 + nodes x.ty)) = False := by simp only [eq_iff_iff, iff_false]; omega
              have f1 : (((i + 1 + 1 : Nat) : Int) == 1) = false := by rw [beq_eq_false_iff_ne]; omega
              have f2 : True := trivial
              have f3 : True := trivial
              have h := True.intro
              repeat' (first
               | (with_reducible first | refine goIf_b ?_ ?_ | refine goIf_n ?_ ?_ | refine goIf_d ?_ ?_ | refine goIf_split ?_ ?_ | refine goGb_b ?_ ?_ | refine goGb_n ?_ ?_ | refine goGb_d ?_ ?_ | refine goGb_split ?_ ?_ | refine goDGb_b ?_ ?_ | refine goDGb_n ?_ ?_ | refine goDGb_d ?_ ?_ | refine goDGb_split ?_ ?_) <;> intro h
               | ((first | refine goCall_norm ?_ | refine goDCall_norm ?_); simp only [AV.norm, AV.normL, W2, hpS, bxS, arS, stP hs hr hne, retD_ret, retD_normal, AV.bel, mapN_len, hT, hl0, hle, hlt, hlt2, hq1, hq2, a1, a2, r1, r2, hn1, hn2, w1, hin2, hs1, hs2, f1, f2, f3, List.length_map, kidI_len, emb_solid, emb_bel, emb_cells, implies_true, bne_self_eq_false, beq_self_eq_true]; first | refine goCall_p (ksame_ok _ _) (.inl rfl) ?_ | refine goCall_p (hin) (.inl rfl) ?_ | refine goCall_p (qput) (.inl rfl) ?_ | refine goCall_p (wakes12_ok) (.inl rfl) ?_ | refine goDCall_p (ksame_ok _ _) (.inl rfl) ?_ | refine goDCall_p (hin) (.inl rfl) ?_ | refine goDCall_p (qput) (.inl rfl) ?_ | refine goDCall_p (wakes12_ok) (.inl rfl) ?_ | refine fsCallD (qv _ (by first | exact hs | exact lt_app hs | exact lt_app (lt_set hs) | exact lt_set hs) (by first | exact hr | exact lt_app hr | exact lt_app (lt_set hr) | exact lt_set hr)) (.inl rfl) (fun hb => hpS_bel (by first | exact hs | exact lt_app hs | exact lt_app (lt_set hs) | exact lt_set hs) (by first | exact hr | exact lt_app hr | exact lt_app (lt_set hr) | exact lt_set hr) hne hb) ?_ | refine fsCallD (q1 _ (by first | exact hs | exact lt_app hs | exact lt_app (lt_set hs) | exact lt_set hs) (by first | exact hr | exact lt_app hr | exact lt_app (lt_set hr) | exact lt_set hr)) (.inl rfl) (fun hb => hpS_bel (by first | exact hs | exact lt_app hs | exact lt_app (lt_set hs) | exact lt_set hs) (by first | exact hr | exact lt_app hr | exact lt_app (lt_set hr) | exact lt_set hr) hne hb) ?_ | refine fsCallR (scount_ok (by first | exact hs | exact lt_app hs | exact lt_app (lt_set hs) | exact lt_set hs) (by first | exact hr | exact lt_app hr | exact lt_app (lt_set hr) | exact lt_set hr) hne) (.inl rfl) ?_ | refine fsCallD (qc) (.inl rfl) (fun hb => belJ hs hr hne hl0 hb) ?_ | refine fsCallD (q2 _ (by first | exact hs | exact lt_app hs | exact lt_app (lt_set hs) | exact lt_set hs) (by first | exact hr | exact lt_app hr | exact lt_app (lt_set hr) | exact lt_set hr)) (.inl rfl) (fun hb => hpS_bel (by first | exact hs | exact lt_app hs | exact lt_app (lt_set hs) | exact lt_set hs) (by first | exact hr | exact lt_app hr | exact lt_app (lt_set hr) | exact lt_set hr) hne hb) ?_ | refine fsCallD (q3 _ (by first | exact hs | exact lt_app hs | exact lt_app (lt_set hs) | exact lt_set hs) (by first | exact hr | exact lt_app hr | exact lt_app (lt_set hr) | exact lt_set hr)) (.inl rfl) (fun hb => hpS_bel (by first | exact hs | exact lt_app hs | exact lt_app (lt_set hs) | exact lt_set hs) (by first | exact hr | exact lt_app hr | exact lt_app (lt_set hr) | exact lt_set hr) hne hb) ?_ | refine fsCallR (q4 _ _ (by first | exact hs | exact lt_app hs | exact lt_app (lt_set hs) | exact lt_set hs) (by first | exact hr | exact lt_app hr | exact lt_app (lt_set hr) | exact lt_set hr)) (.inl rfl) ?_)
               | refine go_drawF (id := 29) C_ok mixed 0 Try.f6.ntmps (by first | (simp; done) | (simp; omega)) rfl (by kernel_rfl) (by decide) ?_
               | skip) <;> simp only [h, ↓upd_eq, ↓envL_cons, Go.Ab.W0, Go.Ab.WD, if_true, if_false, reduceIte, Nat.reduceEqDiff, Nat.reduceAdd, Nat.reduceLT, Nat.reduceLeDiff, reduceCtorEq, Nat.reduceMul, implies_true, forall_eq_or_imp, forall_eq, Nat.reducePow, W1, fs_frz, fs_frz0, fs_env, fs_b, fs_n, fs_put, fs_put0, fs_tmp, fs_const, fs_func, fs_obj, fs_setObj, fs_new, fs_next, fs_mk, fs_H, le_app, le_set, app_get, app_set, app_get0c, app_getkc, app_set0c, app_setkc, List.append_assoc, not_false_eq_true, not_true_eq_false, retE_ret, retP_ret, List.length_append, List.length_set, Nat.le_succ, hpS, bxS, arS, stP hs hr hne, retD_ret, retD_normal, AV.bel, mapN_len, hT, hl0, hle, hlt, hlt2, hq1, hq2, a1, a2, r1, r2, hn1, hn2, w1, hin2, hs1, hs2, f1, f2, f3, List.length_map, kidI_len, emb_solid, emb_bel, emb_cells, implies_true, bne_self_eq_false, beq_self_eq_true]
              all_goals exact stJ_take hbs' hbr' hl0 hHt
          · obtain ⟨⟨s3, t3⟩, v4, L4, c4, m, s4, len4, cge, cle, hm4, hn4, t4, r4, tm4, hK0, qc⟩ := cp_use s2 (by omega) hx hxn (by omega) hrn hinn (by omega) hvs hvnd hc1' (K := i + 1) (by omega) (ks := (l.take (i + 1)).map kn5) (by simp; try omega) (fun k hk => by obtain ⟨y, _, rfl⟩ := List.mem_map.1 hk; exact (kn5_spec y).2)
              (F := G ++ [.map (embM Z1), .tok (i + 1 + 1) 1, .tok (i + 1 + 1) 1, .box [.int .i64 x.ty.kind, .int .i64 x.ty.num, .sl (x.ty.kids.map emb) .no]]) (s := s) (r := r) (v := v1 + 1) (lt_app hs) (lt_app hr) hne
            have l3 : (L2 ++ [varN 9]).length = L2.length + 1 := by simp
            have qput := put12_ok (fr := vs.take (i + 1) ++ [L2.length]) (tt := (l.take (i + 1)).map kn5 ++ [0]) (by simp; try omega) (by simp) (by simp <;> omega) (fun t ht => by
              rcases List.mem_append.1 ht with ht | ht
              · obtain ⟨y, _, rfl⟩ := List.mem_map.1 ht; exact (kn5_spec y).2
              · simp only [List.mem_singleton] at ht; omega) x
            have hn1 : AV.normL ((kidI (vs.take (i + 1) ++ [L2.length])).map I64) = (kidI (vs.take (i + 1) ++ [L2.length])).map I64 := ints_norm _
            have hn2 : AV.normL ((kidI ((l.take (i + 1)).map kn5 ++ [0])).map I64) = (kidI ((l.take (i + 1)).map kn5 ++ [0])).map I64 := ints_norm _
            have qv := fun F hs hr => var_ok (F := F) (s := s) (r := r) (v := v1) (L := L2) (lim := 65536) (cnt := c1) (rd := 1) hs hr hne 9 (by omega) (by rw [beq_eq_false_iff_ne]; omega) (by omega) (by omega)
            have q1 := fun F hs hr => read_gen (F := F) (s := s) (r := r) (v := v1 + 1) (L := L2 ++ [varN 9]) (lim := 65536) (cnt := c1 + 1) (rd := 1) hs hr hne s3.wf n (by omega) ⟨by omega, by omega, by omega⟩
            rw [t3] at q1
            simp only [if_pos (show (nodes x.ty : Int) ≤ 65536 - (c1 + 1) by omega)] at q1
            have q2 := fun F hs hr => read_gen (F := F) (s := s) (r := r) (v := v4) (L := L4) (lim := 65536) (cnt := c4) (rd := 2) hs hr hne s4.wf n hn4 ⟨by omega, by omega, by omega⟩
            rw [t4] at q2
            simp only [if_pos (show (nodes x.ty : Int) ≤ 65536 - c4 by omega)] at q2
            have q3 := fun F hs hr => read_gen (F := F) (s := s) (r := r) (v := v4) (L := L4) (lim := 65536) (cnt := c4 + nodes x.ty) (rd := 2) hs hr hne s4.wf m hm4 ⟨by omega, by omega, by omega⟩
            rw [tm4] at q3
            have hsn := sb_nodes (toM (vs.take (i + 1) ++ [L2.length]) ((l.take (i + 1)).map kn5 ++ [0])) x
            simp only [if_pos (show (nodes (sbT (fPut (toM (vs.take (i + 1) ++ [L2.length]) ((l.take (i + 1)).map kn5 ++ [0]))) x.ty) : Int) ≤ 65536 - (c4 + nodes x.ty) by omega)] at q3
            have q4 := fun (cc : Int) F hs hr => root_in (F := F) (s := s) (r := r) (v := v4) (L := L4) (lim := 65536) (cnt := cc) (rd := 2) hs hr hne s4.wf n hn4
            rw [r4] at q4
            have hs1 := same_refl x.ty
            have hs2 := same_refl (sbT (fPut (toM (vs.take (i + 1) ++ [L2.length]) ((l.take (i + 1)).map kn5 ++ [0]))) x.ty)
            clear tm4 t4 t3 s3 s4
            generalize sbT (fPut (toM (vs.take (i + 1) ++ [L2.length]) ((l.take (i + 1)).map kn5 ++ [0]))) x.ty = X at *
            simp only [kidI_app, Int.natCast_zero] at qc qput hn1 hn2
            try simp only [kidI_app] at qc qput hn1 hn2
            generalize L2 ++ [varN 9] = L3 at *
            have w1 : IntKind.wrap .i64 (c4 - (c1 + 1 + nodes x.ty)) = c4 - (c1 + 1 + nodes x.ty) := wrap_i (by omega) (by omega)
            have hin2 : ((t.inner : Int) < c4 - (c1 + 1 + nodes x.ty)) = False := by simp only [eq_iff_iff, iff_false]; omega
            have f1 : (((i + 1 + 1 : Nat) : Int) == 1) = false := by rw [beq_eq_false_iff_ne]; omega
            have f2 : True := trivial
            have f3 : True := trivial
            have h := True.intro
            repeat' (first
             | (with_reducible first | refine goIf_b ?_ ?_ | refine goIf_n ?_ ?_ | refine goIf_d ?_ ?_ | refine goIf_split ?_ ?_ | refine goGb_b ?_ ?_ | refine goGb_n ?_ ?_ | refine goGb_d ?_ ?_ | refine goGb_split ?_ ?_ | refine goDGb_b ?_ ?_ | refine goDGb_n ?_ ?_ | refine goDGb_d ?_ ?_ | refine goDGb_split ?_ ?_) <;> intro h
             | ((first | refine goCall_norm ?_ | refine goDCall_norm ?_); simp only [AV.norm, AV.normL, W2, hpS, bxS, arS, stP hs hr hne, retD_ret, retD_normal, AV.bel, mapN_len, hT, hl0, hle, hlt, hq1, hq2, a1, a2, r1, r2, hn1, hn2, w1, hin2, hs1, hs2, f1, f2, f3, List.length_map, kidI_len, emb_solid, emb_bel, emb_cells, implies_true, bne_self_eq_false, beq_self_eq_true]; first | refine goCall_p (ksame_ok _ _) (.inl rfl) ?_ | refine goCall_p (hin) (.inl rfl) ?_ | refine goCall_p (qput) (.inl rfl) ?_ | refine goCall_p (wakes12_ok) (.inl rfl) ?_ | refine goDCall_p (ksame_ok _ _) (.inl rfl) ?_ | refine goDCall_p (hin) (.inl rfl) ?_ | refine goDCall_p (qput) (.inl rfl) ?_ | refine goDCall_p (wakes12_ok) (.inl rfl) ?_ | refine fsCallD (qv _ (by first | exact hs | exact lt_app hs | exact lt_app (lt_set hs) | exact lt_set hs) (by first | exact hr | exact lt_app hr | exact lt_app (lt_set hr) | exact lt_set hr)) (.inl rfl) (fun hb => hpS_bel (by first | exact hs | exact lt_app hs | exact lt_app (lt_set hs) | exact lt_set hs) (by first | exact hr | exact lt_app hr | exact lt_app (lt_set hr) | exact lt_set hr) hne hb) ?_ | refine fsCallD (q1 _ (by first | exact hs | exact lt_app hs | exact lt_app (lt_set hs) | exact lt_set hs) (by first | exact hr | exact lt_app hr | exact lt_app (lt_set hr) | exact lt_set hr)) (.inl rfl) (fun hb => hpS_bel (by first | exact hs | exact lt_app hs | exact lt_app (lt_set hs) | exact lt_set hs) (by first | exact hr | exact lt_app hr | exact lt_app (lt_set hr) | exact lt_set hr) hne hb) ?_ | refine fsCallR (scount_ok (by first | exact hs | exact lt_app hs | exact lt_app (lt_set hs) | exact lt_set hs) (by first | exact hr | exact lt_app hr | exact lt_app (lt_set hr) | exact lt_set hr) hne) (.inl rfl) ?_ | refine fsCallD (qc) (.inl rfl) (fun hb => belJ hs hr hne hl0 hb) ?_ | refine fsCallD (q2 _ (by first | exact hs | exact lt_app hs | exact lt_app (lt_set hs) | exact lt_set hs) (by first | exact hr | exact lt_app hr | exact lt_app (lt_set hr) | exact lt_set hr)) (.inl rfl) (fun hb => hpS_bel (by first | exact hs | exact lt_app hs | exact lt_app (lt_set hs) | exact lt_set hs) (by first | exact hr | exact lt_app hr | exact lt_app (lt_set hr) | exact lt_set hr) hne hb) ?_ | refine fsCallD (q3 _ (by first | exact hs | exact lt_app hs | exact lt_app (lt_set hs) | exact lt_set hs) (by first | exact hr | exact lt_app hr | exact lt_app (lt_set hr) | exact lt_set hr)) (.inl rfl) (fun hb => hpS_bel (by first | exact hs | exact lt_app hs | exact lt_app (lt_set hs) | exact lt_set hs) (by first | exact hr | exact lt_app hr | exact lt_app (lt_set hr) | exact lt_set hr) hne hb) ?_ | refine fsCallR (q4 _ _ (by first | exact hs | exact lt_app hs | exact lt_app (lt_set hs) | exact lt_set hs) (by first | exact hr | exact lt_app hr | exact lt_app (lt_set hr) | exact lt_set hr)) (.inl rfl) ?_)
             | refine go_drawF (id := 29) C_ok mixed 0 Try.f6.ntmps (by first | (simp; done) | (simp; omega)) rfl (by kernel_rfl) (by decide) ?_
             | skip) <;> simp only [h, ↓upd_eq, ↓envL_cons, Go.Ab.W0, Go.Ab.WD, if_true, if_false, reduceIte, Nat.reduceEqDiff, Nat.reduceAdd, Nat.reduceLT, Nat.reduceLeDiff, reduceCtorEq, Nat.reduceMul, implies_true, forall_eq_or_imp, forall_eq, Nat.reducePow, W1, fs_frz, fs_frz0, fs_env, fs_b, fs_n, fs_put, fs_put0, fs_tmp, fs_const, fs_func, fs_obj, fs_setObj, fs_new, fs_next, fs_mk, fs_H, le_app, le_set, app_get, app_set, app_get0c, app_getkc, app_set0c, app_setkc, List.append_assoc, not_false_eq_true, not_true_eq_false, retE_ret, retP_ret, List.length_append, List.length_set, Nat.le_succ, hpS, bxS, arS, stP hs hr hne, retD_ret, retD_normal, AV.bel, mapN_len, hT, hl0, hle, hlt, hq1, hq2, a1, a2, r1, r2, hn1, hn2, w1, hin2, hs1, hs2, f1, f2, f3, List.length_map, kidI_len, emb_solid, emb_bel, emb_cells, implies_true, bne_self_eq_false, beq_self_eq_true]
            all_goals exact stJ_take hbs' hbr' hl0 hHt
    · refine pcalls_text C_ok Try.func6 rfl (by decide) (Nat.le_of_ble_eq_true rfl) (by decide) rfl fun ok H => ?_
      rw [Try.results6]
      have h := True.intro
      repeat' (first
       | (with_reducible first | refine goIf_b ?_ ?_ | refine goIf_n ?_ ?_ | refine goIf_d ?_ ?_ | refine goIf_split ?_ ?_ | refine goGb_b ?_ ?_ | refine goGb_n ?_ ?_ | refine goGb_d ?_ ?_ | refine goGb_split ?_ ?_ | refine goDGb_b ?_ ?_ | refine goDGb_n ?_ ?_ | refine goDGb_d ?_ ?_ | refine goDGb_split ?_ ?_) <;> intro h
       | ((first | refine goCall_norm ?_ | refine goDCall_norm ?_); simp only [AV.norm, AV.normL, W2, hv, hr0]; first | refine goCall_p (heavy1_ok _) (.inl rfl) ?_ | refine goCall_p (rright_ok _) (.inl rfl) ?_ | refine goDCall_p (heavy1_ok _) (.inl rfl) ?_ | refine goDCall_p (rright_ok _) (.inl rfl) ?_)
       | refine go_draw (id := 29) C_ok mixed 0 Try.f6.ntmps rfl (by kernel_rfl) (by decide) ?_
       | skip) <;> simp only [h, ↓upd_eq, ↓envL_cons, Go.Ab.W0, Go.Ab.WD, Go.Ab.WE, if_true, if_false, reduceIte, Nat.reduceEqDiff, Nat.reduceAdd, Nat.reduceLT, Nat.reduceLeDiff, reduceCtorEq, Nat.reduceMul, implies_true, forall_eq_or_imp, forall_eq, Nat.reducePow, W1, hv, hr0]

end Go.Proofs.Ytdngjamjccjlmaa
