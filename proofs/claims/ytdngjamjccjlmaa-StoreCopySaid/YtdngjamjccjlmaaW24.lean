/- Walks: the store: a copy with other nodes for variables. No condition. -/
import Derived.Test.YtdngjamjccjlmaaW23
set_option linter.unusedSimpArgs false
set_option linter.unusedVariables false
set_option maxHeartbeats 4000000
set_option maxRecDepth 100000
namespace Go.Proofs.Ytdngjamjccjlmaa
open Go Go.Ab
attribute [local irreducible] PCalls ACalls CallK GoCall GoDCall GoIf GoGb GoDGb GoO GoD GoX GoDX GoG GoDG GoGv GoDGv Go ALoop

def toM (fr tt : List Nat) : List (Int × Int) := (fr.zip tt).map fun p => ((p.1 : Int), (p.2 : Int))
theorem toM_keys (fr tt : List Nat) (h : fr.length = tt.length) : (toM fr tt).map Prod.fst = kidI fr := by
  simp only [toM, kidI, List.map_map]
  have e : (Prod.fst ∘ fun p : Nat × Nat => ((p.1 : Int), (p.2 : Int))) = (fun k : Nat => (k : Int)) ∘ Prod.fst := rfl
  rw [e, ← List.map_map, List.map_fst_zip (by omega)]
theorem toM_get {fr tt : List Nat} (h : fr.length = tt.length) {k x : Int} (hg : mget (toM fr tt) k = some x) : ∃ i, i < fr.length ∧ k = (fr.getD i 0 : Nat) ∧ x = (tt.getD i 0 : Nat) := by
  have : ∀ (Z : List (Int × Int)), mget Z k = some x → (k, x) ∈ Z := by
    intro Z
    induction Z with
    | nil => intro h; cases h
    | cons p Z ih =>
      obtain ⟨a, b⟩ := p
      intro h
      rw [mget] at h
      split at h
      · rename_i e; cases h; subst e; exact List.mem_cons_self
      · exact List.mem_cons_of_mem _ (ih h)
  have hm := this _ hg
  obtain ⟨p, hp, e⟩ := List.mem_map.1 hm
  obtain ⟨i, hi, rfl⟩ := List.mem_iff_getElem.1 hp
  simp only [List.length_zip] at hi
  simp only [List.getElem_zip, Prod.mk.injEq] at e
  exact ⟨i, by omega, by rw [← e.1]; simp [show i < fr.length by omega], by rw [← e.2]; simp [show i < tt.length by omega]⟩
theorem toM_step {fr tt : List Nat} (h : fr.length = tt.length) (hn : fr.Nodup) {i : Nat} (hi : i < fr.length) :
    mget (toM (fr.take i) (tt.take i)) (fr.getD i 0 : Nat) = none ∧ mput (toM (fr.take i) (tt.take i)) (fr.getD i 0 : Nat) (tt.getD i 0 : Nat) = toM (fr.take (i + 1)) (tt.take (i + 1)) := by
  have h1 : mget (toM (fr.take i) (tt.take i)) (fr.getD i 0 : Nat) = none := by
    refine Option.not_isSome_iff_eq_none.1 fun hs => ?_
    have hk := (mget_key _ _).1 hs
    rw [toM_keys _ _ (by simp; omega)] at hk
    have hk := mem_kidI.1 hk
    obtain ⟨j, hj, e⟩ := List.mem_iff_getElem.1 hk
    simp only [List.length_take] at hj
    rw [List.getElem_take] at e
    have e2 : fr.getD i 0 = fr[i] := by simp [hi]
    rw [e2] at e
    have e3 := hn.idxOf_getElem i hi
    rw [← e, hn.idxOf_getElem j (by omega)] at e3
    omega
  refine ⟨h1, ?_⟩
  rw [mput_new _ _ _ h1]
  have hi2 : i < tt.length := by omega
  simp only [toM, List.take_add_one, List.getElem?_eq_getElem hi, List.getElem?_eq_getElem hi2, Option.toList_some]
  rw [List.zip_append (by simp; omega), List.map_append]
  simp [hi, hi2]
def cntH (S : St) (to : List (Int × Int)) (ks : List Nat) : Nat := ks.countP fun x => decide (S.kind x ≠ 6) && hld S to x
section
variable {s r v c m1 m2 m3 : Nat} {L : Mem} {lim cnt rd : Int} {S : St} {to : List (Int × Int)}
theorem holdL (hS : Sm S L) (h12 : m1 ≠ m2) : ∀ (ks : List Nat), (∀ k ∈ ks, k < S.length ∧ S.root k = k) → ∀ Z, VH S to Z → ∃ Zs : Nat → List (Int × Int), Zs 0 = Z ∧ (∀ i, i ≤ ks.length → VH S to (Zs i)) ∧
    ∀ i, i < ks.length → (S.kind (ks.getD i 0) = 6 → Zs (i + 1) = Zs i) ∧ (S.kind (ks.getD i 0) ≠ 6 → ∀ F : List AObj, F[c]? = some (cpB s m1 m2 m3) → F[s]? = some (bxS r v L.length lim cnt rd) → F[r]? = some (arS v L) → F[m1]? = some (.map (embM to)) → F[m2]? = some (.map (embM (Zs i))) →
      DCalls Try.prog 92 [.bptr c 0, .int .i64 (ks.getD i 0 : Nat)] F (.bool (hld S to (ks.getD i 0))) (F.set m2 (.map (embM (Zs (i + 1))))))
  | [], _, Z, hZ => ⟨fun _ => Z, rfl, fun _ _ => hZ, fun i hi => by simp at hi⟩
  | k :: ks, h, Z, hZ => by
    obtain ⟨hk, hr⟩ := h k List.mem_cons_self
    obtain ⟨Z1, hZ1, q1⟩ := hold_ok (s := s) (r := r) (v := v) (c := c) (m1 := m1) (m2 := m2) (m3 := m3) (L := L) (lim := lim) (cnt := cnt) (rd := rd) (to := to) hS h12 k hk Z hZ
    rw [hr] at q1
    have hZ2 : VH S to (if S.kind k = 6 then Z else Z1) := by split; exact hZ; exact hZ1
    obtain ⟨Zs, e0, e1, e2⟩ := holdL hS h12 ks (fun x hx => h x (List.mem_cons_of_mem _ hx)) _ hZ2
    refine ⟨fun i => match i with | 0 => Z | i + 1 => Zs i, rfl, fun i hi => ?_, fun i hi => ?_⟩
    · cases i with
      | zero => exact hZ
      | succ i => exact e1 i (by simpa using hi)
    · cases i with
      | zero =>
        refine ⟨fun h6 => ?_, fun h6 => ?_⟩
        · have h6 : S.kind k = 6 := h6
          simp only [e0, if_pos h6]
        · have h6 : ¬ S.kind k = 6 := h6
          simp only [e0, if_neg h6]
          exact q1
      | succ i => exact e2 i (by simpa using hi)
end
section
variable {F : List AObj} {s r v : Nat} {L : Mem} {lim cnt rd : Int}
theorem locD {J : List AObj} (hs : s < F.length) (hr : r < F.length) (hne : r ≠ s) (hJ : 4 ≤ J.length) : SixD (F ++ J) s r (F.length + 3) F.length (F.length + 1) (F.length + 2) :=
  ⟨by simp; omega, by simp; omega, by simp; omega, by simp; omega, by simp; omega, by simp; omega, ⟨fun e => hne e.symm, by omega, by omega, by omega, by omega⟩, ⟨by omega, by omega, by omega, by omega⟩, ⟨by omega, by omega, by omega⟩, by omega, by omega, by omega⟩
/-- The four new objects. -/
def cpJ (F : List AObj) (s : Nat) (to Z M : List (Int × Int)) : List AObj := [.map (embM to), .map (embM Z), .map (embM M), .box [.bptr s 0, .mp F.length, .mp (F.length + 1), .mp (F.length + 2)]]
theorem hpC_loc (hs : s < F.length) (hr : r < F.length) {to Z M to' Z' M' : List (Int × Int)} : hpC (F ++ cpJ F s to' Z' M') s r (F.length + 3) F.length (F.length + 1) (F.length + 2) v L lim cnt rd to Z M = hpS (F ++ cpJ F s to Z M) s r v L lim cnt rd := by
  unfold hpC six hpS cpJ cpB
  congr 1
  rw [app_setkc rfl, app_set0c rfl, app_setkc rfl, app_setkc rfl]
  rfl
theorem copy_done (hs : s < F.length) (hr : r < F.length) (hne : r ≠ s) (hSI : SI L rd) (hL : L.length + inn L.st ≤ 1000000) (hrd : rd ≤ 1000000000) (hc : 0 ≤ cnt) (hlim : lim ≤ 65536) (hcnt : cnt ≤ lim) (n : Nat) (hn : n < L.length) {fr tt : List Nat} (hl : fr.length = tt.length) (hfl : fr.length ≤ 1000000) (hnd : fr.Nodup)
    (hfr : ∀ f ∈ fr, f < L.length ∧ L.st.root f = f ∧ L.st.kind f = 6) (htt : ∀ t ∈ tt, t < L.length) {Zs : Nat → List (Int × Int)} (hz0 : Zs 0 = [])
    (hzs : ∀ i, i < (L.st.all n).length → (L.st.kind ((L.st.all n).getD i 0) = 6 → Zs (i + 1) = Zs i) ∧ (L.st.kind ((L.st.all n).getD i 0) ≠ 6 → ∀ G : List AObj, G[F.length + 3]? = some (cpB s F.length (F.length + 1) (F.length + 2)) → G[s]? = some (bxS r v L.length lim cnt (rd + 1)) → G[r]? = some (arS v (mkL L (rd + 1) (L.st.all n))) → G[F.length]? = some (.map (embM (toM fr tt))) → G[F.length + 1]? = some (.map (embM (Zs i))) →
      DCalls Try.prog 92 [.bptr (F.length + 3) 0, .int .i64 ((L.st.all n).getD i 0 : Nat)] G (.bool (hld L.st (toM fr tt) ((L.st.all n).getD i 0))) (G.set (F.length + 1) (.map (embM (Zs (i + 1)))))))
    (hk : (cntH L.st (toM fr tt) (L.st.all n) : Int) ≤ lim - cnt) {v' : Nat} {L' : Mem} {cnt' : Int} {Z' M' : List (Int × Int)} {m : Nat}
    (hcp : ∀ G : List AObj, SixD G s r (F.length + 3) F.length (F.length + 1) (F.length + 2) → DCalls Try.prog 93 [.bptr (F.length + 3) 0, .int .i64 n] (hpC G s r (F.length + 3) F.length (F.length + 1) (F.length + 2) v (mkL L (rd + 1) (L.st.all n)) lim cnt (rd + 1) (toM fr tt) (Zs (L.st.all n).length) []) (.int .i64 m) (hpC G s r (F.length + 3) F.length (F.length + 1) (F.length + 2) v' L' lim cnt' (rd + 1) (toM fr tt) Z' M')) :
    DCalls Try.prog 38 [.bptr s 0, .int .i64 n, .sl ((kidI fr).map I64) .no, .sl ((kidI tt).map I64) .no] (hpS F s r v L lim cnt rd) (.tup [.int .i64 m, .int .i64 0]) (hpS F s r v' L' lim cnt' (rd + 1)) := by
  have q1 := fun F hs hr => is_yes (F := F) (s := s) (r := r) (v := v) (L := L) (lim := lim) (cnt := cnt) (rd := rd) hs hr hne hn
  unfold DCalls
  refine acallsD_text C_ok Try.func38 rfl (by decide) (Nat.le_of_ble_eq_true rfl) (by decide) fun ok => ?_
  rw [Try.results38]
  have h := True.intro
  repeat' (first
   | (with_reducible first | refine goIf_b ?_ ?_ | refine goIf_n ?_ ?_ | refine goIf_d ?_ ?_ | refine goIf_split ?_ ?_ | refine goGb_b ?_ ?_ | refine goGb_n ?_ ?_ | refine goGb_d ?_ ?_ | refine goGb_split ?_ ?_ | refine goDGb_b ?_ ?_ | refine goDGb_n ?_ ?_ | refine goDGb_d ?_ ?_ | refine goDGb_split ?_ ?_) <;> intro h
   | ((first | refine goCall_norm ?_ | refine goDCall_norm ?_); simp only [AV.norm, AV.normL, W2, hpS, bxS, arS, stP hs hr hne, retD_ret, retD_normal, AV.bel, mapN_len, kidI_len, List.length_map, hl, bne_self_eq_false]; first  | refine fsCallR (q1 _ (by first | exact hs | exact lt_app hs | exact lt_app (lt_set hs) | exact lt_set hs) (by first | exact hr | exact lt_app hr | exact lt_app (lt_set hr) | exact lt_set hr)) (.inl rfl) ?_)
   | refine go_drawF (id := 13) C_ok mixed 0 Try.f38.ntmps (by first | (simp; done) | (simp; omega)) rfl (by kernel_rfl) (by decide) ?_
   | refine go_drawF (id := 22) C_ok mixed 0 Try.f38.ntmps (by first | (simp; done) | (simp; omega)) rfl (by kernel_rfl) (by decide) ?_
   | skip) <;> simp only [h, ↓upd_eq, ↓envL_cons, Go.Ab.W0, Go.Ab.WD, if_true, if_false, reduceIte, Nat.reduceEqDiff, Nat.reduceAdd, Nat.reduceLT, Nat.reduceLeDiff, reduceCtorEq, Nat.reduceMul, implies_true, forall_eq_or_imp, forall_eq, Nat.reducePow, W1, fs_frz, fs_frz0, fs_env, fs_b, fs_n, fs_put, fs_put0, fs_tmp, fs_const, fs_func, fs_obj, fs_setObj, fs_new, fs_next, fs_mk, fs_H, le_app, le_set, app_get, app_set, app_get0c, app_getkc, app_set0c, app_setkc, List.append_assoc, not_false_eq_true, not_true_eq_false, retE_ret, retP_ret, List.length_append, List.length_set, Nat.le_succ, hpS, bxS, arS, stP hs hr hne, retD_ret, retD_normal, AV.bel, mapN_len, kidI_len, List.length_map, hl, bne_self_eq_false]
  refine aloop_trimF [38, 0, 1, 3, 10, 36, 37] ?_
  simp only [List.map_cons, List.map_nil, ↓upd_eq, ↓envL_cons, Go.Ab.W0, Go.Ab.WD, if_true, if_false, reduceIte, Nat.reduceEqDiff, Nat.reduceAdd, Nat.reduceLT, Nat.reduceLeDiff, reduceCtorEq, Nat.reduceMul, implies_true, forall_eq_or_imp, forall_eq, Nat.reducePow, W1, fs_frz, fs_frz0, fs_env, fs_b, fs_n, fs_put, fs_put0, fs_tmp, fs_const, fs_func, fs_obj, fs_setObj, fs_new, fs_next, fs_mk, fs_H, le_app, le_set, app_get, app_set, app_get0c, app_getkc, app_set0c, app_setkc, List.append_assoc, not_false_eq_true, not_true_eq_false, retE_ret, retP_ret, List.length_append, List.length_set, Nat.le_succ]
  have hl0 : F.length ≤ F.length := Nat.le_refl _
  have hmx : fr.length ≤ maxLen := by rw [maxLen_val]; omega
  refine goLoopF 1 (fun i : Nat => [(38, .int .i64 i)]) (fun i => hpS (F ++ [.map (embM (toM (fr.take i) (tt.take i))), .map [], .map [], .box [.bptr s 0, .mp F.length, .mp (F.length + 1), .mp (F.length + 2)]]) s r v L lim cnt rd) (fun i => i ≤ fr.length) (fun i => fr.length - i) C_ok 0 rfl rfl (Nat.zero_le _) (by decide) ?_
  rintro i hi
  simp only [List.drop_succ_cons, List.drop_zero, List.cons_append, List.nil_append]
  by_cases hlt : i < fr.length
  · have hlt2 : i < tt.length := by omega
    obtain ⟨hf1, hf2, hf3⟩ := hfr (fr.getD i 0) (by simp [hlt])
    have ht1 := htt (tt.getD i 0) (by simp [hlt2])
    have qr := fun F hs hr => root_in (F := F) (s := s) (r := r) (v := v) (L := L) (lim := lim) (cnt := cnt) (rd := rd) hs hr hne hSI.wf (fr.getD i 0) hf1
    rw [hf2] at qr
    have qi := fun F hs hr => is_yes (F := F) (s := s) (r := r) (v := v) (L := L) (lim := lim) (cnt := cnt) (rd := rd) hs hr hne ht1
    have hk6 : (L.getD (fr.getD i 0) default).1.kind = 6 := by rw [← L.nd]; exact hf3
    obtain ⟨hg, hp⟩ := toM_step hl hnd hlt
    have hneg : (((fr.getD i 0 : Nat) : Int) < 0) = False := by simp
    have h := True.intro
    repeat' (first
     | (with_reducible first | refine goIf_b ?_ ?_ | refine goIf_n ?_ ?_ | refine goIf_d ?_ ?_ | refine goIf_split ?_ ?_ | refine goGb_b ?_ ?_ | refine goGb_n ?_ ?_ | refine goGb_d ?_ ?_ | refine goGb_split ?_ ?_ | refine goDGb_b ?_ ?_ | refine goDGb_n ?_ ?_ | refine goDGb_d ?_ ?_ | refine goDGb_split ?_ ?_) <;> intro h
     | ((first | refine goCall_norm ?_ | refine goDCall_norm ?_); simp only [AV.norm, AV.normL, W2, hpS, bxS, arS, stP hs hr hne, retD_ret, retD_normal, AV.bel, mapN_len, kidI_len, List.length_map, hlt, hlt2, kidI_get hlt, kidI_get hlt2, hneg, hf1, mapN_get hf1, embN_cells, hk6, bne_self_eq_false, findA_m, foundOr_m, mfind_some, mapPut_m, keyOK, hg, hp, Option.getD_none, Option.isSome_none, AV.bel, implies_true]; first  | refine fsCallR (qr _ (by first | exact hs | exact lt_app hs | exact lt_app (lt_set hs) | exact lt_set hs) (by first | exact hr | exact lt_app hr | exact lt_app (lt_set hr) | exact lt_set hr)) (.inl rfl) ?_ | refine fsCallR (qi _ (by first | exact hs | exact lt_app hs | exact lt_app (lt_set hs) | exact lt_set hs) (by first | exact hr | exact lt_app hr | exact lt_app (lt_set hr) | exact lt_set hr)) (.inl rfl) ?_)
     | refine go_drawF (id := 13) C_ok mixed 0 Try.f38.ntmps (by first | (simp; done) | (simp; omega)) rfl (by kernel_rfl) (by decide) ?_
     | refine go_drawF (id := 22) C_ok mixed 0 Try.f38.ntmps (by first | (simp; done) | (simp; omega)) rfl (by kernel_rfl) (by decide) ?_
     | skip) <;> simp only [h, ↓upd_eq, ↓envL_cons, Go.Ab.W0, Go.Ab.WD, if_true, if_false, reduceIte, Nat.reduceEqDiff, Nat.reduceAdd, Nat.reduceLT, Nat.reduceLeDiff, reduceCtorEq, Nat.reduceMul, implies_true, forall_eq_or_imp, forall_eq, Nat.reducePow, W1, fs_frz, fs_frz0, fs_env, fs_b, fs_n, fs_put, fs_put0, fs_tmp, fs_const, fs_func, fs_obj, fs_setObj, fs_new, fs_next, fs_mk, fs_H, le_app, le_set, app_get, app_set, app_get0c, app_getkc, app_set0c, app_setkc, List.append_assoc, not_false_eq_true, not_true_eq_false, retE_ret, retP_ret, List.length_append, List.length_set, Nat.le_succ, hpS, bxS, arS, stP hs hr hne, retD_ret, retD_normal, AV.bel, mapN_len, kidI_len, List.length_map, hlt, hlt2, kidI_get hlt, kidI_get hlt2, hneg, hf1, mapN_get hf1, embN_cells, hk6, bne_self_eq_false, findA_m, foundOr_m, mfind_some, mapPut_m, keyOK, hg, hp, Option.getD_none, Option.isSome_none, AV.bel, implies_true]
    refine ⟨i + 1, by omega, by omega, weakF rfl ?_⟩
    simp only [List.forall_mem_cons, mem_nil_all, frz_app, ↓upd_eq, ↓envL_cons, Nat.reduceEqDiff, if_true, if_false, reduceIte, true_and, and_true, and_self, true_or, or_true, implies_true, List.not_mem_nil, false_implies, AV.bel, AV.belL, AObj.bel, AV.norm, AV.normL, Bool.and_true, Bool.true_and, decide_true, decide_eq_true_eq, List.length_cons, List.length_nil, Nat.zero_add, Nat.reduceAdd, Nat.lt_add_one, Nat.lt_add_right_iff_pos, Nat.zero_lt_succ, Nat.zero_lt_one, Nat.reduceLT, List.take_succ_cons, List.take_zero, wrap_succ hlt hmx]
  · have hi' : i = fr.length := by omega
    subst hi'
    have e1 : fr.take fr.length = fr := List.take_length
    have e2 : tt.take fr.length = tt := by rw [hl, List.take_length]
    have qa := fun F hs hr => roots_ok (F := F) (s := s) (r := r) (v := v) (L := L) (lim := lim) (cnt := cnt) (rd := rd) hs hr hne hSI.wf hSI.mb (by omega) ⟨hSI.rd0, by omega⟩ n hn
    have hal := all_len hSI.wf hn
    have hmx2 : (L.st.all n).length ≤ maxLen := by rw [maxLen_val]; omega
    have hrl : ∀ x ∈ L.st.all n, x < L.length := fun x hx => by
      have := ((hSI.wf.mem_all (by rw [Mem.st_len]; exact hn)).1 hx).lt hSI.wf (by rw [Mem.st_len]; exact hn)
      rwa [Mem.st_len] at this
    simp only [e1, e2]
    generalize toM fr tt = to at *
    have hst1 : (mkL L (rd + 1) (L.st.all n)).st = L.st := mkL_st _ _ _
    have hlen1 : (mkL L (rd + 1) (L.st.all n)).length = L.length := mkL_len _ _ _
    generalize mkL L (rd + 1) (L.st.all n) = L1 at *
    have hcp' := hcp (F ++ cpJ F s to (Zs (L.st.all n).length) []) (locD hs hr hne (by simp [cpJ]))
    rw [hpC_loc hs hr, hpC_loc hs hr] at hcp'
    generalize hS : L.st = S at *
    generalize S.all n = ks at *
    have h := True.intro
    repeat' (first
     | (with_reducible first | refine goIf_b ?_ ?_ | refine goIf_n ?_ ?_ | refine goIf_d ?_ ?_ | refine goIf_split ?_ ?_ | refine goGb_b ?_ ?_ | refine goGb_n ?_ ?_ | refine goGb_d ?_ ?_ | refine goGb_split ?_ ?_ | refine goDGb_b ?_ ?_ | refine goDGb_n ?_ ?_ | refine goDGb_d ?_ ?_ | refine goDGb_split ?_ ?_) <;> intro h
     | ((first | refine goCall_norm ?_ | refine goDCall_norm ?_); simp only [AV.norm, AV.normL, W2, hpS, bxS, arS, stP hs hr hne, retD_ret, retD_normal, AV.bel, mapN_len, kidI_len, List.length_map, hl, Nat.lt_irrefl, Int.lt_irrefl]; first  | refine fsCallD (qa _ (by first | exact hs | exact lt_app hs | exact lt_app (lt_set hs) | exact lt_set hs) (by first | exact hr | exact lt_app hr | exact lt_app (lt_set hr) | exact lt_set hr)) (.inl rfl) (fun hb => hpS_bel (by first | exact hs | exact lt_app hs | exact lt_app (lt_set hs) | exact lt_set hs) (by first | exact hr | exact lt_app hr | exact lt_app (lt_set hr) | exact lt_set hr) hne hb) ?_)
     | refine go_drawF (id := 13) C_ok mixed 0 Try.f38.ntmps (by first | (simp; done) | (simp; omega)) rfl (by kernel_rfl) (by decide) ?_
     | refine go_drawF (id := 22) C_ok mixed 0 Try.f38.ntmps (by first | (simp; done) | (simp; omega)) rfl (by kernel_rfl) (by decide) ?_
     | skip) <;> simp only [h, ↓upd_eq, ↓envL_cons, Go.Ab.W0, Go.Ab.WD, if_true, if_false, reduceIte, Nat.reduceEqDiff, Nat.reduceAdd, Nat.reduceLT, Nat.reduceLeDiff, reduceCtorEq, Nat.reduceMul, implies_true, forall_eq_or_imp, forall_eq, Nat.reducePow, W1, fs_frz, fs_frz0, fs_env, fs_b, fs_n, fs_put, fs_put0, fs_tmp, fs_const, fs_func, fs_obj, fs_setObj, fs_new, fs_next, fs_mk, fs_H, le_app, le_set, app_get, app_set, app_get0c, app_getkc, app_set0c, app_setkc, List.append_assoc, not_false_eq_true, not_true_eq_false, retE_ret, retP_ret, List.length_append, List.length_set, Nat.le_succ, hpS, bxS, arS, stP hs hr hne, retD_ret, retD_normal, AV.bel, mapN_len, kidI_len, List.length_map, hl, Nat.lt_irrefl, Int.lt_irrefl]
    refine aloop_trimF [16, 92, 0, 1, 10, 90, 91] ?_
    simp only [List.map_cons, List.map_nil, ↓upd_eq, ↓envL_cons, Go.Ab.W0, Go.Ab.WD, if_true, if_false, reduceIte, Nat.reduceEqDiff, Nat.reduceAdd, Nat.reduceLT, Nat.reduceLeDiff, reduceCtorEq, Nat.reduceMul, implies_true, forall_eq_or_imp, forall_eq, Nat.reducePow, W1, fs_frz, fs_frz0, fs_env, fs_b, fs_n, fs_put, fs_put0, fs_tmp, fs_const, fs_func, fs_obj, fs_setObj, fs_new, fs_next, fs_mk, fs_H, le_app, le_set, app_get, app_set, app_get0c, app_getkc, app_set0c, app_setkc, List.append_assoc, not_false_eq_true, not_true_eq_false, retE_ret, retP_ret, List.length_append, List.length_set, Nat.le_succ]
    refine goLoopF 2 (fun i : Nat => [(16, .int .i64 (cntH S to (ks.take i) : Nat)), (92, .int .i64 i)]) (fun i => hpS (F ++ [.map (embM to), .map (embM (Zs i)), .map [], .box [.bptr s 0, .mp F.length, .mp (F.length + 1), .mp (F.length + 2)]]) s r v L1 lim cnt (rd + 1)) (fun i => i ≤ ks.length) (fun i => ks.length - i) C_ok 0 rfl (by rw [hz0]; rfl) (Nat.zero_le _) (by decide) ?_
    rintro i hi
    simp only [List.drop_succ_cons, List.drop_zero, List.cons_append, List.nil_append]
    by_cases hlt : i < ks.length
    · have hri : ks.getD i 0 < L1.length := by rw [hlen1]; exact hrl _ (by simp [hlt])
      have hki : (L1.getD (ks.getD i 0) default).1.kind = S.kind (ks.getD i 0) := by rw [← L1.nd, hst1]; rfl
      have hstep : cntH S to (ks.take (i + 1)) = cntH S to (ks.take i) + if (decide (S.kind (ks.getD i 0) ≠ 6) && hld S to (ks.getD i 0)) = true then 1 else 0 := by
        simp only [cntH]
        rw [List.take_add_one, List.getElem?_eq_getElem hlt, Option.toList_some, List.countP_append, List.countP_singleton]
        simp [hlt]
      have hle : cntH S to (ks.take i) ≤ 1000000 := Nat.le_trans List.countP_le_length (by simp; omega)
      obtain ⟨z1, z2⟩ := hzs i hlt
      by_cases h6 : S.kind (ks.getD i 0) = 6
      · have h6' : (S.kind (ks.getD i 0) != 6) = false := bne_eq_false_iff_eq.2 h6
        rw [if_neg (by simp only [h6, ne_eq, not_true_eq_false, decide_false, Bool.false_and, Bool.false_eq_true, not_false_eq_true]), Nat.add_zero] at hstep
        have h := True.intro
        repeat' (first
         | (with_reducible first | refine goIf_b ?_ ?_ | refine goIf_n ?_ ?_ | refine goIf_d ?_ ?_ | refine goIf_split ?_ ?_ | refine goGb_b ?_ ?_ | refine goGb_n ?_ ?_ | refine goGb_d ?_ ?_ | refine goGb_split ?_ ?_ | refine goDGb_b ?_ ?_ | refine goDGb_n ?_ ?_ | refine goDGb_d ?_ ?_ | refine goDGb_split ?_ ?_) <;> intro h
         | refine go_drawF (id := 13) C_ok mixed 0 Try.f38.ntmps (by first | (simp; done) | (simp; omega)) rfl (by kernel_rfl) (by decide) ?_
         | refine go_drawF (id := 22) C_ok mixed 0 Try.f38.ntmps (by first | (simp; done) | (simp; omega)) rfl (by kernel_rfl) (by decide) ?_
         | skip) <;> simp only [h, ↓upd_eq, ↓envL_cons, Go.Ab.W0, Go.Ab.WD, if_true, if_false, reduceIte, Nat.reduceEqDiff, Nat.reduceAdd, Nat.reduceLT, Nat.reduceLeDiff, reduceCtorEq, Nat.reduceMul, implies_true, forall_eq_or_imp, forall_eq, Nat.reducePow, W1, fs_frz, fs_frz0, fs_env, fs_b, fs_n, fs_put, fs_put0, fs_tmp, fs_const, fs_func, fs_obj, fs_setObj, fs_new, fs_next, fs_mk, fs_H, le_app, le_set, app_get, app_set, app_get0c, app_getkc, app_set0c, app_setkc, List.append_assoc, not_false_eq_true, not_true_eq_false, retE_ret, retP_ret, List.length_append, List.length_set, Nat.le_succ, hpS, bxS, arS, stP hs hr hne, retD_ret, retD_normal, AV.bel, mapN_len, kidI_len, List.length_map, hlt, kidI_get hlt, hri, mapN_get hri, embN_cells, hki, h6']
        refine ⟨i + 1, by omega, by omega, weakF (by rw [z1 h6]) ?_⟩
        simp only [List.forall_mem_cons, mem_nil_all, frz_app, ↓upd_eq, ↓envL_cons, Nat.reduceEqDiff, if_true, if_false, reduceIte, true_and, and_true, and_self, true_or, or_true, implies_true, List.not_mem_nil, false_implies, AV.bel, AV.belL, AObj.bel, AV.norm, AV.normL, Bool.and_true, Bool.true_and, decide_true, decide_eq_true_eq, List.length_cons, List.length_nil, Nat.zero_add, Nat.reduceAdd, Nat.lt_add_one, Nat.lt_add_right_iff_pos, Nat.zero_lt_succ, Nat.zero_lt_one, Nat.reduceLT, List.take_succ_cons, List.take_zero, wrap_succ hlt hmx2, hstep, Nat.add_zero]
      · have h6' : (S.kind (ks.getD i 0) != 6) = true := bne_iff_ne.2 h6
        have qh := z2 h6 (hpS (F ++ [.map (embM to), .map (embM (Zs i)), .map [], .box [.bptr s 0, .mp F.length, .mp (F.length + 1), .mp (F.length + 2)]]) s r v L1 lim cnt (rd + 1)) (by simp only [hpS, bxS, arS, stP hs hr hne, retD_ret, retD_normal, AV.bel, mapN_len, cpB]; rfl) (by simp only [hpS, bxS, arS, stP hs hr hne, retD_ret, retD_normal, AV.bel, mapN_len, hlen1]) (by simp only [hpS, bxS, arS, stP hs hr hne, retD_ret, retD_normal, AV.bel, mapN_len]) (by simp only [hpS, bxS, arS, stP hs hr hne, retD_ret, retD_normal, AV.bel, mapN_len]; rfl) (by simp only [hpS, bxS, arS, stP hs hr hne, retD_ret, retD_normal, AV.bel, mapN_len]; rfl)
        have w1 : IntKind.wrap .i64 ((cntH S to (ks.take i) : Nat) + 1 : Int) = ((cntH S to (ks.take i) + 1 : Nat) : Int) := by rw [wrap_i (by omega) (by omega)]; omega
        cases hh : hld S to (ks.getD i 0)
        · rw [hh] at qh hstep
          rw [if_neg (by simp only [Bool.and_false, Bool.false_eq_true, not_false_eq_true]), Nat.add_zero] at hstep
          have h := True.intro
          repeat' (first
           | (with_reducible first | refine goIf_b ?_ ?_ | refine goIf_n ?_ ?_ | refine goIf_d ?_ ?_ | refine goIf_split ?_ ?_ | refine goGb_b ?_ ?_ | refine goGb_n ?_ ?_ | refine goGb_d ?_ ?_ | refine goGb_split ?_ ?_ | refine goDGb_b ?_ ?_ | refine goDGb_n ?_ ?_ | refine goDGb_d ?_ ?_ | refine goDGb_split ?_ ?_) <;> intro h
           | ((first | refine goCall_norm ?_ | refine goDCall_norm ?_); simp only [AV.norm, AV.normL, W2, hpS, bxS, arS, stP hs hr hne, retD_ret, retD_normal, AV.bel, mapN_len, kidI_len, List.length_map, hlt, kidI_get hlt, hri, mapN_get hri, embN_cells, hki, h6']; first  | refine fsCallD (qh) (.inl rfl) (fun hb => bel_setX (embM_bel _ _) hb) ?_)
           | refine go_drawF (id := 13) C_ok mixed 0 Try.f38.ntmps (by first | (simp; done) | (simp; omega)) rfl (by kernel_rfl) (by decide) ?_
           | refine go_drawF (id := 22) C_ok mixed 0 Try.f38.ntmps (by first | (simp; done) | (simp; omega)) rfl (by kernel_rfl) (by decide) ?_
           | skip) <;> simp only [h, ↓upd_eq, ↓envL_cons, Go.Ab.W0, Go.Ab.WD, if_true, if_false, reduceIte, Nat.reduceEqDiff, Nat.reduceAdd, Nat.reduceLT, Nat.reduceLeDiff, reduceCtorEq, Nat.reduceMul, implies_true, forall_eq_or_imp, forall_eq, Nat.reducePow, W1, fs_frz, fs_frz0, fs_env, fs_b, fs_n, fs_put, fs_put0, fs_tmp, fs_const, fs_func, fs_obj, fs_setObj, fs_new, fs_next, fs_mk, fs_H, le_app, le_set, app_get, app_set, app_get0c, app_getkc, app_set0c, app_setkc, List.append_assoc, not_false_eq_true, not_true_eq_false, retE_ret, retP_ret, List.length_append, List.length_set, Nat.le_succ, hpS, bxS, arS, stP hs hr hne, retD_ret, retD_normal, AV.bel, mapN_len, kidI_len, List.length_map, hlt, kidI_get hlt, hri, mapN_get hri, embN_cells, hki, h6']
          refine ⟨i + 1, by omega, by omega, weakF rfl ?_⟩
          simp only [List.forall_mem_cons, mem_nil_all, frz_app, ↓upd_eq, ↓envL_cons, Nat.reduceEqDiff, if_true, if_false, reduceIte, true_and, and_true, and_self, true_or, or_true, implies_true, List.not_mem_nil, false_implies, AV.bel, AV.belL, AObj.bel, AV.norm, AV.normL, Bool.and_true, Bool.true_and, decide_true, decide_eq_true_eq, List.length_cons, List.length_nil, Nat.zero_add, Nat.reduceAdd, Nat.lt_add_one, Nat.lt_add_right_iff_pos, Nat.zero_lt_succ, Nat.zero_lt_one, Nat.reduceLT, List.take_succ_cons, List.take_zero, wrap_succ hlt hmx2, hstep, Nat.add_zero]
        · rw [hh] at qh hstep
          rw [if_pos (by simp only [ne_eq, h6, not_false_eq_true, decide_true, Bool.true_and])] at hstep
          have h := True.intro
          repeat' (first
           | (with_reducible first | refine goIf_b ?_ ?_ | refine goIf_n ?_ ?_ | refine goIf_d ?_ ?_ | refine goIf_split ?_ ?_ | refine goGb_b ?_ ?_ | refine goGb_n ?_ ?_ | refine goGb_d ?_ ?_ | refine goGb_split ?_ ?_ | refine goDGb_b ?_ ?_ | refine goDGb_n ?_ ?_ | refine goDGb_d ?_ ?_ | refine goDGb_split ?_ ?_) <;> intro h
           | ((first | refine goCall_norm ?_ | refine goDCall_norm ?_); simp only [AV.norm, AV.normL, W2, hpS, bxS, arS, stP hs hr hne, retD_ret, retD_normal, AV.bel, mapN_len, kidI_len, List.length_map, hlt, kidI_get hlt, hri, mapN_get hri, embN_cells, hki, h6', w1]; first  | refine fsCallD (qh) (.inl rfl) (fun hb => bel_setX (embM_bel _ _) hb) ?_)
           | refine go_drawF (id := 13) C_ok mixed 0 Try.f38.ntmps (by first | (simp; done) | (simp; omega)) rfl (by kernel_rfl) (by decide) ?_
           | refine go_drawF (id := 22) C_ok mixed 0 Try.f38.ntmps (by first | (simp; done) | (simp; omega)) rfl (by kernel_rfl) (by decide) ?_
           | skip) <;> simp only [h, ↓upd_eq, ↓envL_cons, Go.Ab.W0, Go.Ab.WD, if_true, if_false, reduceIte, Nat.reduceEqDiff, Nat.reduceAdd, Nat.reduceLT, Nat.reduceLeDiff, reduceCtorEq, Nat.reduceMul, implies_true, forall_eq_or_imp, forall_eq, Nat.reducePow, W1, fs_frz, fs_frz0, fs_env, fs_b, fs_n, fs_put, fs_put0, fs_tmp, fs_const, fs_func, fs_obj, fs_setObj, fs_new, fs_next, fs_mk, fs_H, le_app, le_set, app_get, app_set, app_get0c, app_getkc, app_set0c, app_setkc, List.append_assoc, not_false_eq_true, not_true_eq_false, retE_ret, retP_ret, List.length_append, List.length_set, Nat.le_succ, hpS, bxS, arS, stP hs hr hne, retD_ret, retD_normal, AV.bel, mapN_len, kidI_len, List.length_map, hlt, kidI_get hlt, hri, mapN_get hri, embN_cells, hki, h6', w1]
          refine ⟨i + 1, by omega, by omega, weakF rfl ?_⟩
          simp only [List.forall_mem_cons, mem_nil_all, frz_app, ↓upd_eq, ↓envL_cons, Nat.reduceEqDiff, if_true, if_false, reduceIte, true_and, and_true, and_self, true_or, or_true, implies_true, List.not_mem_nil, false_implies, AV.bel, AV.belL, AObj.bel, AV.norm, AV.normL, Bool.and_true, Bool.true_and, decide_true, decide_eq_true_eq, List.length_cons, List.length_nil, Nat.zero_add, Nat.reduceAdd, Nat.lt_add_one, Nat.lt_add_right_iff_pos, Nat.zero_lt_succ, Nat.zero_lt_one, Nat.reduceLT, List.take_succ_cons, List.take_zero, wrap_succ hlt hmx2, hstep, Nat.add_zero]
    · have hi' : i = ks.length := by omega
      subst hi'
      rw [List.take_length]
      have w2 : IntKind.wrap .i64 (lim - cnt) = lim - cnt := wrap_i (by omega) (by omega)
      have hng : (lim - cnt < (cntH S to ks : Nat)) = False := by simp only [eq_iff_iff, iff_false]; omega
      have h := True.intro
      repeat' (first
       | (with_reducible first | refine goIf_b ?_ ?_ | refine goIf_n ?_ ?_ | refine goIf_d ?_ ?_ | refine goIf_split ?_ ?_ | refine goGb_b ?_ ?_ | refine goGb_n ?_ ?_ | refine goGb_d ?_ ?_ | refine goGb_split ?_ ?_ | refine goDGb_b ?_ ?_ | refine goDGb_n ?_ ?_ | refine goDGb_d ?_ ?_ | refine goDGb_split ?_ ?_) <;> intro h
       | ((first | refine goCall_norm ?_ | refine goDCall_norm ?_); simp only [AV.norm, AV.normL, W2, hpS, bxS, arS, stP hs hr hne, retD_ret, retD_normal, AV.bel, mapN_len, kidI_len, List.length_map, Nat.lt_irrefl, Int.lt_irrefl, w2, hng, retD_ret, retD_normal]; first  | refine fsCallD (hcp') (.inl rfl) (fun hb => belJ hs hr hne hl0 hb) ?_)
       | refine go_drawF (id := 13) C_ok mixed 0 Try.f38.ntmps (by first | (simp; done) | (simp; omega)) rfl (by kernel_rfl) (by decide) ?_
       | refine go_drawF (id := 22) C_ok mixed 0 Try.f38.ntmps (by first | (simp; done) | (simp; omega)) rfl (by kernel_rfl) (by decide) ?_
       | skip) <;> simp only [h, ↓upd_eq, ↓envL_cons, Go.Ab.W0, Go.Ab.WD, if_true, if_false, reduceIte, Nat.reduceEqDiff, Nat.reduceAdd, Nat.reduceLT, Nat.reduceLeDiff, reduceCtorEq, Nat.reduceMul, implies_true, forall_eq_or_imp, forall_eq, Nat.reducePow, W1, fs_frz, fs_frz0, fs_env, fs_b, fs_n, fs_put, fs_put0, fs_tmp, fs_const, fs_func, fs_obj, fs_setObj, fs_new, fs_next, fs_mk, fs_H, le_app, le_set, app_get, app_set, app_get0c, app_getkc, app_set0c, app_setkc, List.append_assoc, not_false_eq_true, not_true_eq_false, retE_ret, retP_ret, List.length_append, List.length_set, Nat.le_succ, hpS, bxS, arS, stP hs hr hne, retD_ret, retD_normal, AV.bel, mapN_len, kidI_len, List.length_map, Nat.lt_irrefl, Int.lt_irrefl, w2, hng, retD_ret, retD_normal]
      all_goals first | exact ⟨rfl, rfl⟩ | rfl
end

end Go.Proofs.Ytdngjamjccjlmaa
