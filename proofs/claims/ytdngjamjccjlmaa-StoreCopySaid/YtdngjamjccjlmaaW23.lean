/- Walks: the store: a copy of a node. No condition. -/
import Derived.Test.YtdngjamjccjlmaaS13
set_option linter.unusedSimpArgs false
set_option linter.unusedVariables false
set_option maxHeartbeats 4000000
set_option maxRecDepth 100000
namespace Go.Proofs.Ytdngjamjccjlmaa
open Go Go.Ab
attribute [local irreducible] PCalls ACalls CallK GoCall GoDCall GoIf GoGb GoDGb GoO GoD GoX GoDX GoG GoDG GoGv GoDGv Go ALoop

/-- What was made: of roots with kids. -/
structure KM (S : St) (M : List (Int × Int)) : Prop where
  nd : (M.map Prod.fst).Nodup
  key : ∀ k, k ∈ M.map Prod.fst → ∃ n : Nat, k = n ∧ n < S.length ∧ S.kids n ≠ []
def inn (S : St) : Nat := ((List.range S.length).filter fun i => decide (S.kids i ≠ [])).length
theorem KM.le {S : St} {M : List (Int × Int)} (h : KM S M) : M.length ≤ inn S := by
  have h1 : ((M.map Prod.fst).map Int.toNat).Nodup := by
    refine List.Pairwise.map _ (fun a b hab => ?_) (List.Pairwise.and_mem.1 h.nd)
    obtain ⟨ha, hb, hne⟩ := hab
    obtain ⟨n, rfl, _⟩ := h.key a ha
    obtain ⟨m, rfl, _⟩ := h.key b hb
    simp only [Int.toNat_natCast]
    exact fun e => hne (by rw [e])
  have h2 : (M.map Prod.fst).map Int.toNat ⊆ (List.range S.length).filter fun i => decide (S.kids i ≠ []) := fun x hx => by
    obtain ⟨k, hk, rfl⟩ := List.mem_map.1 hx
    obtain ⟨n, rfl, hn, hk⟩ := h.key k hk
    simpa using ⟨hn, hk⟩
  have := h1.length_le_of_subset h2
  simpa [inn] using this
theorem KM.put {S : St} {M : List (Int × Int)} (h : KM S M) {n : Nat} {x : Int} (hn : n < S.length) (hk : S.kids n ≠ []) (hg : mget M n = none) : KM S (mput M n x) ∧ (mput M n x).length = M.length + 1 := by
  rw [mput_new M n x hg]
  refine ⟨⟨?_, fun k hk' => ?_⟩, by simp⟩
  · rw [List.map_append, List.nodup_append]
    refine ⟨h.nd, by simp, ?_⟩
    intro a ha b hb e
    simp only [List.map_cons, List.map_nil, List.mem_singleton] at hb
    subst hb; subst e
    have := (mget_key M n).2 ha
    rw [hg] at this; cases this
  · rw [List.map_append, List.mem_append] at hk'
    rcases hk' with hk' | hk'
    · exact h.key k hk'
    · simp only [List.map_cons, List.map_nil, List.mem_singleton] at hk'
      exact ⟨n, hk', hn, hk⟩
theorem rch_le {S : St} (h : Wf S) {ρ : Nat → Nat} (hρ : Rk S ρ) {n m : Nat} (hr : Rch S n m) : ρ m ≤ ρ (S.root n) := by
  induction hr with
  | here n => exact Nat.le_refl _
  | kid n k r hk _ ih => have := h.kid_rank hρ hk; omega
theorem not_rch_kid {S : St} (h : Wf S) {n k : Nat} (hk : k ∈ S.kids (S.root n)) : ¬ Rch S k (S.root n) := fun hr => by
  obtain ⟨ρ, hρ⟩ := h.rk
  have h1 := rch_le h hρ hr
  have h2 := h.kid_rank hρ hk
  omega
/-- The new nodes for variables. -/
def TOK (S : St) (to : List (Int × Int)) : Prop := ∀ k t, mget to k = some t → ∃ n x : Nat, k = n ∧ t = x ∧ S.kind n = 6 ∧ x < S.length
section
variable {s r c m1 m2 m3 : Nat} {S : St} {to : List (Int × Int)} {lim rd : Int}
structure CpO (S : St) (to : List (Int × Int)) (rd : Int) (n v : Nat) (L : Mem) (cnt : Int) (Z M : List (Int × Int)) (v' : Nat) (L' : Mem) (cnt' : Int) (Z' M' : List (Int × Int)) (m : Nat) : Prop where
  cx : CX S to rd L' Z' M'
  km : KM S M'
  le : M.length ≤ M'.length
  len : L'.length = L.length + (M'.length - M.length)
  cn : cnt' = cnt + ((M'.length - M.length : Nat) : Int)
  mlt : m < L'.length
  tr : L'.st.tree m = sbT (fOf S to) (S.tree n)
  old : ∀ i, i < L.length → L'.st.tree i = L.st.tree i
  same : hld S to n = false → L' = L ∧ m = S.root n
  nw : ∀ x : Nat, mget M (x : Int) = none → mget M' (x : Int) ≠ none → Rch S n x
def CopyC (s r c m1 m2 m3 : Nat) (S : St) (to : List (Int × Int)) (lim rd : Int) (n : Nat) : Prop := ∀ v L cnt Z M, CX S to rd L Z M → KM S M → L.length + (inn S - M.length) ≤ 1000000 → 0 ≤ cnt → cnt + ((inn S - M.length : Nat) : Int) ≤ 1000000 →
  ∃ v' L' cnt' Z' M' m, CpO S to rd n v L cnt Z M v' L' cnt' Z' M' m ∧ ∀ F : List AObj, SixD F s r c m1 m2 m3 → DCalls Try.prog 93 [.bptr c 0, .int .i64 n] (hpC F s r c m1 m2 m3 v L lim cnt rd to Z M) (.int .i64 m) (hpC F s r c m1 m2 m3 v' L' lim cnt' rd to Z' M')
theorem CX.sm {L : Mem} {Z M : List (Int × Int)} (h : CX S to rd L Z M) (h0 : Wf S) : Sm S L := ⟨h.si.wf, h0, h.len, h.nd, fun i hi => (h.tr i hi).2⟩
theorem hold_c {L : Mem} {v : Nat} {cnt : Int} {Z Z' M : List (Int × Int)} {n : Nat} {F : List AObj} (hD : SixD F s r c m1 m2 m3)
    (h : ∀ F : List AObj, F[c]? = some (cpB s m1 m2 m3) → F[s]? = some (bxS r v L.length lim cnt rd) → F[r]? = some (arS v L) → F[m1]? = some (.map (embM to)) → F[m2]? = some (.map (embM Z)) →
      DCalls Try.prog 92 [.bptr c 0, .int .i64 n] F (.bool (hld S to n)) (F.set m2 (.map (embM Z')))) :
    DCalls Try.prog 92 [.bptr c 0, .int .i64 n] (hpC F s r c m1 m2 m3 v L lim cnt rd to Z M) (.bool (hld S to n)) (hpC F s r c m1 m2 m3 v L lim cnt rd to Z' M) := by
  have g := six_get hD (x1 := bxS r v L.length lim cnt rd) (x2 := arS v L) (x3 := cpB s m1 m2 m3) (x4 := .map (embM to)) (x5 := .map (embM Z)) (x6 := .map (embM M))
  have := h _ g.2.2.1 g.1 g.2.1 g.2.2.2.1 g.2.2.2.2.1
  rw [(six_set hD).2.1] at this
  exact this
theorem root_c {L : Mem} {v : Nat} {cnt : Int} {Z M : List (Int × Int)} (hw : Wf L.st) (n : Nat) (hn : n < L.length) {F : List AObj} (hD : SixD F s r c m1 m2 m3) :
    DCalls Try.prog 29 [.bptr s 0, .int .i64 n] (hpC F s r c m1 m2 m3 v L lim cnt rd to Z M) (.int .i64 (L.st.root n : Nat)) (hpC F s r c m1 m2 m3 v L lim cnt rd to Z M) := by
  have g := six_get hD (x1 := bxS r v L.length lim cnt rd) (x2 := arS v L) (x3 := cpB s m1 m2 m3) (x4 := .map (embM to)) (x5 := .map (embM Z)) (x6 := .map (embM M))
  exact root_g g.1 g.2.1 hw n hn
theorem add_c {L : Mem} {v : Nat} {cnt : Int} {Z M : List (Int × Int)} (kd : Int) (ks : List Nat) (hL : L.length ≤ 1000000) (hc : 0 ≤ cnt ∧ cnt ≤ 1000000) {F : List AObj} (hD : SixD F s r c m1 m2 m3) :
    DCalls Try.prog 91 [.bptr s 0, .agg [.int .i64 kd, .int .i64 0, .int .i64 0, .sl ((kidI ks).map I64) .no, .int .i64 0]] (hpC F s r c m1 m2 m3 v L lim cnt rd to Z M) (.int .i64 L.length) (hpC F s r c m1 m2 m3 (v + 1) (L ++ [(⟨kd, 0, none, ks⟩, 0)]) lim (cnt + 1) rd to Z M) := by
  have := add_ok (F := (((F.set c (cpB s m1 m2 m3)).set m1 (.map (embM to))).set m2 (.map (embM Z))).set m3 (.map (embM M))) (v := v) (L := L) (lim := lim) (cnt := cnt) (rd := rd) (s := s) (r := r) (by simpa using hD.hs) (by simpa using hD.hr) (fun e => hD.d1.1 e.symm) kd 0 0 0 ks hL hc
  exact this
theorem copy_step (h0 : Wf S) (hto : TOK S to) (h12 : m1 ≠ m2) (n : Nat) (hn : n < S.length) (ih : ∀ k ∈ S.kids (S.root n), CopyC s r c m1 m2 m3 S to lim rd k) : CopyC s r c m1 m2 m3 S to lim rd n := by
  intro v L cnt Z M hX hK hb1 hb2 hb3
  have hlen := hX.len
  have hrn : S.root n < S.length := h0.root_lt n hn
  have hroot : L.st.root n = S.root n := (hX.tr n hn).2
  have ht6 : ∀ t, mget to (S.root n : Int) = some t → S.kind (S.root n) = 6 := fun t e => by
    obtain ⟨a, b, e1, e2, e3, e4⟩ := hto _ _ e
    have : a = S.root n := by omega
    subst this; exact e3
  have hsb := sb_node h0 hn ht6
  have hst := hld_step (to := to) h0 hrn (h0.root_root n)
  have hhr := hld_root (to := to) h0 hn
  have qr := fun F hD => root_c (F := F) (s := s) (r := r) (c := c) (m1 := m1) (m2 := m2) (m3 := m3) (v := v) (cnt := cnt) (lim := lim) (rd := rd) (to := to) (Z := Z) (M := M) hX.si.wf n (by omega) hD
  rw [hroot] at qr
  cases ht : mget to (S.root n : Int) with
  | some t =>
    obtain ⟨a, x, e1, rfl, e3, e4⟩ := hto _ _ ht
    rw [ht] at hsb hst
    refine ⟨v, L, cnt, Z, M, x, ⟨hX, hK, Nat.le_refl _, by omega, by omega, by omega, ?_, fun _ _ => rfl, fun hh => ?_, fun x h1 h2 => absurd h1 h2⟩, fun F hD => ?_⟩
    · rw [hsb]; simp only [Int.toNat_natCast]; exact (hX.tr x e4).1
    · rw [← hhr, hst] at hh; simp at hh
    · unfold DCalls
      refine acallsD_text C_ok Try.func93 rfl (by decide) (Nat.le_of_ble_eq_true rfl) (by decide) fun ok => ?_
      rw [Try.results93]
      have h := True.intro
      repeat' (first
       | (with_reducible first | refine goIf_b ?_ ?_ | refine goIf_n ?_ ?_ | refine goIf_d ?_ ?_ | refine goIf_split ?_ ?_ | refine goGb_b ?_ ?_ | refine goGb_n ?_ ?_ | refine goGb_d ?_ ?_ | refine goGb_split ?_ ?_ | refine goDGb_b ?_ ?_ | refine goDGb_n ?_ ?_ | refine goDGb_d ?_ ?_ | refine goDGb_split ?_ ?_) <;> intro h
       | ((first | refine goCall_norm ?_ | refine goDCall_norm ?_); simp only [AV.norm, AV.normL, W2, Go.Ab.W3, Int.reduceAdd, Int.reduceLT, Int.reduceToNat, Int.reduceBEq, Int.reduceBNe, Int.reduceLE, hpC, bxS, arS, cpB, sixP hD, findA_m, foundOr_m, mfind_some, mapPut_m, keyOK, Option.getD_none, Option.isSome_none, Option.getD_some, Option.isSome_some, mapN_len, embN_cells, embN_solid, kidI, I64, List.set_set, AV.bel, AV.belL, implies_true, retD_ret, retD_normal, ht]; first  | refine fsCallR (qr _ (by first | exact hD | exact hD.app _)) (.inl rfl) ?_)
       | refine go_drawF (id := 16) C_ok mixed 0 Try.f93.ntmps (by first | (simp; done) | (simp; omega)) rfl (by kernel_rfl) (by decide) ?_
       | refine goRound ?_ C_ok Try.f93.ntmps rfl (by decide)
       | skip) <;> simp only [h, ↓upd_eq, ↓envL_cons, Go.Ab.W0, Go.Ab.WD, if_true, if_false, reduceIte, Nat.reduceEqDiff, Nat.reduceAdd, Nat.reduceLT, Nat.reduceLeDiff, reduceCtorEq, Nat.reduceMul, implies_true, forall_eq_or_imp, forall_eq, Nat.reducePow, W1, fs_frz, fs_frz0, fs_env, fs_b, fs_n, fs_put, fs_put0, fs_tmp, fs_const, fs_func, fs_obj, fs_setObj, fs_new, fs_next, fs_mk, fs_H, le_app, le_set, app_get, app_set, app_get0c, app_getkc, app_set0c, app_setkc, List.append_assoc, not_false_eq_true, not_true_eq_false, retE_ret, retP_ret, List.length_append, List.length_set, Nat.le_succ, Go.Ab.W3, Int.reduceAdd, Int.reduceLT, Int.reduceToNat, Int.reduceBEq, Int.reduceBNe, Int.reduceLE, hpC, bxS, arS, cpB, sixP hD, findA_m, foundOr_m, mfind_some, mapPut_m, keyOK, Option.getD_none, Option.isSome_none, Option.getD_some, Option.isSome_some, mapN_len, embN_cells, embN_solid, kidI, I64, List.set_set, AV.bel, AV.belL, implies_true, retD_ret, retD_normal, ht, cutNormal_normal]
  | none =>
    rw [ht] at hsb hst
    simp only at hsb
    obtain ⟨Z', hZ', qh0⟩ := hold_ok (s := s) (r := r) (v := v) (c := c) (m1 := m1) (m2 := m2) (m3 := m3) (L := L) (lim := lim) (cnt := cnt) (rd := rd) (to := to) (hX.sm h0) h12 n hn Z hX.vh
    have hX1 : CX S to rd L Z' M := hX.putH hZ'
    have qh := fun F hD => hold_c (M := M) (F := F) (s := s) (r := r) (c := c) (m1 := m1) (m2 := m2) (m3 := m3) hD qh0
    by_cases hh : hld S to (S.root n) = true
    · rw [hh] at qh
      cases hM : mget M (S.root n : Int) with
      | some x =>
        obtain ⟨a, b, e1, rfl, e3, e4, e5⟩ := hX.vm _ _ hM
        have ea : a = S.root n := by omega
        subst ea
        refine ⟨v, L, cnt, Z', M, b, ⟨hX1, hK, Nat.le_refl _, by omega, by omega, e4, ?_, fun _ _ => rfl, fun h => ?_, fun x h1 h2 => absurd h1 h2⟩, fun F hD => ?_⟩
        · rw [e5, h0.tree_root hrn hn (h0.root_root n)]
        · rw [← hhr, hh] at h; cases h
        · unfold DCalls
          refine acallsD_text C_ok Try.func93 rfl (by decide) (Nat.le_of_ble_eq_true rfl) (by decide) fun ok => ?_
          rw [Try.results93]
          have h := True.intro
          repeat' (first
           | (with_reducible first | refine goIf_b ?_ ?_ | refine goIf_n ?_ ?_ | refine goIf_d ?_ ?_ | refine goIf_split ?_ ?_ | refine goGb_b ?_ ?_ | refine goGb_n ?_ ?_ | refine goGb_d ?_ ?_ | refine goGb_split ?_ ?_ | refine goDGb_b ?_ ?_ | refine goDGb_n ?_ ?_ | refine goDGb_d ?_ ?_ | refine goDGb_split ?_ ?_) <;> intro h
           | ((first | refine goCall_norm ?_ | refine goDCall_norm ?_); simp only [AV.norm, AV.normL, W2, Go.Ab.W3, Int.reduceAdd, Int.reduceLT, Int.reduceToNat, Int.reduceBEq, Int.reduceBNe, Int.reduceLE, hpC, bxS, arS, cpB, sixP hD, findA_m, foundOr_m, mfind_some, mapPut_m, keyOK, Option.getD_none, Option.isSome_none, Option.getD_some, Option.isSome_some, mapN_len, embN_cells, embN_solid, kidI, I64, List.set_set, AV.bel, AV.belL, implies_true, retD_ret, retD_normal, ht, hM]; first  | refine fsCallR (qr _ (by first | exact hD | exact hD.app _)) (.inl rfl) ?_ | refine fsCallD (qh _ (by first | exact hD | exact hD.app _)) (.inl rfl) (fun hb => hpC_bel (by first | exact hD | exact hD.app _) hb) ?_)
           | refine go_drawF (id := 16) C_ok mixed 0 Try.f93.ntmps (by first | (simp; done) | (simp; omega)) rfl (by kernel_rfl) (by decide) ?_
           | refine goRound ?_ C_ok Try.f93.ntmps rfl (by decide)
           | skip) <;> simp only [h, ↓upd_eq, ↓envL_cons, Go.Ab.W0, Go.Ab.WD, if_true, if_false, reduceIte, Nat.reduceEqDiff, Nat.reduceAdd, Nat.reduceLT, Nat.reduceLeDiff, reduceCtorEq, Nat.reduceMul, implies_true, forall_eq_or_imp, forall_eq, Nat.reducePow, W1, fs_frz, fs_frz0, fs_env, fs_b, fs_n, fs_put, fs_put0, fs_tmp, fs_const, fs_func, fs_obj, fs_setObj, fs_new, fs_next, fs_mk, fs_H, le_app, le_set, app_get, app_set, app_get0c, app_getkc, app_set0c, app_setkc, List.append_assoc, not_false_eq_true, not_true_eq_false, retE_ret, retP_ret, List.length_append, List.length_set, Nat.le_succ, Go.Ab.W3, Int.reduceAdd, Int.reduceLT, Int.reduceToNat, Int.reduceBEq, Int.reduceBNe, Int.reduceLE, hpC, bxS, arS, cpB, sixP hD, findA_m, foundOr_m, mfind_some, mapPut_m, keyOK, Option.getD_none, Option.isSome_none, Option.getD_some, Option.isSome_some, mapN_len, embN_cells, embN_solid, kidI, I64, List.set_set, AV.bel, AV.belL, implies_true, retD_ret, retD_normal, ht, hM, cutNormal_normal]
      | none =>
        have hnl : S.root n < L.length := by omega
        have hlk : S.link (S.root n) = none := h0.root_link n
        have hnd : L.st.nd (S.root n) = S.nd (S.root n) := hX.nd _ hrn
        have hkl : (L.getD (S.root n) default).1.kids = S.kids (S.root n) := by rw [← L.nd, hnd]; rfl
        rcases h0.shape hrn hlk with ⟨_, _, hk⟩ | ⟨_, _, hk⟩ | ⟨i, j, hkd, hk⟩ | ⟨i, hkd, hk⟩
        · rw [hk] at hst; rw [hst] at hh; simp at hh
        · rw [hk] at hst; rw [hst] at hh; simp at hh
        · have h6 : S.kind (S.root n) ≠ 6 := by rcases hkd with h | h <;> omega
          have hne : S.kids (S.root n) ≠ [] := by rw [hk]; simp
          rw [hk] at ih hsb hkl
          have hil : i < S.length := h0.kid_lt' (i := S.root n) (by rw [hk]; simp)
          have hjl : j < S.length := h0.kid_lt' (i := S.root n) (by rw [hk]; simp)
          have hsp := (hK.put (x := 0) hrn hne hM).1.le
          rw [(hK.put (x := 0) hrn hne hM).2] at hsp
          obtain ⟨v1, L1, c1, Z1, M1, a1, o1, q1⟩ := ih i (by simp) v L cnt Z' M hX1 hK hb1 hb2 hb3
          have hl1 := o1.len
          have hm1 := o1.le
          have hc1 := o1.cn
          have hk1 := o1.km.le
          obtain ⟨v2, L2, c2, Z2, M2, a2, o2, q2⟩ := ih j (by simp) v1 L1 c1 Z1 M1 o1.cx o1.km (by omega) (by omega) (by omega)
          have hl2 := o2.len
          have hm2 := o2.le
          have hc2 := o2.cn
          have hk2 := o2.km.le
          have hM1 : mget M1 (S.root n : Int) = none := Option.not_isSome_iff_eq_none.1 fun h => not_rch_kid h0 (by rw [hk]; simp) (o1.nw _ hM (Option.isSome_iff_ne_none.1 h))
          have hM2 : mget M2 (S.root n : Int) = none := Option.not_isSome_iff_eq_none.1 fun h => not_rch_kid h0 (by rw [hk]; simp) (o2.nw _ hM1 (Option.isSome_iff_ne_none.1 h))
          obtain ⟨hK2, hK2l⟩ := o2.km.put (x := (L2.length : Int)) hrn hne hM2
          have hk3 := hK2.le
          have hX3 := o2.cx.add (x := ⟨S.kind (S.root n), 0, none, [a1, a2]⟩) (.inr ⟨rfl, .inl ⟨hkd, rfl⟩⟩) rfl (by simp only [List.mem_cons, List.not_mem_nil, or_false, forall_eq_or_imp, forall_eq]; have := o1.mlt; have := o2.mlt; exact ⟨by omega, by omega⟩)
          have htr3 : ∀ i, i < L2.length → (L2 ++ [(⟨S.kind (S.root n), 0, none, [a1, a2]⟩, 0)] : Mem).st.tree i = L2.st.tree i := fun i hi => by
            rw [Mem.st_app]; exact o2.cx.si.wf.tree_add (by rw [← Mem.st_app L2 (_, 0)]; exact hX3.si.wf) rfl i (by rw [Mem.st_len]; exact hi)
          have htn : (L2 ++ [(⟨S.kind (S.root n), 0, none, [a1, a2]⟩, 0)] : Mem).st.tree L2.length = sbT (fOf S to) (S.tree n) := by
            have e0 : St.nd (L2 ++ [(⟨S.kind (S.root n), 0, none, [a1, a2]⟩, 0)] : Mem).st L2.length = ⟨S.kind (S.root n), 0, none, [a1, a2]⟩ := by rw [Mem.st_app, ← Mem.st_len L2, St.nd_app0]
            have er : St.root (L2 ++ [(⟨S.kind (S.root n), 0, none, [a1, a2]⟩, 0)] : Mem).st L2.length = L2.length := root_none (by rw [St.link, e0])
            rw [hX3.si.wf.tree_eq (by rw [Mem.st_len]; simp), er, St.kind, St.kids, e0, hsb, if_neg h6, if_neg h6]
            simp only [List.map_cons, List.map_nil, htr3 a1 (by have := o1.mlt; omega), htr3 a2 o2.mlt, o2.tr, o2.old a1 o1.mlt, o1.tr]
          refine ⟨v2 + 1, L2 ++ [(⟨S.kind (S.root n), 0, none, [a1, a2]⟩, 0)], c2 + 1, Z2, mput M2 (S.root n : Int) L2.length, L2.length, ⟨hX3.putM hrn (by simp) (by rw [htn, h0.tree_root hrn hn (h0.root_root n)]), hK2, by omega, by rw [List.length_append, hK2l, hl2, hl1]; simp only [List.length_cons, List.length_nil]; omega, by rw [hK2l]; omega, by simp, htn, fun i hi => by rw [htr3 i (by omega), o2.old i (by omega), o1.old i hi], fun h => ?_, fun x h1 h2 => ?_⟩, fun F hD => ?_⟩
          · rw [← hhr, hh] at h; cases h
          · rw [mget_put] at h2
            split at h2
            · rename_i e
              have : x = S.root n := by omega
              rw [this]; exact .here n
            · by_cases e : mget M1 (x : Int) = none
              · exact .kid n j x (by rw [hk]; simp) (o2.nw x e h2)
              · exact .kid n i x (by rw [hk]; simp) (o1.nw x h1 e)
          · have hnl2 : S.root n < L2.length := by omega
            have hnd2 : (L2.getD (S.root n) default).1.kind = S.kind (S.root n) := by rw [← L2.nd, o2.cx.nd _ hrn]; rfl
            have qa := fun F hD => add_c (F := F) (s := s) (r := r) (c := c) (m1 := m1) (m2 := m2) (m3 := m3) (v := v2) (L := L2) (cnt := c2) (lim := lim) (rd := rd) (to := to) (Z := Z2) (M := M2) (S.kind (S.root n)) [a1, a2] (by omega) ⟨by omega, by omega⟩ hD
            unfold DCalls
            refine acallsD_text C_ok Try.func93 rfl (by decide) (Nat.le_of_ble_eq_true rfl) (by decide) fun ok => ?_
            rw [Try.results93]
            have h := True.intro
            repeat' (first
             | (with_reducible first | refine goIf_b ?_ ?_ | refine goIf_n ?_ ?_ | refine goIf_d ?_ ?_ | refine goIf_split ?_ ?_ | refine goGb_b ?_ ?_ | refine goGb_n ?_ ?_ | refine goGb_d ?_ ?_ | refine goGb_split ?_ ?_ | refine goDGb_b ?_ ?_ | refine goDGb_n ?_ ?_ | refine goDGb_d ?_ ?_ | refine goDGb_split ?_ ?_) <;> intro h
             | ((first | refine goCall_norm ?_ | refine goDCall_norm ?_); simp only [AV.norm, AV.normL, W2, Go.Ab.W3, Int.reduceAdd, Int.reduceLT, Int.reduceToNat, Int.reduceBEq, Int.reduceBNe, Int.reduceLE, hpC, bxS, arS, cpB, sixP hD, findA_m, foundOr_m, mfind_some, mapPut_m, keyOK, Option.getD_none, Option.isSome_none, Option.getD_some, Option.isSome_some, mapN_len, embN_cells, embN_solid, kidI, I64, List.set_set, AV.bel, AV.belL, implies_true, retD_ret, retD_normal, ht, hM, hM2, hnl, hnl2, mapN_get hnl, mapN_get hnl2, hkl, hnd2]; first  | refine fsCallR (qr _ (by first | exact hD | exact hD.app _)) (.inl rfl) ?_ | refine fsCallD (qh _ (by first | exact hD | exact hD.app _)) (.inl rfl) (fun hb => hpC_bel (by first | exact hD | exact hD.app _) hb) ?_ | refine fsCallD (q1 _ (by first | exact hD | exact hD.app _)) (.inl rfl) (fun hb => hpC_bel (by first | exact hD | exact hD.app _) hb) ?_ | refine fsCallD (q2 _ (by first | exact hD | exact hD.app _)) (.inl rfl) (fun hb => hpC_bel (by first | exact hD | exact hD.app _) hb) ?_ | refine goDCall_z rfl (qa _ (by first | exact hD | exact hD.app _)) (.inl rfl) (fun hb => hpC_bel (by first | exact hD | exact hD.app _) hb) ?_)
             | refine go_drawF (id := 16) C_ok mixed 0 Try.f93.ntmps (by first | (simp; done) | (simp; omega)) rfl (by kernel_rfl) (by decide) ?_
             | refine goRound ?_ C_ok Try.f93.ntmps rfl (by decide)
             | skip) <;> simp only [h, ↓upd_eq, ↓envL_cons, Go.Ab.W0, Go.Ab.WD, if_true, if_false, reduceIte, Nat.reduceEqDiff, Nat.reduceAdd, Nat.reduceLT, Nat.reduceLeDiff, reduceCtorEq, Nat.reduceMul, implies_true, forall_eq_or_imp, forall_eq, Nat.reducePow, W1, fs_frz, fs_frz0, fs_env, fs_b, fs_n, fs_put, fs_put0, fs_tmp, fs_const, fs_func, fs_obj, fs_setObj, fs_new, fs_next, fs_mk, fs_H, le_app, le_set, app_get, app_set, app_get0c, app_getkc, app_set0c, app_setkc, List.append_assoc, not_false_eq_true, not_true_eq_false, retE_ret, retP_ret, List.length_append, List.length_set, Nat.le_succ, Go.Ab.W3, Int.reduceAdd, Int.reduceLT, Int.reduceToNat, Int.reduceBEq, Int.reduceBNe, Int.reduceLE, hpC, bxS, arS, cpB, sixP hD, findA_m, foundOr_m, mfind_some, mapPut_m, keyOK, Option.getD_none, Option.isSome_none, Option.getD_some, Option.isSome_some, mapN_len, embN_cells, embN_solid, kidI, I64, List.set_set, AV.bel, AV.belL, implies_true, retD_ret, retD_normal, ht, hM, hM2, hnl, hnl2, mapN_get hnl, mapN_get hnl2, hkl, hnd2, cutNormal_normal]
        · have h6 : S.kind (S.root n) ≠ 6 := by omega
          have hne : S.kids (S.root n) ≠ [] := by rw [hk]; simp
          rw [hk] at ih hsb hkl
          have hil : i < S.length := h0.kid_lt' (i := S.root n) (by rw [hk]; simp)
          have hsp := (hK.put (x := 0) hrn hne hM).1.le
          rw [(hK.put (x := 0) hrn hne hM).2] at hsp
          obtain ⟨v1, L1, c1, Z1, M1, a1, o1, q1⟩ := ih i (by simp) v L cnt Z' M hX1 hK hb1 hb2 hb3
          have hl1 := o1.len
          have hm1 := o1.le
          have hc1 := o1.cn
          have hk1 := o1.km.le
          have hM1 : mget M1 (S.root n : Int) = none := Option.not_isSome_iff_eq_none.1 fun h => not_rch_kid h0 (by rw [hk]; simp) (o1.nw _ hM (Option.isSome_iff_ne_none.1 h))
          obtain ⟨hK2, hK2l⟩ := o1.km.put (x := (L1.length : Int)) hrn hne hM1
          have hk3 := hK2.le
          have hX3 := o1.cx.add (x := ⟨S.kind (S.root n), 0, none, [a1]⟩) (.inr ⟨rfl, .inr ⟨hkd, rfl⟩⟩) rfl (by simp only [List.mem_cons, List.not_mem_nil, or_false, forall_eq]; have := o1.mlt; omega)
          have htr3 : ∀ i, i < L1.length → (L1 ++ [(⟨S.kind (S.root n), 0, none, [a1]⟩, 0)] : Mem).st.tree i = L1.st.tree i := fun i hi => by
            rw [Mem.st_app]; exact o1.cx.si.wf.tree_add (by rw [← Mem.st_app L1 (_, 0)]; exact hX3.si.wf) rfl i (by rw [Mem.st_len]; exact hi)
          have htn : (L1 ++ [(⟨S.kind (S.root n), 0, none, [a1]⟩, 0)] : Mem).st.tree L1.length = sbT (fOf S to) (S.tree n) := by
            have e0 : St.nd (L1 ++ [(⟨S.kind (S.root n), 0, none, [a1]⟩, 0)] : Mem).st L1.length = ⟨S.kind (S.root n), 0, none, [a1]⟩ := by rw [Mem.st_app, ← Mem.st_len L1, St.nd_app0]
            have er : St.root (L1 ++ [(⟨S.kind (S.root n), 0, none, [a1]⟩, 0)] : Mem).st L1.length = L1.length := root_none (by rw [St.link, e0])
            rw [hX3.si.wf.tree_eq (by rw [Mem.st_len]; simp), er, St.kind, St.kids, e0, hsb, if_neg h6, if_neg h6]
            simp only [List.map_cons, List.map_nil, htr3 a1 o1.mlt, o1.tr]
          refine ⟨v1 + 1, L1 ++ [(⟨S.kind (S.root n), 0, none, [a1]⟩, 0)], c1 + 1, Z1, mput M1 (S.root n : Int) L1.length, L1.length, ⟨hX3.putM hrn (by simp) (by rw [htn, h0.tree_root hrn hn (h0.root_root n)]), hK2, by omega, by rw [List.length_append, hK2l, hl1]; simp only [List.length_cons, List.length_nil]; omega, by rw [hK2l]; omega, by simp, htn, fun i hi => by rw [htr3 i (by omega), o1.old i hi], fun h => ?_, fun x h1 h2 => ?_⟩, fun F hD => ?_⟩
          · rw [← hhr, hh] at h; cases h
          · rw [mget_put] at h2
            split at h2
            · rename_i e
              have : x = S.root n := by omega
              rw [this]; exact .here n
            · exact .kid n i x (by rw [hk]; simp) (o1.nw x h1 h2)
          · have hnl2 : S.root n < L1.length := by omega
            have hnd2 : (L1.getD (S.root n) default).1.kind = S.kind (S.root n) := by rw [← L1.nd, o1.cx.nd _ hrn]; rfl
            have qa := fun F hD => add_c (F := F) (s := s) (r := r) (c := c) (m1 := m1) (m2 := m2) (m3 := m3) (v := v1) (L := L1) (cnt := c1) (lim := lim) (rd := rd) (to := to) (Z := Z1) (M := M1) (S.kind (S.root n)) [a1] (by omega) ⟨by omega, by omega⟩ hD
            unfold DCalls
            refine acallsD_text C_ok Try.func93 rfl (by decide) (Nat.le_of_ble_eq_true rfl) (by decide) fun ok => ?_
            rw [Try.results93]
            have h := True.intro
            repeat' (first
             | (with_reducible first | refine goIf_b ?_ ?_ | refine goIf_n ?_ ?_ | refine goIf_d ?_ ?_ | refine goIf_split ?_ ?_ | refine goGb_b ?_ ?_ | refine goGb_n ?_ ?_ | refine goGb_d ?_ ?_ | refine goGb_split ?_ ?_ | refine goDGb_b ?_ ?_ | refine goDGb_n ?_ ?_ | refine goDGb_d ?_ ?_ | refine goDGb_split ?_ ?_) <;> intro h
             | ((first | refine goCall_norm ?_ | refine goDCall_norm ?_); simp only [AV.norm, AV.normL, W2, Go.Ab.W3, Int.reduceAdd, Int.reduceLT, Int.reduceToNat, Int.reduceBEq, Int.reduceBNe, Int.reduceLE, hpC, bxS, arS, cpB, sixP hD, findA_m, foundOr_m, mfind_some, mapPut_m, keyOK, Option.getD_none, Option.isSome_none, Option.getD_some, Option.isSome_some, mapN_len, embN_cells, embN_solid, kidI, I64, List.set_set, AV.bel, AV.belL, implies_true, retD_ret, retD_normal, ht, hM, hM1, hnl, hnl2, mapN_get hnl, mapN_get hnl2, hkl, hnd2]; first  | refine fsCallR (qr _ (by first | exact hD | exact hD.app _)) (.inl rfl) ?_ | refine fsCallD (qh _ (by first | exact hD | exact hD.app _)) (.inl rfl) (fun hb => hpC_bel (by first | exact hD | exact hD.app _) hb) ?_ | refine fsCallD (q1 _ (by first | exact hD | exact hD.app _)) (.inl rfl) (fun hb => hpC_bel (by first | exact hD | exact hD.app _) hb) ?_ | refine goDCall_z rfl (qa _ (by first | exact hD | exact hD.app _)) (.inl rfl) (fun hb => hpC_bel (by first | exact hD | exact hD.app _) hb) ?_)
             | refine go_drawF (id := 16) C_ok mixed 0 Try.f93.ntmps (by first | (simp; done) | (simp; omega)) rfl (by kernel_rfl) (by decide) ?_
             | refine goRound ?_ C_ok Try.f93.ntmps rfl (by decide)
             | skip) <;> simp only [h, ↓upd_eq, ↓envL_cons, Go.Ab.W0, Go.Ab.WD, if_true, if_false, reduceIte, Nat.reduceEqDiff, Nat.reduceAdd, Nat.reduceLT, Nat.reduceLeDiff, reduceCtorEq, Nat.reduceMul, implies_true, forall_eq_or_imp, forall_eq, Nat.reducePow, W1, fs_frz, fs_frz0, fs_env, fs_b, fs_n, fs_put, fs_put0, fs_tmp, fs_const, fs_func, fs_obj, fs_setObj, fs_new, fs_next, fs_mk, fs_H, le_app, le_set, app_get, app_set, app_get0c, app_getkc, app_set0c, app_setkc, List.append_assoc, not_false_eq_true, not_true_eq_false, retE_ret, retP_ret, List.length_append, List.length_set, Nat.le_succ, Go.Ab.W3, Int.reduceAdd, Int.reduceLT, Int.reduceToNat, Int.reduceBEq, Int.reduceBNe, Int.reduceLE, hpC, bxS, arS, cpB, sixP hD, findA_m, foundOr_m, mfind_some, mapPut_m, keyOK, Option.getD_none, Option.isSome_none, Option.getD_some, Option.isSome_some, mapN_len, embN_cells, embN_solid, kidI, I64, List.set_set, AV.bel, AV.belL, implies_true, retD_ret, retD_normal, ht, hM, hM1, hnl, hnl2, mapN_get hnl, mapN_get hnl2, hkl, hnd2, cutNormal_normal]
    · replace hh : hld S to (S.root n) = false := by simpa using hh
      rw [hh] at qh
      have hh' : hld S to n = false := by rw [← hhr]; exact hh
      refine ⟨v, L, cnt, Z', M, S.root n, ⟨hX1, hK, Nat.le_refl _, by omega, by omega, by omega, ?_, fun _ _ => rfl, fun h => ⟨rfl, rfl⟩, fun x h1 h2 => absurd h1 h2⟩, fun F hD => ?_⟩
      · rw [(hX.tr _ hrn).1, h0.tree_root hrn hn (h0.root_root n)]
        exact (sb_same h0 (fun z t e m hm => by obtain ⟨a, b, e1, e2, e3, e4⟩ := hto _ _ e; have : m = a := by omega
                                                subst this; exact e3) n hn hh').symm
      · unfold DCalls
        refine acallsD_text C_ok Try.func93 rfl (by decide) (Nat.le_of_ble_eq_true rfl) (by decide) fun ok => ?_
        rw [Try.results93]
        have h := True.intro
        repeat' (first
         | (with_reducible first | refine goIf_b ?_ ?_ | refine goIf_n ?_ ?_ | refine goIf_d ?_ ?_ | refine goIf_split ?_ ?_ | refine goGb_b ?_ ?_ | refine goGb_n ?_ ?_ | refine goGb_d ?_ ?_ | refine goGb_split ?_ ?_ | refine goDGb_b ?_ ?_ | refine goDGb_n ?_ ?_ | refine goDGb_d ?_ ?_ | refine goDGb_split ?_ ?_) <;> intro h
         | ((first | refine goCall_norm ?_ | refine goDCall_norm ?_); simp only [AV.norm, AV.normL, W2, Go.Ab.W3, Int.reduceAdd, Int.reduceLT, Int.reduceToNat, Int.reduceBEq, Int.reduceBNe, Int.reduceLE, hpC, bxS, arS, cpB, sixP hD, findA_m, foundOr_m, mfind_some, mapPut_m, keyOK, Option.getD_none, Option.isSome_none, Option.getD_some, Option.isSome_some, mapN_len, embN_cells, embN_solid, kidI, I64, List.set_set, AV.bel, AV.belL, implies_true, retD_ret, retD_normal, ht]; first  | refine fsCallR (qr _ (by first | exact hD | exact hD.app _)) (.inl rfl) ?_ | refine fsCallD (qh _ (by first | exact hD | exact hD.app _)) (.inl rfl) (fun hb => hpC_bel (by first | exact hD | exact hD.app _) hb) ?_)
         | refine go_drawF (id := 16) C_ok mixed 0 Try.f93.ntmps (by first | (simp; done) | (simp; omega)) rfl (by kernel_rfl) (by decide) ?_
         | refine goRound ?_ C_ok Try.f93.ntmps rfl (by decide)
         | skip) <;> simp only [h, ↓upd_eq, ↓envL_cons, Go.Ab.W0, Go.Ab.WD, if_true, if_false, reduceIte, Nat.reduceEqDiff, Nat.reduceAdd, Nat.reduceLT, Nat.reduceLeDiff, reduceCtorEq, Nat.reduceMul, implies_true, forall_eq_or_imp, forall_eq, Nat.reducePow, W1, fs_frz, fs_frz0, fs_env, fs_b, fs_n, fs_put, fs_put0, fs_tmp, fs_const, fs_func, fs_obj, fs_setObj, fs_new, fs_next, fs_mk, fs_H, le_app, le_set, app_get, app_set, app_get0c, app_getkc, app_set0c, app_setkc, List.append_assoc, not_false_eq_true, not_true_eq_false, retE_ret, retP_ret, List.length_append, List.length_set, Nat.le_succ, Go.Ab.W3, Int.reduceAdd, Int.reduceLT, Int.reduceToNat, Int.reduceBEq, Int.reduceBNe, Int.reduceLE, hpC, bxS, arS, cpB, sixP hD, findA_m, foundOr_m, mfind_some, mapPut_m, keyOK, Option.getD_none, Option.isSome_none, Option.getD_some, Option.isSome_some, mapN_len, embN_cells, embN_solid, kidI, I64, List.set_set, AV.bel, AV.belL, implies_true, retD_ret, retD_normal, ht, cutNormal_normal]
theorem copy_ok (h0 : Wf S) (hto : TOK S to) (h12 : m1 ≠ m2) : ∀ n, n < S.length → CopyC s r c m1 m2 m3 S to lim rd n := by
  refine h0.ind (p := fun n => n < S.length → CopyC s r c m1 m2 m3 S to lim rd n) fun n ih hn => copy_step h0 hto h12 n hn fun k hk => ih k hk (h0.kid_lt' hk)
end

end Go.Proofs.Ytdngjamjccjlmaa
