/- Walks: what every law of stores begins with. No condition. -/
import Derived.Test.YtdngjamjccjlmaaPWc
import Derived.Test.YtdngjamjccjlmaaPFa
set_option linter.unusedSimpArgs false
set_option linter.unusedVariables false
set_option maxHeartbeats 4000000
set_option maxRecDepth 100000
namespace Go.Proofs.Ytdngjamjccjlmaa
open Go Go.Ab
attribute [local irreducible] PCalls ACalls CallK GoCall GoDCall GoIf GoGb GoDGb GoO GoD GoX GoDX GoG GoDG GoGv GoDGv Go ALoop

theorem hp_new (F : List AObj) (v : Nat) (L : Mem) (lim cnt rd : Int) (x y : AObj) : hpS (F ++ [x, y]) F.length (F.length + 1) v L lim cnt rd = F ++ [bxS (F.length + 1) v L.length lim cnt rd, arS v L] := by
  unfold hpS stF
  rw [app_set0c rfl, app_setkc rfl]; rfl
/-- A new store behind a heap. -/
theorem new_st (F : List AObj) (n : Int) : ∃ G s r, s < G.length ∧ r < G.length ∧ r ≠ s ∧ F.length ≤ G.length ∧ G.take F.length = F ∧ F.length ≤ s ∧ F.length ≤ r ∧
    DCalls Try.prog 21 [.int .i64 n] F (.bptr s 0) (hpS G s r 4 mem0 (limOf n) 0 0) := by
  refine ⟨F ++ [.dead, .dead], F.length, F.length + 1, by simp, by simp, by omega, by simp, List.take_left' rfl, by omega, by omega, ?_⟩
  rw [hp_new]
  exact new_ok F n
theorem hpS_take {G : List AObj} {s r v b : Nat} {L : Mem} {lim cnt rd : Int} (hs : b ≤ s) (hr : b ≤ r) : (hpS G s r v L lim cnt rd).take b = G.take b := by
  unfold hpS stF
  rw [List.take_set, List.take_set, List.set_eq_of_length_le (by simp; omega), List.set_eq_of_length_le (by simp; omega)]
/-! The store that is met there. -/
def wk1 : Mem := mem0 ++ [varN 2]
def wk2 : Mem := wk1 ++ [(⟨7, 0, none, [5, 0]⟩, 0)]
def wk3 : Mem := wk2 ++ [(⟨8, 0, none, [5]⟩, 0)]
theorem wk3_si : SI wk3 0 := ((SI.mem0.var 2).two (.inl rfl) (by decide) (by decide)).one (by decide)
def wk4 : Mem := mkL wk3 1 (wk3.st.all 6)
theorem wk4_si : SI wk4 1 := wk3_si.mark _
def wk5 : Mem := linkM wk4 1 5 1
theorem wk4_st : wk4.st = wk3.st := mkL_st _ _ _
theorem wk5_lk : Wf (wk4.st.lk 5 1) ∧ SI wk5 3 ∧ Lv (wk4.st.lk 5 1) wk5.st :=
  wk4_si.link (by decide) (by decide) (by decide) (by decide) (by decide) (by decide)
theorem wk5_tree6 : wk5.st.tree 6 = .mk 7 0 [.mk 2 0 [], .mk 1 0 []] := by rw [wk5_lk.2.2.tree, wk4_st]; rfl
theorem wk5_tree7 : wk5.st.tree 7 = .mk 8 0 [.mk 2 0 []] := by rw [wk5_lk.2.2.tree, wk4_st]; rfl
theorem wk5_root : wk5.st.root 5 = 1 := by rw [wk5_lk.2.2.root, wk4_st]; decide

theorem new_bel {F G : List AObj} {s r v b : Nat} {L : Mem} {lim cnt rd : Int} (hb : b ≤ F.length) (hs : F.length ≤ s) (hr : F.length ≤ r) (ht : G.take F.length = F) (h : ∀ x ∈ F.take b, x.bel b = true) :
    ∀ x ∈ (hpS G s r v L lim cnt rd).take b, x.bel b = true := by
  have e : G.take b = F.take b := by rw [← ht, List.take_take, Nat.min_eq_left hb]
  rw [hpS_take (by omega) (by omega), e]; exact h
/-- A call of New. -/
theorem fsNew {K : Exit → AState → Prop} {k : List KI} {e : Nat → AV} {F : List AObj} {b m : Nat} {n : Int} {CC : Cfg} {dst : Option Tmp} {ops : Array Oper} {todo : List Oper} (hb : b ≤ F.length)
    (hK : ∀ G s r, s < G.length → r < G.length → r ≠ s → F.length ≤ G.length → G.take F.length = F → F.length ≤ s → F.length ≤ r → GoO Try.prog CC K ops todo k ((FS e (hpS G s r 4 mem0 (limOf n) 0 0) b m).put dst (.bptr s 0))) :
    GoCall Try.prog CC K 21 [.int .i64 n] dst ops todo k (FS e F b m) := by
  obtain ⟨G, s, r, hs, hr, hne, hl, ht, hbs, hbr, hnew⟩ := new_st F n
  exact fsCallD hnew (.inl rfl) (fun h => new_bel hb hbs hbr ht h) (hK G s r hs hr hne hl ht hbs hbr)
theorem st_old {F G : List AObj} {s r q : Nat} {x : AObj} (hq : F[q]? = some x) (ht : G.take F.length = F) (hs : F.length ≤ s) (hr : F.length ≤ r) :
    (∀ bx ar, (stF G s r bx ar)[q]? = some x) ∧ ∀ J bx ar, (stF (G ++ J) s r bx ar)[q]? = some x := by
  have hl := get_lt hq
  have e : G[q]? = some x := by rw [← ht] at hq; rw [List.getElem?_take_of_lt hl] at hq; exact hq
  have hg := get_lt e
  exact ⟨fun bx ar => by rw [stF_o (by omega) (by omega)]; exact e, fun J bx ar => by rw [stF_o (by omega) (by omega), List.getElem?_append_left hg]; exact e⟩
section
variable {F : List AObj} {s r : Nat}
theorem wkq1 (hs : s < F.length) (hr : r < F.length) (hne : r ≠ s) : DCalls Try.prog 34 [.bptr s 0, .int .i64 2] (hpS F s r 4 mem0 8 0 0) (.tup [.int .i64 5, .int .i64 0]) (hpS F s r 5 wk1 8 1 0) :=
  var_ok hs hr hne 2 (by decide) (by decide) (by decide) (by decide)
theorem wkq2 (hs : s < F.length) (hr : r < F.length) (hne : r ≠ s) : DCalls Try.prog 82 [.bptr s 0, .int .i64 7, .int .i64 5, .int .i64 0] (hpS F s r 5 wk1 8 1 0) (.tup [.int .i64 6, .int .i64 0]) (hpS F s r 6 wk2 8 2 0) :=
  make_ok hs hr hne 7 5 0 (.inl rfl) (by decide) (by decide) (by decide) (by decide) (by decide)
theorem wkq3 (hs : s < F.length) (hr : r < F.length) (hne : r ≠ s) : DCalls Try.prog 82 [.bptr s 0, .int .i64 8, .int .i64 5, .int .i64 99] (hpS F s r 6 wk2 8 2 0) (.tup [.int .i64 7, .int .i64 0]) (hpS F s r 7 wk3 8 3 0) :=
  make_list hs hr hne 5 99 (by decide) (by decide) (by decide) (by decide)
theorem wkq4 (hs : s < F.length) (hr : r < F.length) (hne : r ≠ s) : DCalls Try.prog 25 [.bptr s 0, .int .i64 5, .int .i64 6] (hpS F s r 7 wk3 8 3 0) (.int .i64 5) (hpS F s r 7 wk4 8 3 1) :=
  link_loop hs hr hne wk3_si.wf wk3_si.mb (by decide) (by decide) 5 6 (by decide) (by decide) (by decide) (by decide) (by decide)
theorem wkq5 (hs : s < F.length) (hr : r < F.length) (hne : r ≠ s) : DCalls Try.prog 25 [.bptr s 0, .int .i64 5, .int .i64 1] (hpS F s r 7 wk4 8 3 1) (.int .i64 0) (hpS F s r 7 wk5 8 3 3) :=
  link_ok hs hr hne wk4_si.wf wk4_si.mb (by decide) (by decide) 5 1 (by decide) (by decide) (by decide) (by decide) (by decide)
theorem wk5_len : wk5.length = 8 := linkM_len
theorem wkq6 (hs : s < F.length) (hr : r < F.length) (hne : r ≠ s) : DCalls Try.prog 30 [.bptr s 0, .int .i64 6] (hpS F s r 7 wk5 8 3 3) (.tup [emb (.mk 7 0 [.mk 2 0 [], .mk 1 0 []]), .int .i64 0]) (hpS F s r 7 wk5 8 6 3) := by
  have h := read_gen (F := F) (s := s) (r := r) (v := 7) (L := wk5) (lim := 8) (cnt := 3) (rd := 3) hs hr hne wk5_lk.2.1.wf 6 (by rw [wk5_len]; decide) (by decide)
  rw [wk5_tree6] at h
  exact h
theorem wkq7 (hs : s < F.length) (hr : r < F.length) (hne : r ≠ s) : DCalls Try.prog 30 [.bptr s 0, .int .i64 7] (hpS F s r 7 wk5 8 6 3) (.tup [emb (.mk 8 0 [.mk 2 0 []]), .int .i64 0]) (hpS F s r 7 wk5 8 8 3) := by
  have h := read_gen (F := F) (s := s) (r := r) (v := 7) (L := wk5) (lim := 8) (cnt := 6) (rd := 3) hs hr hne wk5_lk.2.1.wf 7 (by rw [wk5_len]; decide) (by decide)
  rw [wk5_tree7] at h
  exact h
theorem wkq9 {e : Nat → AV} {b m : Nat} {G : List AObj} (hs : s < F.length) (hr : r < F.length) (hne : r ≠ s) (hG : G[s]? = some (bxS r 7 wk5.length 8 8 3) ∧ G[r]? = some (arS 7 wk5)) : QCalls Try.prog 29 [.bptr s 0, .int .i64 5] (.int .i64 1) (FS e G b m).obj := by
  have h := root_q (e := e) (b := b) (m := m) (v := 7) (L := wk5) (lim := 8) (cnt := 8) (rd := 3) hs hr hne wk5_lk.2.1.wf 5 (by rw [wk5_len]; decide) hG
  rw [wk5_root] at h
  exact h
end
theorem count_q {F : List AObj} {s r v : Nat} {L : Mem} {lim cnt rd : Int} {e : Nat → AV} {b m : Nat} {G : List AObj} (hs : s < F.length) (hr : r < F.length) (hne : r ≠ s) (hG : G[s]? = some (bxS r v L.length lim cnt rd) ∧ G[r]? = some (arS v L)) :
    QCalls Try.prog 36 [.bptr s 0] (.int .i64 cnt) (FS e G b m).obj :=
  qcalls_st (fun F' h1 h2 => scount_ok h1 h2 hne) (by rw [fs_obj]; exact hG.1) (by rw [fs_obj]; exact hG.2) rfl rfl
theorem stJ_take {F G J : List AObj} {s r : Nat} {bx ar : AObj} (hs : F.length ≤ s) (hr : F.length ≤ r) (hl : F.length ≤ G.length) (ht : G.take F.length = F) : (stF (G ++ J) s r bx ar).take F.length = F := by
  unfold stF
  rw [List.take_set, List.take_set, List.set_eq_of_length_le (by simp; omega), List.set_eq_of_length_le (by simp; omega), List.take_append_of_le_length hl, ht]
theorem wakes12_ok : PCalls Try.prog 26 [] (.bool true) := by
  refine pcalls_text C_ok Try.func26 rfl (by decide) (Nat.le_of_ble_eq_true rfl) (by decide) rfl fun ok H => ?_
  rw [Try.results26]
  rw [initS_fs]
  obtain ⟨G, s, r, hs, hr, hne, hl, ht, hbs, hbr, hnew⟩ := new_st H 8
  rw [show limOf 8 = 8 by decide] at hnew
  have hle : ∀ k, (H.length ≤ G.length + k) = True := fun k => by simp only [eq_iff_iff, iff_true]; omega
  have hb0 : H.length ≤ H.length := Nat.le_refl _
  have hsame : same (.mk 7 0 [.mk 2 0 [], .mk 1 0 []]) (twoT 7 (leafT 2) (leafT 1)) = true := by decide
  have h := True.intro
  repeat' (first
   | (with_reducible first | refine goIf_b ?_ ?_ | refine goIf_n ?_ ?_ | refine goIf_d ?_ ?_ | refine goIf_split ?_ ?_ | refine goGb_b ?_ ?_ | refine goGb_n ?_ ?_ | refine goGb_d ?_ ?_ | refine goGb_split ?_ ?_ | refine goDGb_b ?_ ?_ | refine goDGb_n ?_ ?_ | refine goDGb_d ?_ ?_ | refine goDGb_split ?_ ?_) <;> intro h
   | ((first | refine goCall_norm ?_ | refine goDCall_norm ?_); simp only [AV.norm, AV.normL, W2, hpS, bxS, arS, stP hs hr hne, retD_ret, retD_normal, AV.bel, mapN_len, hsame, hb0, hl, hle, emb_bel, implies_true, AV.belL, emb_mk0]; first | refine goCall_p (leaf_ok 2) (.inl rfl) ?_ | refine goCall_p (leaf_ok 1) (.inl rfl) ?_ | refine goCall_p (two_ok 7 _ _) (.inl rfl) ?_ | refine goCall_p (ksame_ok _ _) (.inl rfl) ?_ | refine goDCall_p (leaf_ok 2) (.inl rfl) ?_ | refine goDCall_p (leaf_ok 1) (.inl rfl) ?_ | refine goDCall_p (two_ok 7 _ _) (.inl rfl) ?_ | refine goDCall_p (ksame_ok _ _) (.inl rfl) ?_ | refine fsCallD (hnew) (.inl rfl) (fun hb => new_bel (by simp) hbs hbr ht hb) ?_ | refine fsCallD (wkq1 (by first | exact hs | exact lt_app hs | exact lt_app (lt_set hs) | exact lt_set hs) (by first | exact hr | exact lt_app hr | exact lt_app (lt_set hr) | exact lt_set hr) hne) (.inl rfl) (fun hb => hpS_bel (by first | exact hs | exact lt_app hs | exact lt_app (lt_set hs) | exact lt_set hs) (by first | exact hr | exact lt_app hr | exact lt_app (lt_set hr) | exact lt_set hr) hne hb) ?_ | refine fsCallD (wkq2 (by first | exact hs | exact lt_app hs | exact lt_app (lt_set hs) | exact lt_set hs) (by first | exact hr | exact lt_app hr | exact lt_app (lt_set hr) | exact lt_set hr) hne) (.inl rfl) (fun hb => hpS_bel (by first | exact hs | exact lt_app hs | exact lt_app (lt_set hs) | exact lt_set hs) (by first | exact hr | exact lt_app hr | exact lt_app (lt_set hr) | exact lt_set hr) hne hb) ?_ | refine fsCallD (wkq3 (by first | exact hs | exact lt_app hs | exact lt_app (lt_set hs) | exact lt_set hs) (by first | exact hr | exact lt_app hr | exact lt_app (lt_set hr) | exact lt_set hr) hne) (.inl rfl) (fun hb => hpS_bel (by first | exact hs | exact lt_app hs | exact lt_app (lt_set hs) | exact lt_set hs) (by first | exact hr | exact lt_app hr | exact lt_app (lt_set hr) | exact lt_set hr) hne hb) ?_ | refine fsCallD (wkq4 (by first | exact hs | exact lt_app hs | exact lt_app (lt_set hs) | exact lt_set hs) (by first | exact hr | exact lt_app hr | exact lt_app (lt_set hr) | exact lt_set hr) hne) (.inl rfl) (fun hb => hpS_bel (by first | exact hs | exact lt_app hs | exact lt_app (lt_set hs) | exact lt_set hs) (by first | exact hr | exact lt_app hr | exact lt_app (lt_set hr) | exact lt_set hr) hne hb) ?_ | refine fsCallD (wkq5 (by first | exact hs | exact lt_app hs | exact lt_app (lt_set hs) | exact lt_set hs) (by first | exact hr | exact lt_app hr | exact lt_app (lt_set hr) | exact lt_set hr) hne) (.inl rfl) (fun hb => hpS_bel (by first | exact hs | exact lt_app hs | exact lt_app (lt_set hs) | exact lt_set hs) (by first | exact hr | exact lt_app hr | exact lt_app (lt_set hr) | exact lt_set hr) hne hb) ?_ | refine fsCallD (wkq6 (by first | exact hs | exact lt_app hs | exact lt_app (lt_set hs) | exact lt_set hs) (by first | exact hr | exact lt_app hr | exact lt_app (lt_set hr) | exact lt_set hr) hne) (.inl rfl) (fun hb => hpS_bel (by first | exact hs | exact lt_app hs | exact lt_app (lt_set hs) | exact lt_set hs) (by first | exact hr | exact lt_app hr | exact lt_app (lt_set hr) | exact lt_set hr) hne hb) ?_ | refine fsCallD (wkq7 (by first | exact hs | exact lt_app hs | exact lt_app (lt_set hs) | exact lt_set hs) (by first | exact hr | exact lt_app hr | exact lt_app (lt_set hr) | exact lt_set hr) hne) (.inl rfl) (fun hb => hpS_bel (by first | exact hs | exact lt_app hs | exact lt_app (lt_set hs) | exact lt_set hs) (by first | exact hr | exact lt_app hr | exact lt_app (lt_set hr) | exact lt_set hr) hne hb) ?_ | refine goDCall_q rfl (wkq9 hs hr hne ⟨stg_s hs hne, stg_r hr⟩) (.inl rfl) ?_ | refine goDCall_q rfl (count_q hs hr hne ⟨stg_s hs hne, stg_r hr⟩) (.inl rfl) ?_)
   | refine go_drawF (id := 11) C_ok mixed 0 Try.f26.ntmps (by first | (simp; done) | (simp; omega)) rfl (by kernel_rfl) (by decide) ?_
   | skip) <;> simp only [h, ↓upd_eq, ↓envL_cons, Go.Ab.W0, Go.Ab.WD, if_true, if_false, reduceIte, Nat.reduceEqDiff, Nat.reduceAdd, Nat.reduceLT, Nat.reduceLeDiff, reduceCtorEq, Nat.reduceMul, implies_true, forall_eq_or_imp, forall_eq, Nat.reducePow, W1, fs_frz, fs_frz0, fs_env, fs_b, fs_n, fs_put, fs_put0, fs_tmp, fs_const, fs_func, fs_obj, fs_setObj, fs_new, fs_next, fs_mk, fs_H, le_app, le_set, app_get, app_set, app_get0c, app_getkc, app_set0c, app_setkc, List.append_assoc, not_false_eq_true, not_true_eq_false, retE_ret, retP_ret, List.length_append, List.length_set, Nat.le_succ, hpS, bxS, arS, stP hs hr hne, retD_ret, retD_normal, AV.bel, mapN_len, hsame, hb0, hl, hle, emb_bel, implies_true, AV.belL, emb_mk0]
  all_goals exact stJ_take hbs hbr hl ht

end Go.Proofs.Ytdngjamjccjlmaa
