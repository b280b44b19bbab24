/- What wakes the laws of solve. No condition. -/
import Derived.Test.YtdngjamjccjlmaaB6
import Derived.Test.YtdngjamjccjlmaaW16
import Derived.Test.YtdngjamjccjlmaaWH
set_option linter.unusedSimpArgs false
set_option linter.unusedVariables false
set_option maxHeartbeats 4000000
set_option maxRecDepth 100000
namespace Go.Proofs.Ytdngjamjccjlmaa
open Go Go.Ab
open Nat renaming reduceEqDiff → yA, reduceAdd → yB, reduceLT → yC, reduceLeDiff → yD, reduceMul → yE, reducePow → yF, reduceBEq → yG
open Int renaming reduceAdd → yH, reduceLT → yI, reduceToNat → yJ, reduceBEq → yK, reduceBNe → yL, reduceLE → yM
attribute [local irreducible] PCalls ACalls CallK GoCall GoDCall GoIf GoGb GoDGb GoO GoD GoX GoDX GoG GoDG GoGv GoDGv Go ALoop

def vkT : T := .fn .dyn (.base 0)
def vkV : Mem := mem0 ++ [varN 2]
def vk0 : Sto := ⟨(putM vkT vkV).1, 6, 2, 0⟩
def vkR (lim : Int) (p : Nat × Nat) (σ : Sto) : Int × Int × Int × Sto := match runC lim 3 [p] σ with
  | some r => r
  | none => (0, 0, 0, σ)
def vk1 : Sto := (vkR 50 (5, 6) vk0).2.2.2
theorem vk1_run : RunB 50 3 [(5, 6)] vk0 (0, 0, 0, vk1) := runC_run _ _ _ _ (by kernel_rfl)
theorem vk2_run : RunB 50 3 [(0, 1)] vk1 (1, 2, 4, vk1) := runC_run _ _ _ _ (by kernel_rfl)
theorem vk0_good : GoodS vk0 := ⟨(putM_si vkT _ (SI.mem0.var 2) rfl).1, fun n h => by
  by_cases e : n < 7
  · have : n = 0 ∨ n = 1 ∨ n = 2 ∨ n = 3 ∨ n = 4 ∨ n = 5 ∨ n = 6 := by omega
    rcases this with rfl | rfl | rfl | rfl | rfl | rfl | rfl <;> decide
  · have hl : vk0.L.st.length = 7 := by decide
    rw [St.nd_ge (by omega)]; decide⟩
theorem vk1_good : GoodS vk1 := (run_good 3 _ _ _ vk0_good (by intro q hq; simp at hq; subst hq; decide) vk1_run).1
theorem vk1_facts : vk1.L.length = 10 ∧ vk1.L.st.root 5 = 9 ∧ vk1.L.st.kids 9 = [7, 8] ∧ vk1.L.st.kind 9 = 9 ∧ vk1.L.st.root 7 = 7 ∧ vk1.L.st.kind 7 = 6 ∧ (vk1.L.st.nd 7).level = 0 ∧ vk1.L.st.root 8 = 0 := by decide +kernel
section
variable {F : List AObj} {s r : Nat}
theorem vkq1 (hs : s < F.length) (hr : r < F.length) (hne : r ≠ s) : DCalls Try.prog 34 [.bptr s 0, .int .i64 2] (hpS F s r 4 mem0 50 0 0) (.tup [.int .i64 5, .int .i64 0]) (hpS F s r 5 vkV 50 1 0) :=
  var_ok hs hr hne 2 (by decide) (by decide) (by decide) (by decide)
theorem vkq2 (hs : s < F.length) (hr : r < F.length) (hne : r ≠ s) : DCalls Try.prog 42 [.bptr s 0, emb (twoT 9 (leafT 5) (leafT 1))] (hpS F s r 5 vkV 50 1 0) (.tup [.int .i64 6, .int .i64 0]) (hpS F s r 6 vk0.L 50 2 0) :=
  put_done hs hr hne vkT rfl rfl (by decide) (by decide) (by decide)
theorem vkq3 (hs : s < F.length) (hr : r < F.length) (hne : r ≠ s) : DCalls Try.prog 45 [.bptr s 0, .int .i64 5, .int .i64 6] (hpS F s r 6 vk0.L 50 2 0) (.tup [.int .i64 0, .int .i64 0, .int .i64 0]) (hpS F s r vk1.v vk1.L 50 vk1.cnt vk1.rd) :=
  agree_ok hs hr hne vk0_good (by decide) (by decide) vk1_run
theorem vkq4 (hs : s < F.length) (hr : r < F.length) (hne : r ≠ s) : DCalls Try.prog 45 [.bptr s 0, .int .i64 0, .int .i64 1] (hpS F s r vk1.v vk1.L 50 vk1.cnt vk1.rd) (.tup [.int .i64 1, .int .i64 2, .int .i64 4]) (hpS F s r vk1.v vk1.L 50 vk1.cnt vk1.rd) :=
  agree_ok hs hr hne vk1_good (by rw [vk1_facts.1]; decide) (by rw [vk1_facts.1]; decide) vk2_run
theorem vkq5 (hs : s < F.length) (hr : r < F.length) (hne : r ≠ s) : DCalls Try.prog 60 [.bptr s 0, .int .i64 5] (hpS F s r vk1.v vk1.L 50 vk1.cnt vk1.rd) (.sl [.int .i64 7, .int .i64 8] .no) (hpS F s r vk1.v vk1.L 50 vk1.cnt vk1.rd) := by
  have h := kids_in (v := vk1.v) (lim := 50) (cnt := vk1.cnt) (rd := vk1.rd) hs hr hne vk1_good.si.wf 5 (by rw [vk1_facts.1]; decide) (by rw [vk1_facts.2.1, vk1_facts.2.2.1]; decide) (by rw [vk1_facts.2.1, vk1_facts.2.2.1]; decide)
  rw [vk1_facts.2.1, vk1_facts.2.2.1] at h
  exact h
theorem vkq6 (hs : s < F.length) (hr : r < F.length) (hne : r ≠ s) : DCalls Try.prog 32 [.bptr s 0, .int .i64 5] (hpS F s r vk1.v vk1.L 50 vk1.cnt vk1.rd) (.int .i64 9) (hpS F s r vk1.v vk1.L 50 vk1.cnt vk1.rd) := by
  have h := kind_in (v := vk1.v) (lim := 50) (cnt := vk1.cnt) (rd := vk1.rd) hs hr hne vk1_good.si.wf 5 (by rw [vk1_facts.1]; decide)
  rw [vk1_facts.2.1, vk1_facts.2.2.2.1] at h
  exact h
theorem vkq7 (hs : s < F.length) (hr : r < F.length) (hne : r ≠ s) : DCalls Try.prog 32 [.bptr s 0, .int .i64 7] (hpS F s r vk1.v vk1.L 50 vk1.cnt vk1.rd) (.int .i64 6) (hpS F s r vk1.v vk1.L 50 vk1.cnt vk1.rd) := by
  have h := kind_in (v := vk1.v) (lim := 50) (cnt := vk1.cnt) (rd := vk1.rd) hs hr hne vk1_good.si.wf 7 (by rw [vk1_facts.1]; decide)
  rw [vk1_facts.2.2.2.2.1, vk1_facts.2.2.2.2.2.1] at h
  exact h
theorem vkq8 (hs : s < F.length) (hr : r < F.length) (hne : r ≠ s) : DCalls Try.prog 35 [.bptr s 0, .int .i64 7] (hpS F s r vk1.v vk1.L 50 vk1.cnt vk1.rd) (.int .i64 0) (hpS F s r vk1.v vk1.L 50 vk1.cnt vk1.rd) := by
  have h := level_in (v := vk1.v) (lim := 50) (cnt := vk1.cnt) (rd := vk1.rd) hs hr hne vk1_good.si.wf 7 (by rw [vk1_facts.1]; decide)
  rw [vk1_facts.2.2.2.2.1, if_pos vk1_facts.2.2.2.2.2.1, vk1_facts.2.2.2.2.2.2.1] at h
  exact h
theorem vkq9 (hs : s < F.length) (hr : r < F.length) (hne : r ≠ s) : DCalls Try.prog 29 [.bptr s 0, .int .i64 8] (hpS F s r vk1.v vk1.L 50 vk1.cnt vk1.rd) (.int .i64 0) (hpS F s r vk1.v vk1.L 50 vk1.cnt vk1.rd) := by
  have h := root_in (v := vk1.v) (lim := 50) (cnt := vk1.cnt) (rd := vk1.rd) hs hr hne vk1_good.si.wf 8 (by rw [vk1_facts.1]; decide)
  rw [vk1_facts.2.2.2.2.2.2.2] at h
  exact h
end
theorem wakes13_ok : PCalls Try.prog 46 [] (.bool true) := by
  refine pcalls_text C_ok Try.func46 rfl (by decide) (Nat.le_of_ble_eq_true rfl) (by decide) rfl fun ok H => ?_
  rw [Try.results46]
  rw [initS_fs]
  obtain ⟨G, s, r, hs, hr, hne, hl, ht, hbs, hbr, hnew⟩ := new_st H 50
  rw [show limOf 50 = 50 by decide] at hnew
  have hle : ∀ k, (H.length ≤ G.length + k) = True := fun k => by simp only [eq_iff_iff, iff_true]; omega
  have hb0 : H.length ≤ H.length := Nat.le_refl _
  have h := True.intro
  repeat' (first
   | (with_reducible first | apply bA | apply bB | apply bC | apply bD | apply bE | apply bF) <;> intro h
   | ((first | apply bG | apply bH); simp only [AV.norm, AV.normL, W2, W3, yH, yI, yJ, yK, yL, yM, hpS, bxS, arS, stP hs hr hne, retD_ret, retD_normal, AV.bel, mapN_len, hb0, hl, hle, emb_bel, implies_true, AV.belL, emb_mk0]; first | refine goCall_p (leaf_ok 5) (.inl rfl) ?_ | refine goCall_p (leaf_ok 1) (.inl rfl) ?_ | refine goCall_p (two_ok 9 _ _) (.inl rfl) ?_ | refine goDCall_p (leaf_ok 5) (.inl rfl) ?_ | refine goDCall_p (leaf_ok 1) (.inl rfl) ?_ | refine goDCall_p (two_ok 9 _ _) (.inl rfl) ?_ | refine fsCallD (hnew) (.inl rfl) (fun hb => new_bel (by simp) hbs hbr ht hb) ?_ | refine fsCallD (vkq1 (by first|exact hs|simp<;>omega) (by first|exact hr|simp<;>omega) hne) (.inl rfl) (fun hb => hpS_bel (by first|exact hs|simp<;>omega) (by first|exact hr|simp<;>omega) hne hb) ?_ | refine fsCallD (vkq2 (by first|exact hs|simp<;>omega) (by first|exact hr|simp<;>omega) hne) (.inl rfl) (fun hb => hpS_bel (by first|exact hs|simp<;>omega) (by first|exact hr|simp<;>omega) hne hb) ?_ | refine fsCallD (vkq3 (by first|exact hs|simp<;>omega) (by first|exact hr|simp<;>omega) hne) (.inl rfl) (fun hb => hpS_bel (by first|exact hs|simp<;>omega) (by first|exact hr|simp<;>omega) hne hb) ?_ | refine fsCallR (vkq5 (by first|exact hs|simp<;>omega) (by first|exact hr|simp<;>omega) hne) (.inl rfl) ?_ | refine fsCallD (vkq4 (by first|exact hs|simp<;>omega) (by first|exact hr|simp<;>omega) hne) (.inl rfl) (fun hb => hpS_bel (by first|exact hs|simp<;>omega) (by first|exact hr|simp<;>omega) hne hb) ?_ | refine fsCallR (vkq6 (by first|exact hs|simp<;>omega) (by first|exact hr|simp<;>omega) hne) (.inl rfl) ?_ | refine fsCallR (vkq7 (by first|exact hs|simp<;>omega) (by first|exact hr|simp<;>omega) hne) (.inl rfl) ?_ | refine fsCallR (vkq8 (by first|exact hs|simp<;>omega) (by first|exact hr|simp<;>omega) hne) (.inl rfl) ?_ | refine fsCallR (vkq9 (by first|exact hs|simp<;>omega) (by first|exact hr|simp<;>omega) hne) (.inl rfl) ?_)
   | refine goRound ?_ C_ok Try.f46.ntmps rfl (by decide)
   | skip) <;> simp only [h, ↓upd_eq, ↓envL_cons, WY, reduceIte, yA, yB, yC, yD, reduceCtorEq, yE, yF, W1, WS, W3, yH, yI, yJ, yK, yL, yM, hpS, bxS, arS, stP hs hr hne, retD_ret, retD_normal, AV.bel, mapN_len, hb0, hl, hle, emb_bel, implies_true, AV.belL, emb_mk0, cutNormal_normal]
  all_goals exact st_take hbs hbr ht

end Go.Proofs.Ytdngjamjccjlmaa
