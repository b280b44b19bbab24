/- Walks: the kids of a node. No condition. -/
import Derived.Test.YtdngjamjccjlmaaPWb
set_option linter.unusedSimpArgs false
set_option linter.unusedVariables false
set_option maxHeartbeats 4000000
set_option maxRecDepth 100000
namespace Go.Proofs.Ytdngjamjccjlmaa
open Go Go.Ab
open Nat renaming reduceEqDiff → yA, reduceAdd → yB, reduceLT → yC, reduceLeDiff → yD, reduceMul → yE, reducePow → yF, reduceBEq → yG
open Int renaming reduceAdd → yH, reduceLT → yI, reduceToNat → yJ, reduceBEq → yK, reduceBNe → yL, reduceLE → yM
attribute [local irreducible] PCalls ACalls CallK GoCall GoDCall GoIf GoGb GoDGb GoO GoD GoX GoDX GoG GoDG GoGv GoDGv Go ALoop

theorem clone_ok (x : Int) (l : List Int) (hl : l.length ≤ 1000000) : PCalls Try.prog 122 [.sl ((x :: l).map I64) .no] (.sl ((x :: l).map I64) .no) := by
  have hb : (AV.sl ((x :: l).map I64) .no).bel 0 = true := by simp only [AV.bel, ints_bel, Bool.and_self]
  have r1 : (l.length + 1 ≤ 9223372036854775807) = True := by simp only [eq_iff_iff, iff_true]; omega
  have r2 : ((l.length + 1) * 8 ≤ 140737488355328) = True := by simp only [eq_iff_iff, iff_true]; omega
  have ha := all_int1 (x :: l)
  have hn := ints_norm (x :: l)
  simp only [List.map_cons] at hb ha hn ⊢
  refine pcalls_text C_ok Try.func122 rfl (by decide) (Nat.le_of_ble_eq_true rfl) (by decide) hb fun ok H => ?_
  rw [Try.results122]
  have h := True.intro
  repeat' (first
   | (with_reducible first | apply bA | apply bB | apply bC | apply bD | apply bE | apply bF) <;> intro h
   | skip) <;> simp only [h, ↓upd_eq, ↓envL_cons, WZ, reduceIte, yA, yB, yC, yD, reduceCtorEq, yE, yF, W1, ha, Int.le_refl, List.length_map, List.length_cons, r1, r2, hn]
  exact ⟨⟨rfl, rfl⟩, fun a ha => by obtain ⟨z, _, rfl⟩ := List.mem_map.1 ha; exact ⟨rfl, rfl⟩⟩
section
variable {F : List AObj} {s r v : Nat} {L : Mem} {lim cnt rd : Int}
theorem kids_in (hs : s < F.length) (hr : r < F.length) (hne : r ≠ s) (hw : Wf L.st) (n : Nat) (hn : n < L.length) (hk2 : (L.st.kids (L.st.root n)).length ≤ 1000000) (hk0 : L.st.kids (L.st.root n) ≠ []) : DCalls Try.prog 60 [.bptr s 0, .int .i64 n] (hpS F s r v L lim cnt rd) (.sl ((kidI (L.st.kids (L.st.root n))).map I64) .no) (hpS F s r v L lim cnt rd) := by
  have q1 := is_yes (v := v) (L := L) (lim := lim) (cnt := cnt) (rd := rd) hs hr hne hn
  have hrl : L.st.root n < L.length := by have := hw.root_lt n (by rw [Mem.st_len]; exact hn); rwa [Mem.st_len] at this
  have hk : (L.getD (L.st.root n) default).1.kids = L.st.kids (L.st.root n) := by rw [← L.nd]; rfl
  have q3 : PCalls Try.prog 122 [.sl ((kidI (L.st.kids (L.st.root n))).map I64) .no] (.sl ((kidI (L.st.kids (L.st.root n))).map I64) .no) := by
    cases hks : L.st.kids (L.st.root n) with
    | nil => exact absurd hks hk0
    | cons x l => rw [hks] at hk2; exact clone_ok x (kidI l) (by rw [kidI_len]; simp only [List.length_cons] at hk2; omega)
  unfold DCalls
  refine acallsD_text C_ok Try.func60 rfl (by decide) (Nat.le_of_ble_eq_true rfl) (by decide) fun ok => ?_
  rw [Try.results60]
  have h := True.intro
  repeat' (first
   | (with_reducible first | apply bA | apply bB | apply bC | apply bD | apply bE | apply bF) <;> intro h
   | ((first | apply bG | apply bH); simp only [AV.norm, AV.normL, W2, hpS, bxS, arS, stP hs hr hne, retD_ret, retD_normal, AV.bel, mapN_len, hrl, mapN_get hrl, embN_cells, hk, ints_norm]; first | refine goCall_p (q3) (.inl rfl) ?_ | refine goDCall_p (q3) (.inl rfl) ?_ | refine fsCallR (q1) (.inl rfl) ?_ | refine goDCall_q rfl (root_q (v := v) (L := L) (lim := lim) (cnt := cnt) (rd := rd) hs hr hne hw n hn (by simp [stP hs hr hne, bxS, arS])) (.inl rfl) ?_)
   | refine go_drawF (id := 3) C_ok (fun _ => trivial) mixed 0 Try.f60.ntmps (by first | (simp; done) | (simp; omega)) rfl (by kernel_rfl) (by decide) ?_
   | skip) <;> simp only [h, ↓upd_eq, ↓envL_cons, WY, reduceIte, yA, yB, yC, yD, reduceCtorEq, yE, yF, W1, WS, hpS, bxS, arS, stP hs hr hne, retD_ret, retD_normal, AV.bel, mapN_len, hrl, mapN_get hrl, embN_cells, hk, ints_norm]
  exact ints_bel _ _
end

end Go.Proofs.Ytdngjamjccjlmaa
