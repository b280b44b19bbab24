/- Walks: the store: whether there is ?; levels are lowered. No condition. -/
import Derived.Test.YtdngjamjccjlmaaW17
set_option linter.unusedSimpArgs false
set_option linter.unusedVariables false
set_option maxHeartbeats 4000000
set_option maxRecDepth 100000
namespace Go.Proofs.Ytdngjamjccjlmaa
open Go Go.Ab
open Nat renaming reduceEqDiff → yA, reduceAdd → yB, reduceLT → yC, reduceLeDiff → yD, reduceMul → yE, reducePow → yF, reduceBEq → yG
open Int renaming reduceAdd → yH, reduceLT → yI, reduceToNat → yJ, reduceBEq → yK, reduceBNe → yL, reduceLE → yM
attribute [local irreducible] PCalls ACalls CallK GoCall GoDCall GoIf GoGb GoDGb GoO GoD GoX GoDX GoG GoDG GoGv GoDGv Go ALoop

section
variable {F : List AObj} {s r v : Nat} {L : Mem} {lim cnt rd : Int}
theorem static_in (hs : s < F.length) (hr : r < F.length) (hne : r ≠ s) (hw : Wf L.st) (hm : MB L rd) (hL : L.length ≤ 1000000) (hrd : 0 ≤ rd ∧ rd ≤ 1000000000000) (n : Nat) (hn : n < L.length) :
    DCalls Try.prog 33 [.bptr s 0, .int .i64 n] (hpS F s r v L lim cnt rd) (.bool (!decide (4 ∈ L.st.all n))) (hpS F s r v (mkL L (rd + 1) (L.st.all n)) lim cnt (rd + 1)) := by
  have q1 := is_yes (v := v) (L := L) (lim := lim) (cnt := cnt) (rd := rd) hs hr hne hn
  have q3 := roots_ok (v := v) (lim := lim) (cnt := cnt) hs hr hne hw hm hL hrd n hn
  have q5 := contains_ok (kidI (L.st.all n)) 4
  rw [show decide ((4 : Int) ∈ kidI (L.st.all n)) = decide (4 ∈ L.st.all n) by rw [decide_eq_decide]; exact mem_kidI (n := 4)] at q5
  unfold DCalls
  refine acallsD_text C_ok Try.func33 rfl (by decide) (Nat.le_of_ble_eq_true rfl) (by decide) fun ok => ?_
  rw [Try.results33]
  have h := True.intro
  repeat' (first
   | (with_reducible first | apply bA | apply bB | apply bC | apply bD | apply bE | apply bF) <;> intro h
   | ((first | apply bG | apply bH); simp only [AV.norm, AV.normL, W2, hpS, bxS, arS, stP hs hr hne, retD_ret, retD_normal, AV.bel, mapN_len, ints_norm]; first | refine goCall_p (q5) (.inl rfl) ?_ | refine goDCall_p (q5) (.inl rfl) ?_ | refine fsCallR (q1) (.inl rfl) ?_ | refine fsCallD (q3) (.inl rfl) (fun hb => hpS_bel (by first|exact hs|simp<;>omega) (by first|exact hr|simp<;>omega) hne hb) ?_)
   | skip) <;> simp only [h, ↓upd_eq, ↓envL_cons, WY, reduceIte, yA, yB, yC, yD, reduceCtorEq, yE, yF, W1, WS, hpS, bxS, arS, stP hs hr hne, retD_ret, retD_normal, AV.bel, mapN_len, ints_norm]
theorem Lower_yes (hs : s < F.length) (hr : r < F.length) (hne : r ≠ s) (hw : Wf L.st) (hm : MB L rd) (hL : L.length ≤ 1000000) (hrd : 0 ≤ rd ∧ rd ≤ 1000000000000) (n : Nat) (hn : n < L.length) {lv : Int} (hlv : ¬ lv < 0) :
    DCalls Try.prog 37 [.bptr s 0, .int .i64 n, .int .i64 lv] (hpS F s r v L lim cnt rd) (.int .i64 0) (hpS F s r v (lowL (mkL L (rd + 1) (L.st.all n)) lv (L.st.vars n)) lim cnt (rd + 1)) := by
  have q1 := is_yes (v := v) (L := L) (lim := lim) (cnt := cnt) (rd := rd) hs hr hne hn
  have q3 := lower_ok (v := v) (lim := lim) (cnt := cnt) hs hr hne hw hm hL hrd n hn lv
  generalize lowL (mkL L (rd + 1) (L.st.all n)) lv (L.st.vars n) = M at *
  unfold DCalls
  refine acallsD_text C_ok Try.func37 rfl (by decide) (Nat.le_of_ble_eq_true rfl) (by decide) fun ok => ?_
  rw [Try.results37]
  have h := True.intro
  repeat' (first
   | (with_reducible first | apply bA | apply bB | apply bC | apply bD | apply bE | apply bF) <;> intro h
   | ((first | apply bG | apply bH); simp only [AV.norm, AV.normL, W2, hpS, bxS, arS, stP hs hr hne, retD_ret, retD_normal, AV.bel, mapN_len, hlv]; first  | refine fsCallR (q1) (.inl rfl) ?_ | refine fsCallD (q3) (.inl rfl) (fun hb => hpS_bel (by first|exact hs|simp<;>omega) (by first|exact hr|simp<;>omega) hne hb) ?_)
   | skip) <;> simp only [h, ↓upd_eq, ↓envL_cons, WY, reduceIte, yA, yB, yC, yD, reduceCtorEq, yE, yF, W1, WS, hpS, bxS, arS, stP hs hr hne, retD_ret, retD_normal, AV.bel, mapN_len, hlv]
end

end Go.Proofs.Ytdngjamjccjlmaa
