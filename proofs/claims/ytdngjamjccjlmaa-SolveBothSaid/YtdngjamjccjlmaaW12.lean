/- Walks: what every law of stores begins with. No condition. -/
import Derived.Test.YtdngjamjccjlmaaPWc
import Derived.Test.YtdngjamjccjlmaaPFa
set_option linter.unusedSimpArgs false
set_option linter.unusedVariables false
set_option maxHeartbeats 4000000
set_option maxRecDepth 100000
namespace Go.Proofs.Ytdngjamjccjlmaa
open Go Go.Ab
open Nat renaming reduceEqDiff → yA, reduceAdd → yB, reduceLT → yC, reduceLeDiff → yD, reduceMul → yE, reducePow → yF, reduceBEq → yG
open Int renaming reduceAdd → yH, reduceLT → yI, reduceToNat → yJ, reduceBEq → yK, reduceBNe → yL, reduceLE → yM
attribute [local irreducible] PCalls ACalls CallK GoCall GoDCall GoIf GoGb GoDGb GoO GoD GoX GoDX GoG GoDG GoGv GoDGv Go ALoop

theorem hp_new (F : List AObj) (v : Nat) (L : Mem) (lim cnt rd : Int) (x y : AObj) : hpS (F ++ [x, y]) F.length (F.length + 1) v L lim cnt rd = F ++ [bxS (F.length + 1) v L.length lim cnt rd, arS v L] := by
  unfold hpS stF
  rw [app_set0c rfl, app_setkc rfl]; rfl
theorem new_st (F : List AObj) (n : Int) : ∃ G s r, s < G.length ∧ r < G.length ∧ r ≠ s ∧ F.length ≤ G.length ∧ G.take F.length = F ∧ F.length ≤ s ∧ F.length ≤ r ∧
    DCalls Try.prog 21 [.int .i64 n] F (.bptr s 0) (hpS G s r 4 mem0 (limOf n) 0 0) := by
  refine ⟨F ++ [.dead, .dead], F.length, F.length + 1, by simp, by simp, by omega, by simp, List.take_left' rfl, by omega, by omega, ?_⟩
  rw [hp_new]
  exact new_ok F n
theorem hpS_take {G : List AObj} {s r v b : Nat} {L : Mem} {lim cnt rd : Int} (hs : b ≤ s) (hr : b ≤ r) : (hpS G s r v L lim cnt rd).take b = G.take b := by
  unfold hpS stF
  rw [List.take_set, List.take_set, List.set_eq_of_length_le (by simp; omega), List.set_eq_of_length_le (by simp; omega)]
def wk1 : Mem := mem0 ++ [varN 2]
def wk2 : Mem := wk1 ++ [(⟨7, 0, none, [5, 0]⟩, 0)]
def wk3 : Mem := wk2 ++ [(⟨8, 0, none, [5]⟩, 0)]
def wk4 : Mem := mkL wk3 1 (wk3.st.all 6)
def wk5 : Mem := linkM wk4 1 5 1
theorem new_bel {F G : List AObj} {s r v b : Nat} {L : Mem} {lim cnt rd : Int} (hb : b ≤ F.length) (hs : F.length ≤ s) (hr : F.length ≤ r) (ht : G.take F.length = F) (h : ∀ x ∈ F.take b, x.bel b = true) :
    ∀ x ∈ (hpS G s r v L lim cnt rd).take b, x.bel b = true := by
  have e : G.take b = F.take b := by rw [← ht, List.take_take, Nat.min_eq_left hb]
  rw [hpS_take (by omega) (by omega), e]; exact h
section
variable {F : List AObj} {s r : Nat}
end
theorem stJ_take {F G J : List AObj} {s r : Nat} {bx ar : AObj} (hs : F.length ≤ s) (hr : F.length ≤ r) (hl : F.length ≤ G.length) (ht : G.take F.length = F) : (stF (G ++ J) s r bx ar).take F.length = F := by
  unfold stF
  rw [List.take_set, List.take_set, List.set_eq_of_length_le (by simp; omega), List.set_eq_of_length_le (by simp; omega), List.take_append_of_le_length hl, ht]
end Go.Proofs.Ytdngjamjccjlmaa
