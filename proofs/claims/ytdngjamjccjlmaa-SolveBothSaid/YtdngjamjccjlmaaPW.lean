/- Walks: rows of types of any length. No condition. -/
import Derived.Test.YtdngjamjccjlmaaPFa
import Derived.Test.YtdngjamjccjlmaaPHa
set_option linter.unusedSimpArgs false
set_option linter.unusedVariables false
set_option maxHeartbeats 4000000
set_option maxRecDepth 100000
namespace Go.Proofs.Ytdngjamjccjlmaa
open Go Go.Ab
open Nat renaming reduceEqDiff → yA, reduceAdd → yB, reduceLT → yC, reduceLeDiff → yD, reduceMul → yE, reducePow → yF, reduceBEq → yG
open Int renaming reduceAdd → yH, reduceLT → yI, reduceToNat → yJ, reduceBEq → yK, reduceBNe → yL, reduceLE → yM
attribute [local irreducible] PCalls ACalls CallK GoCall GoDCall GoIf GoGb GoDGb GoO GoD GoX GoDX GoG GoDG GoGv GoDGv Go ALoop

mutual
def cntW : Ty → Int → Int
  | .mk _ _ l, n => cntWL l (IntKind.wrap .i64 (n + 1))
def cntWL : List Ty → Int → Int
  | [], n => n
  | x :: l, n => if n ≤ 600 then cntWL l (cntW x n) else n
end
def cntWF : List Ty → Int → Int
  | [], n => n
  | x :: l, n => cntWF l (cntW x n)
def heavyW (l : List Ty) : Bool := decide (cntWF l 0 > 600)
def fineW (l : List Ty) : Bool := !heavyW l && rightL l
theorem smallW_ok (l : List Ty) : PCalls Try.prog 56 [.sl (l.map emb) .no] (.bool (small l)) := by
  refine pcalls_text C_ok Try.func56 rfl (by decide) (Nat.le_of_ble_eq_true rfl) (by decide) rfl fun ok H => ?_
  rw [Try.results56]
  have hmax : l.length ≤ maxLen := by
    have := ok.1; simp only [AV.okay, List.length_map] at this; exact this.1
  have h := True.intro
  repeat' (first
   | (with_reducible first | apply bA | apply bB | apply bC | apply bD | apply bE | apply bF) <;> intro h
   | skip) <;> simp only [h, ↓upd_eq, ↓envL_cons, WZ, reduceIte, yA, yB, yC, yD, reduceCtorEq, yE, yF, W1]
  have hfalse : ∀ i, i < l.length → small1 (l.getD i default) = false → small l = false := fun i h1 h2 => by rw [small, allN_false (g := fun i => small1 (l.getD i default)) h1 h2]
  have htrue : (∀ i, i < l.length → small1 (l.getD i default) = true) → small l = true := fun h => by rw [small, allN_true h]
  have c1 : ∀ t, heavy [t] = false → PCalls Try.prog 24 [emb t] (.sl ((varsT t).map I64) .no) := fun t h => rVars_ok t (Nat.le_trans (heavy_n h) (by decide))
  have c2 : ∀ t, PCalls Try.prog 119 [emb t, .int .i64 60] (.bool (deepT 60 t)) := fun t => deep_ok 60 t (by decide)
  refine aloop_trim [3, 0] ?_
  simp only [List.map_cons, List.map_nil, ↓upd_eq, ↓envL_cons, WZ, reduceIte, yA, yB, yC, yD, reduceCtorEq, yE, yF, W1]
  refine goLoopS 1 (fun i : Nat => [(3, .int .i64 i)]) (fun _ => _) (fun i => i ≤ l.length ∧ ∀ j, j < i → (fun j => small1 (l.getD j default)) j = true) (fun i => l.length - i) C_ok 0 rfl rfl ⟨Nat.zero_le _, by simp⟩ (by decide) ?_
  rintro i ⟨hi, hall⟩
  simp only [List.drop_succ_cons, List.drop_zero, List.cons_append, List.nil_append]
  simp only [↓upd_eq, ↓envL_cons, WZ, reduceIte, yA, yB, yC, yD, reduceCtorEq, yE, yF, W1]
  refine goIf_d (fun hlt => ?_) (fun hlt => ?_)
  · have h := True.intro
    repeat' (first
     | (with_reducible first | apply bA | apply bB | apply bC | apply bD | apply bE | apply bF) <;> intro h
     | ((first | apply bG | apply bH); simp only [AV.norm, AV.normL, W2, hlt, mapT_get hlt, List.length_map]; first | refine goCall_p (heavy1_ok _) (.inl rfl) ?_ | refine goCall_p (c1 _ (by assumption)) (.inl rfl) ?_ | refine goCall_p (c2 _) (.inl rfl) ?_ | refine goDCall_p (heavy1_ok _) (.inl rfl) ?_ | refine goDCall_p (c1 _ (by assumption)) (.inl rfl) ?_ | refine goDCall_p (c2 _) (.inl rfl) ?_)
     | skip) <;> simp only [h, ↓upd_eq, ↓envL_cons, WZ, reduceIte, yA, yB, yC, yD, reduceCtorEq, yE, yF, W1, hlt, mapT_get hlt, List.length_map]
    all_goals first
      | exact (hfalse i hlt (by first | assumption | (simp [*]; done) | exact small1_1 (by assumption) | exact small1_2 (by assumption) | exact small1_3 (by assumption) | exact small1_4 (by assumption) (by assumption) (by assumption))).symm
      | (refine ⟨i + 1, ⟨by omega, fun j hj => ?_⟩, by omega, weak_drop rfl rfl rfl rfl ?_ ?_ ?_⟩
         · rcases Nat.lt_succ_iff_lt_or_eq.1 hj with hj | rfl
           · exact hall j hj
           · first | assumption | (simp [*]; done) | exact small1_1 (by assumption) | exact small1_2 (by assumption) | exact small1_3 (by assumption) | exact small1_4 (by assumption) (by assumption) (by assumption)
         all_goals simp only [WK, ↓upd_eq, ↓envL_cons, yA, reduceIte, AV.bel, AV.belL, AObj.bel, AV.norm, AV.normL, yB, yC, wrap_succ hlt hmax, map_bel, AV.belL, List.length_map])
  · simp only [↓upd_eq, ↓envL_cons, WZ, reduceIte, yA, yB, yC, yD, reduceCtorEq, yE, yF, W1]
    exact (htrue fun j hj => hall j (by omega)).symm

end Go.Proofs.Ytdngjamjccjlmaa
