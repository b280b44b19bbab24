/- Lemmas: the functions that the laws of coercions share. No condition. -/
import Derived.Test.YtdngjamjccjlmaaPVa
import Derived.Test.YtdngjamjccjlmaaPFa
import Derived.Test.YtdngjamjccjlmaaPMa

set_option linter.unusedSimpArgs false
set_option linter.unusedVariables false
set_option maxHeartbeats 4000000
set_option maxRecDepth 100000
namespace Go.Proofs.Ytdngjamjccjlmaa
open Go Go.Ab
open Nat renaming reduceEqDiff → yA, reduceAdd → yB, reduceLT → yC, reduceLeDiff → yD, reduceMul → yE, reducePow → yF, reduceBEq → yG
open Int renaming reduceAdd → yH, reduceLT → yI, reduceToNat → yJ, reduceBEq → yK, reduceBNe → yL, reduceLE → yM
section
attribute [local irreducible] PCalls ACalls CallK GoCall GoDCall GoIf GoGb GoDGb GoO GoD GoX GoDX GoG GoDG GoGv GoDGv Go ALoop

def deepT : Nat → Ty → Bool
  | 0, _ => true
  | n + 1, t => !allN t.kids.length fun i => !deepT n (t.kid i)
theorem deep_ok : ∀ (n : Nat) (t : Ty), n ≤ 1000 → PCalls Try.prog 119 [emb t, .int .i64 n] (.bool (deepT n t)) := by
  intro n
  induction n with
  | zero =>
    intro t _
    show PCalls _ _ [emb t, .int .i64 0] (.bool true)
    refine pcalls_text C_ok Try.func119 rfl (by decide) (Nat.le_of_ble_eq_true rfl) (by decide) rfl fun ok H => ?_
    rw [Try.results119]
    have h := True.intro
    repeat' (first
     | (with_reducible first | apply bA | apply bB | apply bC | apply bD | apply bE | apply bF) <;> intro h
     | refine goRound ?_ C_ok Try.f119.ntmps rfl (by decide)
     | skip) <;> simp only [h, ↓upd_eq, ↓envL_cons, WZ, reduceIte, yA, yB, yC, yD, reduceCtorEq, yE, yF, W1, W3, yH, yI, yJ, yK, yL, yM, cutNormal_normal]
  | succ n ih =>
    intro t hn
    have hw : IntKind.wrap .i64 (((n + 1 : Nat) : Int) - 1) = (n : Int) := by rw [wrap_i (by omega) (by omega)]; omega
    have h0 : ¬ ((n + 1 : Nat) : Int) ≤ 0 := by omega
    generalize ha : ((n + 1 : Nat) : Int) = m at hw h0 ⊢
    have c : ∀ x, PCalls Try.prog 119 [emb x, .int .i64 n] (.bool (deepT n x)) := fun x => ih x (by omega)
    refine pcalls_text C_ok Try.func119 rfl (by decide) (Nat.le_of_ble_eq_true rfl) (by decide) rfl fun ok H => ?_
    rw [Try.results119]
    have h := True.intro
    repeat' (first
     | (with_reducible first | apply bA | apply bB | apply bC | apply bD | apply bE | apply bF) <;> intro h
     | skip) <;> simp only [h, ↓upd_eq, ↓envL_cons, WZ, reduceIte, yA, yB, yC, yD, reduceCtorEq, yE, yF, W1, h0]
    have hmax : t.kids.length ≤ maxLen := (emb_okay ok.1).1
    have hfalse : ∀ i, i < t.kids.length → (!deepT n (t.kid i)) = false → deepT (n + 1) t = true := fun i h1 h2 => by rw [deepT, allN_false (g := fun i => !deepT n (t.kid i)) h1 h2]; rfl
    have htrue : (∀ i, i < t.kids.length → (!deepT n (t.kid i)) = true) → deepT (n + 1) t = false := fun h => by rw [deepT, allN_true h]; rfl
    refine aloop_trim [5, 1, 2] ?_
    simp only [List.map_cons, List.map_nil, ↓upd_eq, ↓envL_cons, WZ, reduceIte, yA, yB, yC, yD, reduceCtorEq, yE, yF, W1]
    refine goLoopS 1 (fun i : Nat => [(5, .int .i64 i)]) (fun _ => _) (fun i => i ≤ t.kids.length ∧ ∀ j, j < i → (fun j => !deepT n (t.kid j)) j = true) (fun i => t.kids.length - i) C_ok 0 rfl rfl ⟨Nat.zero_le _, by simp⟩ (by decide) ?_
    rintro i ⟨hi, hall⟩
    simp only [List.drop_succ_cons, List.drop_zero, List.cons_append, List.nil_append]
    simp only [↓upd_eq, ↓envL_cons, WZ, reduceIte, yA, yB, yC, yD, reduceCtorEq, yE, yF, W1]
    refine goIf_d (fun hlt => ?_) (fun hlt => ?_)
    · have h := True.intro
      repeat' (first
       | (with_reducible first | apply bA | apply bB | apply bC | apply bD | apply bE | apply bF) <;> intro h
       | ((first | apply bG | apply bH); simp only [AV.norm, AV.normL, W2, hlt, map_emb_kid hlt, hw, h0]; first | refine goCall_p (c _) (.inl rfl) ?_ | refine goDCall_p (c _) (.inl rfl) ?_)
       | skip) <;> simp only [h, ↓upd_eq, ↓envL_cons, WZ, reduceIte, yA, yB, yC, yD, reduceCtorEq, yE, yF, W1, hlt, map_emb_kid hlt, hw, h0]
      all_goals first
        | exact (hfalse i hlt (by first | assumption | (simp [*]; done) | fail)).symm
        | (refine ⟨i + 1, ⟨by omega, fun j hj => ?_⟩, by omega, weak_drop rfl rfl rfl rfl ?_ ?_ ?_⟩
           · rcases Nat.lt_succ_iff_lt_or_eq.1 hj with hj | rfl
             · exact hall j hj
             · first | assumption | (simp [*]; done) | fail
           all_goals simp only [WK, ↓upd_eq, ↓envL_cons, yA, reduceIte, AV.bel, AV.belL, AObj.bel, AV.norm, AV.normL, yB, yC, wrap_succ hlt hmax, map_bel, AV.belL, List.length_map])
    · simp only [↓upd_eq, ↓envL_cons, WZ, reduceIte, yA, yB, yC, yD, reduceCtorEq, yE, yF, W1]
      exact (htrue fun j hj => hall j (by omega)).symm

def small1 (t : Ty) : Bool := !(heavy [t] || deepT 60 t || decide (8 < (varsT t).length))
def small (l : List Ty) : Bool := allN l.length fun i => small1 (l.getD i default)
theorem mapT_get {l : List Ty} {i : Nat} (h : i < l.length) : (l.map emb).getD i .any = emb (l.getD i default) := by simp [h]
theorem heavy_n {t : Ty} (h : heavy [t] = false) : nodes t ≤ 600 := heavy_nodes (l := [t]) (by rw [h]; decide) (by simp)
theorem small1_nodes {t : Ty} (h : small1 t = true) : nodes t ≤ 600 := by
  simp only [small1, Bool.not_eq_true', Bool.or_eq_false_iff] at h; exact heavy_n h.1.1
theorem small_mem {l : List Ty} (h : small l = true) {t : Ty} (ht : t ∈ l) : small1 t = true := by
  obtain ⟨i, hi, rfl⟩ := List.getElem_of_mem ht
  have := (allN_iff.1 h) i hi
  simpa [hi] using this
theorem small1_1 {t : Ty} (h : heavy [t] = true) : small1 t = false := by simp [small1, h]
theorem small1_2 {t : Ty} (h : deepT 60 t = true) : small1 t = false := by simp [small1, h]
theorem small1_3 {t : Ty} (h : (((varsT t).length : Nat) : Int) > 8) : small1 t = false := by
  have : 8 < (varsT t).length := by omega
  simp [small1, this]
theorem small1_4 {t : Ty} (h1 : heavy [t] = false) (h2 : deepT 60 t = false) (h3 : ¬ (((varsT t).length : Nat) : Int) > 8) : small1 t = true := by
  have : ¬ 8 < (varsT t).length := by omega
  simp only [small1, h1, h2, this, Bool.or_false, decide_false, Bool.not_false]
end
end Go.Proofs.Ytdngjamjccjlmaa
