/- Lemmas: the functions of types, first part. No condition. -/
import Derived.Test.YtdngjamjccjlmaaPMa

set_option linter.unusedSimpArgs false
set_option linter.unusedVariables false
set_option maxHeartbeats 4000000
namespace Go.Proofs.Ytdngjamjccjlmaa
open Go Go.Ab
open Nat renaming reduceEqDiff → yA, reduceAdd → yB, reduceLT → yC, reduceLeDiff → yD, reduceMul → yE, reducePow → yF, reduceBEq → yG
open Int renaming reduceAdd → yH, reduceLT → yI, reduceToNat → yJ, reduceBEq → yK, reduceBNe → yL, reduceLE → yM
section
attribute [local irreducible] PCalls ACalls CallK GoCall GoDCall GoIf GoGb GoDGb GoO GoD GoX GoDX GoG GoDG GoGv GoDGv Go ALoop

theorem map_emb_kid {t : Ty} {i : Nat} (h : i < t.kids.length) : (t.kids.map emb).getD i .any = emb (t.kid i) := by simp [h, Ty.kid]
theorem kid_mem {t : Ty} {i : Nat} (h : i < t.kids.length) : t.kid i ∈ t.kids := by simp [h, Ty.kid]

theorem arity_ok (k : Int) : PCalls Try.prog 157 [.int .i64 k] (.int .i64 (arity k)) := by
  refine pcalls_text C_ok Try.func157 rfl (by decide) (Nat.le_of_ble_eq_true rfl) (by decide) rfl fun ok H => ?_
  rw [Try.results157]
  have h := True.intro
  repeat' (first
   | (with_reducible first | refine bA ?_ ?_ | refine bB ?_ ?_ | refine bC ?_ ?_ | refine bD ?_ ?_ | refine bE ?_ ?_ | refine bF ?_ ?_) <;> intro h
   | skip) <;> simp only [h, ↓upd_eq, ↓envL_cons, WZ, reduceIte, yA, yB, yC, yD, reduceCtorEq, yE, yF, W1]
  all_goals (simp only [beq_iff_eq, beq_eq_false_iff_ne] at *; unfold arity; (repeat' split) <;> omega)

theorem kids_ok (k : Int) : PCalls Try.prog 81 [.int .i64 k] (.int .i64 (arity k)) := by
  refine pcalls_text C_ok Try.func81 rfl (by decide) (Nat.le_of_ble_eq_true rfl) (by decide) rfl fun ok H => ?_
  rw [Try.results81]
  have h := True.intro
  repeat' (first
   | (with_reducible first | refine bA ?_ ?_ | refine bB ?_ ?_ | refine bC ?_ ?_ | refine bD ?_ ?_ | refine bE ?_ ?_ | refine bF ?_ ?_) <;> intro h
   | skip) <;> simp only [h, ↓upd_eq, ↓envL_cons, WZ, reduceIte, yA, yB, yC, yD, reduceCtorEq, yE, yF, W1]
  all_goals (simp only [beq_iff_eq, beq_eq_false_iff_ne] at *; unfold arity; (repeat' split) <;> omega)

theorem right_step (t : Ty) (ih : ∀ x ∈ t.kids, PCalls Try.prog 135 [emb x] (.bool (right x))) : PCalls Try.prog 135 [emb t] (.bool (right t)) := by
  refine pcalls_text C_ok Try.func135 rfl (by decide) (Nat.le_of_ble_eq_true rfl) (by decide) rfl fun ok H => ?_
  rw [Try.results135]
  have h := True.intro
  repeat' (first
   | (with_reducible first | refine bA ?_ ?_ | refine bB ?_ ?_ | refine bC ?_ ?_ | refine bD ?_ ?_ | refine bE ?_ ?_ | refine bF ?_ ?_) <;> intro h
   | ((first | apply bG | apply bH); simp only [AV.norm, AV.normL, W2]; first | refine goCall_p (arity_ok _) (.inl rfl) ?_ | refine goDCall_p (arity_ok _) (.inl rfl) ?_)
   | skip) <;> simp only [h, ↓upd_eq, ↓envL_cons, WZ, reduceIte, yA, yB, yC, yD, reduceCtorEq, yE, yF, W1]
  all_goals have hmax : t.kids.length ≤ maxLen := (emb_okay ok.1).1
  case refine_2.refine_2.refine_2.refine_2 =>
    have hN : okN t = true := by simp_all [okN]
    have hfalse : ∀ i, i < t.kids.length → right (t.kid i) = false → right t = false := fun i h1 h2 => by rw [right_eq, allN_false h1 h2]; simp
    have htrue : (∀ i, i < t.kids.length → right (t.kid i) = true) → right t = true := fun h => by rw [right_eq, allN_true h, hN]; rfl
    refine aloop_trim [35, 33, 34] ?_
    simp only [List.map_cons, List.map_nil, ↓upd_eq, ↓envL_cons, WZ, reduceIte, yA, yB, yC, yD, reduceCtorEq, yE, yF, W1]
    refine goLoopS 1 (fun i : Nat => [(35, .int .i64 i)]) (fun _ => _) (fun i => i ≤ t.kids.length ∧ ∀ j, j < i → (fun j => right (t.kid j)) j = true) (fun i => t.kids.length - i) C_ok 0 rfl rfl ⟨Nat.zero_le _, by simp⟩ (by decide) ?_
    rintro i ⟨hi, hall⟩
    simp only [List.drop_succ_cons, List.drop_zero, List.cons_append, List.nil_append]
    simp only [↓upd_eq, ↓envL_cons, WZ, reduceIte, yA, yB, yC, yD, reduceCtorEq, yE, yF, W1]
    refine goIf_d (fun hlt => ?_) (fun hlt => ?_)
    · have h := True.intro
      repeat' (first
       | (with_reducible first | refine bA ?_ ?_ | refine bB ?_ ?_ | refine bC ?_ ?_ | refine bD ?_ ?_ | refine bE ?_ ?_ | refine bF ?_ ?_) <;> intro h
       | ((first | apply bG | apply bH); simp only [AV.norm, AV.normL, W2, hlt, map_emb_kid hlt]; first | refine goCall_p (ih _ (kid_mem hlt)) (.inl rfl) ?_ | refine goDCall_p (ih _ (kid_mem hlt)) (.inl rfl) ?_)
       | skip) <;> simp only [h, ↓upd_eq, ↓envL_cons, WZ, reduceIte, yA, yB, yC, yD, reduceCtorEq, yE, yF, W1, hlt, map_emb_kid hlt]
      all_goals first
        | exact (hfalse i hlt (by first | assumption | simp only [*])).symm
        | (refine ⟨i + 1, ⟨by omega, fun j hj => ?_⟩, by omega, weak_drop rfl rfl rfl rfl ?_ ?_ ?_⟩
           · rcases Nat.lt_succ_iff_lt_or_eq.1 hj with hj | rfl
             · exact hall j hj
             · first | assumption | simp only [*]
           all_goals simp only [WK, ↓upd_eq, ↓envL_cons, yA, reduceIte, AV.bel, AV.belL, AObj.bel, AV.norm, AV.normL, yB, yC, wrap_succ hlt hmax, map_bel, AV.belL, List.length_map])
    · simp only [↓upd_eq, ↓envL_cons, WZ, reduceIte, yA, yB, yC, yD, reduceCtorEq, yE, yF, W1]
      exact (htrue fun j hj => hall j (by omega)).symm
  all_goals rw [right_eq]
  case refine_2.refine_2.refine_1.refine_1 | refine_2.refine_2.refine_1.refine_2 =>
    have hk : t.kids.length = 0 := by simp_all [arity]
    rw [hk, allN_zero]; simp_all [okN] <;> (try intros) <;> (try omega)
  all_goals (simp_all [okN] <;> (try intros) <;> (try omega))

theorem right_ok (t : Ty) : PCalls Try.prog 135 [emb t] (.bool (right t)) := Ty.ind right_step t
theorem check_ok (t : Ty) : PCalls Try.prog 94 [emb t] (.int .i64 (if right t = true then 0 else 1)) := by
  refine pcalls_text C_ok Try.func94 rfl (by decide) (Nat.le_of_ble_eq_true rfl) (by decide) rfl fun ok H => ?_
  rw [Try.results94]
  have h := True.intro
  repeat' (first
   | (with_reducible first | refine bA ?_ ?_ | refine bB ?_ ?_ | refine bC ?_ ?_ | refine bD ?_ ?_ | refine bE ?_ ?_ | refine bF ?_ ?_) <;> intro h
   | ((first | apply bG | apply bH); simp only [AV.norm, AV.normL, W2]; first | refine goCall_p (right_ok _) (.inl rfl) ?_ | refine goDCall_p (right_ok _) (.inl rfl) ?_)
   | skip) <;> simp only [h, ↓upd_eq, ↓envL_cons, WZ, reduceIte, yA, yB, yC, yD, reduceCtorEq, yE, yF, W1]
  all_goals simp_all

theorem without_step (t : Ty) (k : Int) (ih : ∀ x ∈ t.kids, PCalls Try.prog 136 [emb x, .int .i64 k] (.bool (without k x))) : PCalls Try.prog 136 [emb t, .int .i64 k] (.bool (without k t)) := by
  refine pcalls_text C_ok Try.func136 rfl (by decide) (Nat.le_of_ble_eq_true rfl) (by decide) rfl fun ok H => ?_
  rw [Try.results136]
  have h := True.intro
  repeat' (first
   | (with_reducible first | refine bA ?_ ?_ | refine bB ?_ ?_ | refine bC ?_ ?_ | refine bD ?_ ?_ | refine bE ?_ ?_ | refine bF ?_ ?_) <;> intro h
   | skip) <;> simp only [h, ↓upd_eq, ↓envL_cons, WZ, reduceIte, yA, yB, yC, yD, reduceCtorEq, yE, yF, W1]
  all_goals have hmax : t.kids.length ≤ maxLen := (emb_okay ok.1).1
  case refine_2 =>
    have hfalse : ∀ i, i < t.kids.length → without k (t.kid i) = false → without k t = false := fun i h1 h2 => by rw [without_eq, allN_false h1 h2]; simp
    have htrue : (∀ i, i < t.kids.length → without k (t.kid i) = true) → without k t = true := fun h => by rw [without_eq, allN_true h]; simp_all
    refine aloop_trim [14, 1, 12, 13] ?_
    simp only [List.map_cons, List.map_nil, ↓upd_eq, ↓envL_cons, WZ, reduceIte, yA, yB, yC, yD, reduceCtorEq, yE, yF, W1]
    refine goLoopS 1 (fun i : Nat => [(14, .int .i64 i)]) (fun _ => _) (fun i => i ≤ t.kids.length ∧ ∀ j, j < i → (fun j => without k (t.kid j)) j = true) (fun i => t.kids.length - i) C_ok 0 rfl rfl ⟨Nat.zero_le _, by simp⟩ (by decide) ?_
    rintro i ⟨hi, hall⟩
    simp only [List.drop_succ_cons, List.drop_zero, List.cons_append, List.nil_append]
    simp only [↓upd_eq, ↓envL_cons, WZ, reduceIte, yA, yB, yC, yD, reduceCtorEq, yE, yF, W1]
    refine goIf_d (fun hlt => ?_) (fun hlt => ?_)
    · have h := True.intro
      repeat' (first
       | (with_reducible first | refine bA ?_ ?_ | refine bB ?_ ?_ | refine bC ?_ ?_ | refine bD ?_ ?_ | refine bE ?_ ?_ | refine bF ?_ ?_) <;> intro h
       | ((first | apply bG | apply bH); simp only [AV.norm, AV.normL, W2, hlt, map_emb_kid hlt]; first | refine goCall_p (ih _ (kid_mem hlt)) (.inl rfl) ?_ | refine goDCall_p (ih _ (kid_mem hlt)) (.inl rfl) ?_)
       | skip) <;> simp only [h, ↓upd_eq, ↓envL_cons, WZ, reduceIte, yA, yB, yC, yD, reduceCtorEq, yE, yF, W1, hlt, map_emb_kid hlt]
      all_goals first
        | exact (hfalse i hlt (by first | assumption | simp only [*])).symm
        | (refine ⟨i + 1, ⟨by omega, fun j hj => ?_⟩, by omega, weak_drop rfl rfl rfl rfl ?_ ?_ ?_⟩
           · rcases Nat.lt_succ_iff_lt_or_eq.1 hj with hj | rfl
             · exact hall j hj
             · first | assumption | simp only [*]
           all_goals simp only [WK, ↓upd_eq, ↓envL_cons, yA, reduceIte, AV.bel, AV.belL, AObj.bel, AV.norm, AV.normL, yB, yC, wrap_succ hlt hmax, map_bel, AV.belL, List.length_map])
    · simp only [↓upd_eq, ↓envL_cons, WZ, reduceIte, yA, yB, yC, yD, reduceCtorEq, yE, yF, W1]
      exact (htrue fun j hj => hall j (by omega)).symm
  all_goals (rw [without_eq]; simp_all)
theorem without_ok (t : Ty) (k : Int) : PCalls Try.prog 136 [emb t, .int .i64 k] (.bool (without k t)) := Ty.ind (p := fun t => PCalls Try.prog 136 [emb t, .int .i64 k] (.bool (without k t))) (fun t ih => without_step t k ih) t

theorem closed_ok (t : Ty) : PCalls Try.prog 95 [emb t] (.bool (without 6 t)) := by
  refine pcalls_text C_ok Try.func95 rfl (by decide) (Nat.le_of_ble_eq_true rfl) (by decide) rfl fun ok H => ?_
  rw [Try.results95]
  have h := True.intro
  repeat' (first
   | (with_reducible first | refine bA ?_ ?_ | refine bB ?_ ?_ | refine bC ?_ ?_ | refine bD ?_ ?_ | refine bE ?_ ?_ | refine bF ?_ ?_) <;> intro h
   | ((first | apply bG | apply bH); simp only [AV.norm, AV.normL, W2]; first | refine goCall_p (without_ok _ _) (.inl rfl) ?_ | refine goDCall_p (without_ok _ _) (.inl rfl) ?_)
   | skip) <;> simp only [h, ↓upd_eq, ↓envL_cons, WZ, reduceIte, yA, yB, yC, yD, reduceCtorEq, yE, yF, W1]
end
section
attribute [local irreducible] PCalls ACalls CallK GoCall GoDCall GoIf GoGb GoDGb GoO GoD GoX GoDX GoG GoDG GoGv GoDGv Go ALoop

theorem rright_step (t : Ty) (ih : ∀ x ∈ t.kids, PCalls Try.prog 20 [emb x] (.bool (right x))) : PCalls Try.prog 20 [emb t] (.bool (right t)) := by
  refine pcalls_text C_ok Try.func20 rfl (by decide) (Nat.le_of_ble_eq_true rfl) (by decide) rfl fun ok H => ?_
  rw [Try.results20]
  have h := True.intro
  repeat' (first
   | (with_reducible first | refine bA ?_ ?_ | refine bB ?_ ?_ | refine bC ?_ ?_ | refine bD ?_ ?_ | refine bE ?_ ?_ | refine bF ?_ ?_) <;> intro h
   | ((first | apply bG | apply bH); simp only [AV.norm, AV.normL, W2]; first | refine goCall_p (kids_ok _) (.inl rfl) ?_ | refine goDCall_p (kids_ok _) (.inl rfl) ?_)
   | refine go_draw (id := 1) C_ok (fun _ => trivial) mixed 0 Try.f20.ntmps rfl (by kernel_rfl) (by decide) ?_
   | skip) <;> simp only [h, ↓upd_eq, ↓envL_cons, WZ, reduceIte, yA, yB, yC, yD, reduceCtorEq, yE, yF, W1]
  all_goals have hmax : t.kids.length ≤ maxLen := (emb_okay ok.1).1
  all_goals first
    | (have hN : okN t = true := by (simp_all [okN] <;> (try intros) <;> (try omega))
       have hfalse : ∀ i, i < t.kids.length → right (t.kid i) = false → right t = false := fun i h1 h2 => by rw [right_eq, allN_false h1 h2]; simp
       have htrue : (∀ i, i < t.kids.length → right (t.kid i) = true) → right t = true := fun h => by rw [right_eq, allN_true h, hN]; rfl
       refine aloop_trim [3, 1] ?_
       simp only [List.map_cons, List.map_nil, ↓upd_eq, ↓envL_cons, WZ, reduceIte, yA, yB, yC, yD, reduceCtorEq, yE, yF, W1]
       refine goLoopS 1 (fun i : Nat => [(3, .int .i64 i)]) (fun _ => _) (fun i => i ≤ t.kids.length ∧ ∀ j, j < i → (fun j => right (t.kid j)) j = true) (fun i => t.kids.length - i) C_ok 0 rfl rfl ⟨Nat.zero_le _, by simp⟩ (by decide) ?_
       rintro i ⟨hi, hall⟩
       simp only [List.drop_succ_cons, List.drop_zero, List.cons_append, List.nil_append]
       simp only [↓upd_eq, ↓envL_cons, WZ, reduceIte, yA, yB, yC, yD, reduceCtorEq, yE, yF, W1]
       refine goIf_d (fun hlt => ?_) (fun hlt => ?_)
       · have h := True.intro
         repeat' (first
          | (with_reducible first | refine bA ?_ ?_ | refine bB ?_ ?_ | refine bC ?_ ?_ | refine bD ?_ ?_ | refine bE ?_ ?_ | refine bF ?_ ?_) <;> intro h
          | ((first | apply bG | apply bH); simp only [AV.norm, AV.normL, W2, hlt, map_emb_kid hlt]; first | refine goCall_p (ih _ (kid_mem hlt)) (.inl rfl) ?_ | refine goDCall_p (ih _ (kid_mem hlt)) (.inl rfl) ?_)
          | refine go_draw (id := 1) C_ok (fun _ => trivial) mixed 0 Try.f20.ntmps rfl (by kernel_rfl) (by decide) ?_
          | skip) <;> simp only [h, ↓upd_eq, ↓envL_cons, WZ, reduceIte, yA, yB, yC, yD, reduceCtorEq, yE, yF, W1, hlt, map_emb_kid hlt]
         all_goals first
           | exact (hfalse i hlt (by first | assumption | simp only [*])).symm
           | (refine ⟨i + 1, ⟨by omega, fun j hj => ?_⟩, by omega, weak_drop rfl rfl rfl rfl ?_ ?_ ?_⟩
              · rcases Nat.lt_succ_iff_lt_or_eq.1 hj with hj | rfl
                · exact hall j hj
                · first | assumption | simp only [*]
              all_goals simp only [WK, ↓upd_eq, ↓envL_cons, yA, reduceIte, AV.bel, AV.belL, AObj.bel, AV.norm, AV.normL, yB, yC, wrap_succ hlt hmax, map_bel, AV.belL, List.length_map])
       · simp only [↓upd_eq, ↓envL_cons, WZ, reduceIte, yA, yB, yC, yD, reduceCtorEq, yE, yF, W1]
         exact (htrue fun j hj => hall j (by omega)).symm)
    | (rw [right_eq]; by_cases h6 : t.kind = 6 <;> simp_all [okN] <;> (try intros) <;> (try omega))
theorem rright_ok (t : Ty) : PCalls Try.prog 20 [emb t] (.bool (right t)) := Ty.ind rright_step t

theorem ksame_step (a b : Ty) (ih : ∀ x ∈ a.kids, ∀ y, PCalls Try.prog 31 [emb x, emb y] (.bool (same x y))) : PCalls Try.prog 31 [emb a, emb b] (.bool (same a b)) := by
  refine pcalls_text C_ok Try.func31 rfl (by decide) (Nat.le_of_ble_eq_true rfl) (by decide) rfl fun ok H => ?_
  rw [Try.results31]
  have h := True.intro
  repeat' (first
   | (with_reducible first | refine bA ?_ ?_ | refine bB ?_ ?_ | refine bC ?_ ?_ | refine bD ?_ ?_ | refine bE ?_ ?_ | refine bF ?_ ?_) <;> intro h
   | refine go_draw (id := 6) C_ok (fun _ => trivial) mixed 0 Try.f31.ntmps rfl (by kernel_rfl) (by decide) ?_
   | skip) <;> simp only [h, ↓upd_eq, ↓envL_cons, WZ, reduceIte, yA, yB, yC, yD, reduceCtorEq, yE, yF, W1]
  all_goals have hmax : a.kids.length ≤ maxLen := (emb_okay ok.1).1
  case refine_2.refine_2.refine_2 =>
    have hlen : b.kids.length = a.kids.length := by simp only [bne_eq_false_iff_eq] at *; omega
    have hfalse : ∀ i, i < a.kids.length → same (a.kid i) (b.kid i) = false → same a b = false := fun i h1 h2 => by rw [same_eq, allN_false h1 h2]; simp
    have htrue : (∀ i, i < a.kids.length → same (a.kid i) (b.kid i) = true) → same a b = true := fun h => by rw [same_eq, allN_true h]; simp_all
    refine aloop_trim [5, 2, 3] ?_
    simp only [List.map_cons, List.map_nil, ↓upd_eq, ↓envL_cons, WZ, reduceIte, yA, yB, yC, yD, reduceCtorEq, yE, yF, W1]
    refine goLoopS 1 (fun i : Nat => [(5, .int .i64 i)]) (fun _ => _) (fun i => i ≤ a.kids.length ∧ ∀ j, j < i → (fun j => same (a.kid j) (b.kid j)) j = true) (fun i => a.kids.length - i) C_ok 0 rfl rfl ⟨Nat.zero_le _, by simp⟩ (by decide) ?_
    rintro i ⟨hi, hall⟩
    simp only [List.drop_succ_cons, List.drop_zero, List.cons_append, List.nil_append]
    simp only [↓upd_eq, ↓envL_cons, WZ, reduceIte, yA, yB, yC, yD, reduceCtorEq, yE, yF, W1]
    refine goIf_d (fun hlt => ?_) (fun hlt => ?_)
    · have h := True.intro
      repeat' (first
       | (with_reducible first | refine bA ?_ ?_ | refine bB ?_ ?_ | refine bC ?_ ?_ | refine bD ?_ ?_ | refine bE ?_ ?_ | refine bF ?_ ?_) <;> intro h
       | ((first | apply bG | apply bH); simp only [AV.norm, AV.normL, W2, hlt, hlen, map_emb_kid hlt, map_emb_kid (hlen.symm ▸ hlt)]; first | refine goCall_p (ih _ (kid_mem hlt) _) (.inl rfl) ?_ | refine goDCall_p (ih _ (kid_mem hlt) _) (.inl rfl) ?_)
       | refine go_draw (id := 6) C_ok (fun _ => trivial) mixed 0 Try.f31.ntmps rfl (by kernel_rfl) (by decide) ?_
       | skip) <;> simp only [h, ↓upd_eq, ↓envL_cons, WZ, reduceIte, yA, yB, yC, yD, reduceCtorEq, yE, yF, W1, hlt, hlen, map_emb_kid hlt, map_emb_kid (hlen.symm ▸ hlt)]
      all_goals first
        | exact (hfalse i hlt (by first | assumption | simp only [*])).symm
        | (refine ⟨i + 1, ⟨by omega, fun j hj => ?_⟩, by omega, weak_drop rfl rfl rfl rfl ?_ ?_ ?_⟩
           · rcases Nat.lt_succ_iff_lt_or_eq.1 hj with hj | rfl
             · exact hall j hj
             · first | assumption | simp only [*]
           all_goals simp only [WK, ↓upd_eq, ↓envL_cons, yA, reduceIte, AV.bel, AV.belL, AObj.bel, AV.norm, AV.normL, yB, yC, wrap_succ hlt hmax, map_bel, AV.belL, List.length_map])
    · simp only [↓upd_eq, ↓envL_cons, WZ, reduceIte, yA, yB, yC, yD, reduceCtorEq, yE, yF, W1]
      exact (htrue fun j hj => hall j (by omega)).symm
  all_goals (rw [same_eq]; simp_all <;> (try intros) <;> (try omega))
theorem ksame_ok (a b : Ty) : PCalls Try.prog 31 [emb a, emb b] (.bool (same a b)) :=
  Ty.ind (p := fun a => ∀ b, PCalls Try.prog 31 [emb a, emb b] (.bool (same a b))) (fun a ih b => ksame_step a b ih) a b

theorem leaf_ok (k : Int) : PCalls Try.prog 87 [.int .i64 k] (emb (leafT k)) := by
  refine pcalls_text C_ok Try.func87 rfl (by decide) (Nat.le_of_ble_eq_true rfl) (by decide) (emb_bel _ _) fun ok H => ?_
  rw [Try.results87]
  have h := True.intro
  repeat' (first
   | (with_reducible first | refine bA ?_ ?_ | refine bB ?_ ?_ | refine bC ?_ ?_ | refine bD ?_ ?_ | refine bE ?_ ?_ | refine bF ?_ ?_) <;> intro h
   | skip) <;> simp only [h, ↓upd_eq, ↓envL_cons, WZ, reduceIte, yA, yB, yC, yD, reduceCtorEq, yE, yF, W1]
  all_goals simp [leafT]
theorem two_ok (k : Int) (a b : Ty) : PCalls Try.prog 62 [.int .i64 k, emb a, emb b] (emb (twoT k a b)) := by
  refine pcalls_text C_ok Try.func62 rfl (by decide) (Nat.le_of_ble_eq_true rfl) (by decide) (emb_bel _ _) fun ok H => ?_
  rw [Try.results62]
  have h := True.intro
  repeat' (first
   | (with_reducible first | refine bA ?_ ?_ | refine bB ?_ ?_ | refine bC ?_ ?_ | refine bD ?_ ?_ | refine bE ?_ ?_ | refine bF ?_ ?_) <;> intro h
   | skip) <;> simp only [h, ↓upd_eq, ↓envL_cons, WZ, reduceIte, yA, yB, yC, yD, reduceCtorEq, yE, yF, W1]
  all_goals simp [twoT]
end
section
attribute [local irreducible] PCalls ACalls CallK GoCall GoDCall GoIf GoGb GoDGb GoO GoD GoX GoDX GoG GoDG GoGv GoDGv Go ALoop
end
section
attribute [local irreducible] PCalls ACalls CallK GoCall GoDCall GoIf GoGb GoDGb GoO GoD GoX GoDX GoG GoDG GoGv GoDGv Go ALoop

def leafB (a b : Ty) : Bool := decide (a.kids.length = 0) && decide (a.kind = b.kind) && decide (a.num = b.num)
def likeB (a b : Ty) : Bool := decide (0 < a.kids.length) && decide (a.kind = b.kind)
end
section
attribute [local irreducible] PCalls ACalls CallK GoCall GoDCall GoIf GoGb GoDGb GoO GoD GoX GoDX GoG GoDG GoGv GoDGv Go ALoop

mutual
def cnt : Ty → Nat → Nat
  | .mk _ _ l, n => cntL l (n + 1)
def cntL : List Ty → Nat → Nat
  | [], n => n
  | x :: l, n => if n ≤ 600 then cntL l (cnt x n) else n
end
theorem cnt_eq (t : Ty) (n : Nat) : cnt t n = cntL t.kids (n + 1) := by cases t; rfl
mutual
theorem cnt_spec : ∀ (t : Ty) (n : Nat), n < cnt t n ∧ cnt t n ≤ max (n + 1) 601 ∧ (n + nodes t ≤ 600 → cnt t n = n + nodes t) ∧ (600 < n + nodes t → 600 < cnt t n)
  | .mk k m l, n => by
    have := cntL_spec l (n + 1)
    rw [cnt_eq, nodes_eq]; simp only [Ty.kids]; omega
theorem cntL_spec : ∀ (l : List Ty) (n : Nat), n ≤ cntL l n ∧ cntL l n ≤ max n 601 ∧ (n + nodesL l ≤ 600 → cntL l n = n + nodesL l) ∧ (600 < n + nodesL l → 600 < cntL l n)
  | [], n => by simp [cntL, nodesL]; omega
  | x :: l, n => by
    rw [cntL, nodesL]
    split
    · have h1 := cnt_spec x n
      have h2 := cntL_spec l (cnt x n)
      omega
    · omega
end
theorem cntL_stop {l : List Ty} {n : Nat} (h : ¬ n ≤ 600) : cntL l n = n := by cases l <;> simp [cntL, h]
theorem drop_kid {t : Ty} {i : Nat} (h : i < t.kids.length) : t.kids.drop i = t.kid i :: t.kids.drop (i + 1) := by
  rw [List.drop_eq_getElem_cons h]; simp [Ty.kid, h]

theorem wrap_nat {n : Nat} (h : n < 4611686018427387904) : IntKind.wrap .i64 (n : Int) = n :=
  wrap_id .i64 _ (by show (-9223372036854775808 : Int) ≤ _; omega) (by show _ ≤ (9223372036854775807 : Int); omega)
theorem wrap_nat1 {n : Nat} (h : n < 4611686018427387904) : IntKind.wrap .i64 ((n : Int) + 1) = ((n + 1 : Nat) : Int) := wrap_succ h (by rw [maxLen_val]; omega)
theorem wrap_nat2 {n m : Nat} (h : n + m < 4611686018427387904) : IntKind.wrap .i64 ((n : Int) + m) = ((n + m : Nat) : Int) := by rw [← Int.natCast_add]; exact wrap_nat h

theorem count_step (t : Ty) (n : Nat) (hn : n ≤ 2000000) (ih : ∀ x ∈ t.kids, ∀ n : Nat, n ≤ 2000000 → PCalls Try.prog 80 [emb x, .int .i64 n] (.int .i64 (cnt x n))) : PCalls Try.prog 80 [emb t, .int .i64 n] (.int .i64 (cnt t n)) := by
  refine pcalls_text C_ok Try.func80 rfl (by decide) (Nat.le_of_ble_eq_true rfl) (by decide) rfl fun ok H => ?_
  rw [Try.results80]
  have h := True.intro
  repeat' (first
   | (with_reducible first | apply bA | apply bB | apply bC | apply bD | apply bE | apply bF) <;> intro h
   | skip) <;> simp only [h, ↓upd_eq, ↓envL_cons, WZ, reduceIte, yA, yB, yC, yD, reduceCtorEq, yE, yF, W1, wrap_nat1 (show n < 4611686018427387904 by omega)]
  have hmax : t.kids.length ≤ maxLen := (emb_okay ok.1).1
  refine aloop_trim [1, 5, 2] ?_
  simp only [List.map_cons, List.map_nil, ↓upd_eq, ↓envL_cons, WZ, reduceIte, yA, yB, yC, yD, reduceCtorEq, yE, yF, W1]
  refine goLoopS 2 (fun x : Nat × Nat => [(1, .int .i64 x.2), (5, .int .i64 x.1)]) (fun _ => _) (fun x => x.1 ≤ t.kids.length ∧ x.2 ≤ 2000001 ∧ cntL (t.kids.drop x.1) x.2 = cnt t n) (fun x => t.kids.length - x.1) C_ok (0, n + 1) rfl rfl ⟨Nat.zero_le _, by simp only; omega, (cnt_eq t n).symm⟩ (by decide) ?_
  rintro ⟨i, m⟩ ⟨hi, hm, hr⟩
  simp only at hi hm hr
  simp only [List.drop_succ_cons, List.drop_zero, List.cons_append, List.nil_append]
  simp only [↓upd_eq, ↓envL_cons, WZ, reduceIte, yA, yB, yC, yD, reduceCtorEq, yE, yF, W1]
  refine goGb_d (fun hlt => ?_) (fun hlt => ?_)
  · simp only [hlt, ↓upd_eq, ↓envL_cons, WZ, reduceIte, yA, yB, yC, yD, reduceCtorEq, yE, yF, W1]
    refine goIf_d (fun h6 => ?_) (fun h6 => ?_)
    · have h6' : m ≤ 600 := by omega
      have h := True.intro
      repeat' (first
       | (with_reducible first | apply bA | apply bB | apply bC | apply bD | apply bE | apply bF) <;> intro h
       | ((first | apply bG | apply bH); simp only [AV.norm, AV.normL, W2, hlt, map_emb_kid hlt]; first | refine goCall_p (ih _ (kid_mem hlt) m (by omega)) (.inl rfl) ?_ | refine goDCall_p (ih _ (kid_mem hlt) m (by omega)) (.inl rfl) ?_)
       | skip) <;> simp only [h, ↓upd_eq, ↓envL_cons, WZ, reduceIte, yA, yB, yC, yD, reduceCtorEq, yE, yF, W1, hlt, map_emb_kid hlt]
      have hc := cnt_spec (t.kid i) m
      refine ⟨(i + 1, cnt (t.kid i) m), ⟨hlt, by simp only; omega, ?_⟩, by simp only; omega, weak_drop rfl rfl rfl rfl ?_ ?_ ?_⟩
      · rw [← hr, drop_kid hlt, cntL, if_pos h6']
      all_goals simp only [WK, ↓upd_eq, ↓envL_cons, yA, reduceIte, AV.bel, AV.belL, AObj.bel, AV.norm, AV.normL, yB, yC, wrap_succ hlt hmax, map_bel, AV.belL, List.length_map]
    · simp only [hlt, ↓upd_eq, ↓envL_cons, WZ, reduceIte, yA, yB, yC, yD, reduceCtorEq, yE, yF, W1]
      rw [← hr, cntL_stop (by omega)]
  · simp only [hlt, ↓upd_eq, ↓envL_cons, WZ, reduceIte, yA, yB, yC, yD, reduceCtorEq, yE, yF, W1]
    rw [← hr, List.drop_of_length_le (by omega)]; rfl

theorem count_ok : ∀ (t : Ty) (n : Nat), n ≤ 2000000 → PCalls Try.prog 80 [emb t, .int .i64 n] (.int .i64 (cnt t n)) :=
  Ty.ind (p := fun t => ∀ n : Nat, n ≤ 2000000 → PCalls Try.prog 80 [emb t, .int .i64 n] (.int .i64 (cnt t n))) fun t ih n hn => count_step t n hn fun x hx n hn => ih x hx n hn

def heavy (l : List Ty) : Bool := decide (600 < nodesL l)
def cntF : List Ty → Nat → Nat
  | [], n => n
  | x :: l, n => cntF l (cnt x n)
theorem cntF_spec : ∀ (l : List Ty) (n : Nat), n ≤ cntF l n ∧ (n + nodesL l ≤ 600 → cntF l n = n + nodesL l) ∧ (600 < n + nodesL l → 600 < cntF l n)
  | [], n => by simp [cntF, nodesL]
  | x :: l, n => by
    have h1 := cnt_spec x n
    have h2 := cntF_spec l (cnt x n)
    rw [cntF, nodesL]; omega
theorem heavy_eq (l : List Ty) : heavy l = decide ((cntF l 0 : Int) > 600) := by
  have := cntF_spec l 0
  unfold heavy
  by_cases h : 600 < nodesL l
  · simp only [h, decide_true]; rw [eq_comm, decide_eq_true_eq]; omega
  · simp only [h, decide_false]; rw [eq_comm, decide_eq_false_iff_not]; omega

theorem heavy_ok (l : List Ty) (hl : l.length ≤ 1000000) : PCalls Try.prog 19 [.sl (l.map emb) .no] (.bool (heavy l)) := by
  refine pcalls_text C_ok Try.func19 rfl (by decide) (Nat.le_of_ble_eq_true rfl) (by decide) rfl fun ok H => ?_
  rw [Try.results19]
  have h := True.intro
  repeat' (first
   | (with_reducible first | apply bA | apply bB | apply bC | apply bD | apply bE | apply bF) <;> intro h
   | skip) <;> simp only [h, ↓upd_eq, ↓envL_cons, WZ, reduceIte, yA, yB, yC, yD, reduceCtorEq, yE, yF, W1]
  have hmax : l.length ≤ maxLen := by rw [maxLen_val]; omega
  refine aloop_trim [3, 4, 0] ?_
  simp only [List.map_cons, List.map_nil, ↓upd_eq, ↓envL_cons, WZ, reduceIte, yA, yB, yC, yD, reduceCtorEq, yE, yF, W1]
  refine goLoopS 2 (fun x : Nat × Nat => [(3, .int .i64 x.2), (4, .int .i64 x.1)]) (fun _ => _) (fun x => x.1 ≤ l.length ∧ x.2 ≤ 601 + x.1 ∧ cntF (l.drop x.1) x.2 = cntF l 0) (fun x => l.length - x.1) C_ok (0, 0) rfl rfl ⟨Nat.zero_le _, by simp only; omega, rfl⟩ (by decide) ?_
  rintro ⟨i, m⟩ ⟨hi, hm, hr⟩
  simp only at hi hm hr
  simp only [List.drop_succ_cons, List.drop_zero, List.cons_append, List.nil_append]
  simp only [↓upd_eq, ↓envL_cons, WZ, reduceIte, yA, yB, yC, yD, reduceCtorEq, yE, yF, W1]
  refine goIf_d (fun hlt => ?_) (fun hlt => ?_)
  · have hget : (l.map emb).getD i .any = emb (l.getD i default) := by simp [hlt]
    have h := True.intro
    repeat' (first
     | (with_reducible first | apply bA | apply bB | apply bC | apply bD | apply bE | apply bF) <;> intro h
     | ((first | apply bG | apply bH); simp only [AV.norm, AV.normL, W2, hlt, hget]; first | refine goCall_p (count_ok _ m (by omega)) (.inl rfl) ?_ | refine goDCall_p (count_ok _ m (by omega)) (.inl rfl) ?_)
     | skip) <;> simp only [h, ↓upd_eq, ↓envL_cons, WZ, reduceIte, yA, yB, yC, yD, reduceCtorEq, yE, yF, W1, hlt, hget]
    have hc := cnt_spec (l.getD i default) m
    refine ⟨(i + 1, cnt (l.getD i default) m), ⟨hlt, by simp only; omega, ?_⟩, by simp only; omega, weak_of rfl rfl rfl rfl ?_⟩
    · rw [← hr, List.drop_eq_getElem_cons hlt, cntF]; simp [hlt]
    all_goals simp only [WK, ↓upd_eq, ↓envL_cons, yA, reduceIte, AV.bel, AV.belL, AObj.bel, AV.norm, AV.normL, yB, yC, wrap_succ hlt hmax, map_bel, AV.belL, List.length_map]
  · simp only [↓upd_eq, ↓envL_cons, WZ, reduceIte, yA, yB, yC, yD, reduceCtorEq, yE, yF, W1]
    rw [heavy_eq, ← hr, List.drop_of_length_le (by omega)]; rfl

theorem heavy1_ok (a : Ty) : PCalls Try.prog 19 [.sl [emb a] .no] (.bool (heavy [a])) := heavy_ok [a] (by simp)
theorem heavy_nodes {l : List Ty} (h : ¬ heavy l = true) {t : Ty} (ht : t ∈ l) : nodes t ≤ 600 := by
  have h1 := nodesL_mem ht
  simp only [heavy, decide_eq_true_eq] at h
  omega
end
section
def groundT (t : Ty) : Ty := if right t = true ∧ headK t.kind = true then ground t else noneT
def hasGround (t : Ty) : Bool := right t && headK t.kind
end
section
attribute [local irreducible] PCalls ACalls CallK GoCall GoDCall GoIf GoGb GoDGb GoO GoD GoX GoDX GoG GoDG GoGv GoDGv Go ALoop

def ofT (k : Int) : Ty := .mk k 0 (List.replicate (arity k).toNat dynT)
end
section
attribute [local irreducible] PCalls ACalls CallK GoCall GoDCall GoIf GoGb GoDGb GoO GoD GoX GoDX GoG GoDG GoGv GoDGv Go ALoop

theorem take_kid {t : Ty} {i : Nat} (h : i < t.kids.length) : t.kids.take (i + 1) = t.kids.take i ++ [t.kid i] := by
  rw [List.take_succ_eq_append_getElem h]; simp [Ty.kid, h]
theorem nodesL_take {t : Ty} {i : Nat} (h : i < t.kids.length) : nodesL (t.kids.take (i + 1)) = nodesL (t.kids.take i) + nodes (t.kid i) := by
  rw [take_kid h, nodesL_app]; simp [nodesL]
theorem nodesL_take_le (l : List Ty) (i : Nat) : nodesL (l.take i) ≤ nodesL l := by
  have := nodesL_app (l.take i) (l.drop i); rw [List.take_append_drop] at this; omega
theorem rsize_step (t : Ty) (hs : nodes t ≤ 1000000000) (ih : ∀ x ∈ t.kids, PCalls Try.prog 41 [emb x] (.int .i64 (nodes x))) : PCalls Try.prog 41 [emb t] (.int .i64 (nodes t)) := by
  refine pcalls_text C_ok Try.func41 rfl (by decide) (Nat.le_of_ble_eq_true rfl) (by decide) rfl fun ok H => ?_
  rw [Try.results41]
  have h := True.intro
  repeat' (first
   | (with_reducible first | apply bA | apply bB | apply bC | apply bD | apply bE | apply bF) <;> intro h
   | skip) <;> simp only [h, ↓upd_eq, ↓envL_cons, WZ, reduceIte, yA, yB, yC, yD, reduceCtorEq, yE, yF, W1]
  have hmax : t.kids.length ≤ maxLen := (emb_okay ok.1).1
  have hn := nodes_eq t
  have hnext : ∀ i, i < t.kids.length → IntKind.wrap .i64 (((1 + nodesL (t.kids.take i) : Nat) : Int) + (nodes (t.kid i) : Int)) = ((1 + nodesL (t.kids.take (i + 1)) : Nat) : Int) := fun i h => by
    have := nodesL_take_le t.kids (i + 1)
    rw [nodesL_take h] at this ⊢
    rw [wrap_nat2 (by omega)]; congr 1; omega
  have hend : ∀ m, ¬ m < t.kids.length → m ≤ t.kids.length → ((1 + nodesL (t.kids.take m) : Nat) : Int) = (nodes t : Int) := fun m h1 h2 => by rw [List.take_of_length_le (by omega), hn]
  refine aloop_trim [3, 4, 1] ?_
  simp only [List.map_cons, List.map_nil, ↓upd_eq, ↓envL_cons, WZ, reduceIte, yA, yB, yC, yD, reduceCtorEq, yE, yF, W1]
  refine goLoopS 2 (fun i : Nat => [(3, .int .i64 (((fun i => 1 + nodesL (t.kids.take i)) i : Nat) : Int)), (4, .int .i64 (i : Int))]) (fun _ => _) (fun i => i ≤ t.kids.length) (fun i => t.kids.length - i) C_ok 0 rfl rfl (Nat.zero_le _) (by decide) ?_
  intro i hi
  simp only [List.drop_succ_cons, List.drop_zero, List.cons_append, List.nil_append]
  simp only [↓upd_eq, ↓envL_cons, WZ, reduceIte, yA, yB, yC, yD, reduceCtorEq, yE, yF, W1]
  refine goIf_d (fun hlt => ?_) (fun hlt => ?_)
  · have h := True.intro
    repeat' (first
     | (with_reducible first | apply bA | apply bB | apply bC | apply bD | apply bE | apply bF) <;> intro h
     | ((first | apply bG | apply bH); simp only [AV.norm, AV.normL, W2, hlt, map_emb_kid hlt]; first | refine goCall_p (ih _ (kid_mem hlt)) (.inl rfl) ?_ | refine goDCall_p (ih _ (kid_mem hlt)) (.inl rfl) ?_)
     | skip) <;> simp only [h, ↓upd_eq, ↓envL_cons, WZ, reduceIte, yA, yB, yC, yD, reduceCtorEq, yE, yF, W1, hlt, map_emb_kid hlt]
    refine ⟨i + 1, hlt, by omega, weak_drop rfl rfl rfl rfl ?_ ?_ ?_⟩ <;> simp only [WK, ↓upd_eq, ↓envL_cons, yA, reduceIte, AV.bel, AV.belL, AObj.bel, AV.norm, AV.normL, yB, yC, wrap_succ hlt hmax, hnext i hlt, map_bel, AV.belL, List.length_map]
  · simp only [↓upd_eq, ↓envL_cons, WZ, reduceIte, yA, yB, yC, yD, reduceCtorEq, yE, yF, W1]
    exact hend i hlt hi
theorem rsize_ok (t : Ty) (hs : nodes t ≤ 1000000000) : PCalls Try.prog 41 [emb t] (.int .i64 (nodes t)) :=
  Ty.ind (p := fun t => nodes t ≤ 1000000000 → PCalls Try.prog 41 [emb t] (.int .i64 (nodes t))) (fun t ih hs => rsize_step t hs fun x hx => ih x hx (by have := nodes_kid hx; omega)) t hs

def fine (l : List Ty) : Bool := !heavy l && rightL l
end
end Go.Proofs.Ytdngjamjccjlmaa
