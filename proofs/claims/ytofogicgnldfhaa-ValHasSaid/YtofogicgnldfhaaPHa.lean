/- Lemmas: the functions that the laws of coercions share. No condition. -/
import Derived.Test.YtofogicgnldfhaaPVa
import Derived.Test.YtofogicgnldfhaaPFa
import Derived.Test.YtofogicgnldfhaaPMa
import Derived.Test.YtofogicgnldfhaaPGb
import Derived.Test.YtofogicgnldfhaaTO
import Derived.Test.YtofogicgnldfhaaPGc

section
/- The guard of the laws of layers 11 and up. No condition. -/
set_option linter.unusedSimpArgs false
set_option linter.unusedVariables false
set_option maxHeartbeats 4000000
set_option maxRecDepth 100000
namespace Go.Proofs.Ytofogicgnldfhaa
open Go Go.Ab
open Nat (reduceEqDiff reduceAdd reduceLT reduceLeDiff reduceMul reducePow)
attribute [local irreducible] PCalls ACalls CallK GoCall GoDCall GoIf GoGb GoDGb GoO GoD GoX GoDX GoG GoDG GoGv GoDGv Go ALoop

def deepT : Nat → Ty → Bool
  | 0, _ => true
  | n + 1, t => !allN t.kids.length fun i => !deepT n (t.kid i)
theorem deep_ok : ∀ (n : Nat) (t : Ty), n ≤ 1000 → PCalls Try.prog 45 [emb t, .int .i64 n] (.bool (deepT n t)) := by
  intro n
  induction n with
  | zero =>
    intro t _
    show PCalls _ _ [emb t, .int .i64 0] (.bool true)
    refine pcalls_text C_ok Try.func45 rfl (by decide) (Nat.le_of_ble_eq_true rfl) (by decide) rfl fun ok H => ?_
    rw [Try.results45]
    have h := True.intro
    repeat' (first
     | (with_reducible first | apply bA | apply bB | apply bC | apply bD | apply bE | apply bF) <;> intro h
     | refine goRound ?_ C_ok Try.f45.ntmps rfl (by decide)
     | skip) <;> simp only [h, ↓upd_eq, ↓envL_cons, WZ, reduceIte, reduceEqDiff, reduceAdd, reduceLT, reduceLeDiff, reduceCtorEq, reduceMul, reducePow, W1, Go.Ab.W3, Int.reduceAdd, Int.reduceLT, Int.reduceToNat, Int.reduceBEq, Int.reduceBNe, Int.reduceLE, cutNormal_normal]
  | succ n ih =>
    intro t hn
    have hw : IntKind.wrap .i64 (((n + 1 : Nat) : Int) - 1) = (n : Int) := by rw [wrap_i (by omega) (by omega)]; omega
    have h0 : ¬ ((n + 1 : Nat) : Int) ≤ 0 := by omega
    generalize ha : ((n + 1 : Nat) : Int) = m at hw h0 ⊢
    have c : ∀ x, PCalls Try.prog 45 [emb x, .int .i64 n] (.bool (deepT n x)) := fun x => ih x (by omega)
    refine pcalls_text C_ok Try.func45 rfl (by decide) (Nat.le_of_ble_eq_true rfl) (by decide) rfl fun ok H => ?_
    rw [Try.results45]
    have h := True.intro
    repeat' (first
     | (with_reducible first | apply bA | apply bB | apply bC | apply bD | apply bE | apply bF) <;> intro h
     | skip) <;> simp only [h, ↓upd_eq, ↓envL_cons, WZ, reduceIte, reduceEqDiff, reduceAdd, reduceLT, reduceLeDiff, reduceCtorEq, reduceMul, reducePow, W1, h0]
    have hmax : t.kids.length ≤ maxLen := (emb_okay ok.1).1
    have hfalse : ∀ i, i < t.kids.length → (!deepT n (t.kid i)) = false → deepT (n + 1) t = true := fun i h1 h2 => by rw [deepT, allN_false (g := fun i => !deepT n (t.kid i)) h1 h2]; rfl
    have htrue : (∀ i, i < t.kids.length → (!deepT n (t.kid i)) = true) → deepT (n + 1) t = false := fun h => by rw [deepT, allN_true h]; rfl
    refine aloop_trim [5, 1, 2] ?_
    simp only [List.map_cons, List.map_nil, ↓upd_eq, ↓envL_cons, WZ, reduceIte, reduceEqDiff, reduceAdd, reduceLT, reduceLeDiff, reduceCtorEq, reduceMul, reducePow, W1]
    refine goLoopS 1 (fun i : Nat => [(5, .int .i64 i)]) (fun _ => _) (fun i => i ≤ t.kids.length ∧ ∀ j, j < i → (fun j => !deepT n (t.kid j)) j = true) (fun i => t.kids.length - i) C_ok 0 rfl rfl ⟨Nat.zero_le _, by simp⟩ (by decide) ?_
    rintro i ⟨hi, hall⟩
    simp only [List.drop_succ_cons, List.drop_zero, List.cons_append, List.nil_append]
    simp only [↓upd_eq, ↓envL_cons, WZ, reduceIte, reduceEqDiff, reduceAdd, reduceLT, reduceLeDiff, reduceCtorEq, reduceMul, reducePow, W1]
    refine goIf_d (fun hlt => ?_) (fun hlt => ?_)
    · have h := True.intro
      repeat' (first
       | (with_reducible first | apply bA | apply bB | apply bC | apply bD | apply bE | apply bF) <;> intro h
       | ((first | refine goCall_norm ?_ | refine goDCall_norm ?_); simp only [AV.norm, AV.normL, W2, hlt, map_emb_kid hlt, hw, h0]; first | refine goCall_p (c _) (.inl rfl) ?_ | refine goDCall_p (c _) (.inl rfl) ?_)
       | skip) <;> simp only [h, ↓upd_eq, ↓envL_cons, WZ, reduceIte, reduceEqDiff, reduceAdd, reduceLT, reduceLeDiff, reduceCtorEq, reduceMul, reducePow, W1, hlt, map_emb_kid hlt, hw, h0]
      all_goals first
        | exact (hfalse i hlt (by first | assumption | (simp [*]; done) | fail)).symm
        | (refine ⟨i + 1, ⟨by omega, fun j hj => ?_⟩, by omega, weak_drop rfl rfl rfl rfl ?_ ?_ ?_⟩
           · rcases Nat.lt_succ_iff_lt_or_eq.1 hj with hj | rfl
             · exact hall j hj
             · first | assumption | (simp [*]; done) | fail
           all_goals simp only [List.forall_mem_cons, mem_nil_all, frz_app, ↓upd_eq, ↓envL_cons, Nat.reduceEqDiff, if_true, if_false, reduceIte, true_and, and_true, and_self, true_or, or_true, implies_true, List.not_mem_nil, false_implies, AV.bel, AV.belL, AObj.bel, AV.norm, AV.normL, Bool.and_true, Bool.true_and, decide_true, decide_eq_true_eq, List.length_cons, List.length_nil, Nat.zero_add, Nat.reduceAdd, Nat.lt_add_one, Nat.lt_add_right_iff_pos, Nat.zero_lt_succ, Nat.zero_lt_one, Nat.reduceLT, List.take_succ_cons, List.take_zero, wrap_succ hlt hmax, map_bel, AV.belL, List.length_map])
    · simp only [↓upd_eq, ↓envL_cons, WZ, reduceIte, reduceEqDiff, reduceAdd, reduceLT, reduceLeDiff, reduceCtorEq, reduceMul, reducePow, W1]
      exact (htrue fun j hj => hall j (by omega)).symm

def small1 (t : Ty) : Bool := !(heavy [t] || deepT 60 t || decide (8 < (varsT t).length))
def small (l : List Ty) : Bool := allN l.length fun i => small1 (l.getD i default)
theorem mapT_get {l : List Ty} {i : Nat} (h : i < l.length) : (l.map emb).getD i .any = emb (l.getD i default) := by simp [h]
theorem heavy_n {t : Ty} (h : heavy [t] = false) : nodes t ≤ 600 := heavy_nodes (l := [t]) (by rw [h]; decide) (by simp)
theorem small_mem {l : List Ty} (h : small l = true) {t : Ty} (ht : t ∈ l) : small1 t = true := by
  obtain ⟨i, hi, rfl⟩ := List.getElem_of_mem ht
  have := (allN_iff.1 h) i hi
  simpa [hi] using this
theorem small1_1 {t : Ty} (h : heavy [t] = true) : small1 t = false := by simp [small1, h]
theorem small1_2 {t : Ty} (h : deepT 60 t = true) : small1 t = false := by simp [small1, h]
theorem small1_3 {t : Ty} (h : (((varsT t).length : Nat) : Int) > 8) : small1 t = false := by
  have : 8 < (varsT t).length := by omega
  simp [small1, this]
theorem small1_4 {t : Ty} (h1 : heavy [t] = false) (h2 : deepT 60 t = false) (h3 : ¬ (((varsT t).length : Nat) : Int) > 8) : small1 t = true := by
  have : ¬ 8 < (varsT t).length := by omega
  simp only [small1, h1, h2, this, Bool.or_false, decide_false, Bool.not_false]
theorem small_ok (l : List Ty) (hl : l.length ≤ 1000000) : PCalls Try.prog 11 [.sl (l.map emb) .no] (.bool (small l)) := by
  refine pcalls_text C_ok Try.func11 rfl (by decide) (Nat.le_of_ble_eq_true rfl) (by decide) rfl fun ok H => ?_
  rw [Try.results11]
  have h := True.intro
  repeat' (first
   | (with_reducible first | apply bA | apply bB | apply bC | apply bD | apply bE | apply bF) <;> intro h
   | skip) <;> simp only [h, ↓upd_eq, ↓envL_cons, WZ, reduceIte, reduceEqDiff, reduceAdd, reduceLT, reduceLeDiff, reduceCtorEq, reduceMul, reducePow, W1]
  have hmax : l.length ≤ maxLen := by rw [maxLen_val]; omega
  have hfalse : ∀ i, i < l.length → small1 (l.getD i default) = false → small l = false := fun i h1 h2 => by rw [small, allN_false (g := fun i => small1 (l.getD i default)) h1 h2]
  have htrue : (∀ i, i < l.length → small1 (l.getD i default) = true) → small l = true := fun h => by rw [small, allN_true h]
  have c1 : ∀ t, heavy [t] = false → PCalls Try.prog 46 [emb t] (.sl ((varsT t).map I64) .no) := fun t h => rVars_ok t (Nat.le_trans (heavy_n h) (by decide))
  have c2 : ∀ t, PCalls Try.prog 45 [emb t, .int .i64 60] (.bool (deepT 60 t)) := fun t => deep_ok 60 t (by decide)
  refine aloop_trim [3, 0] ?_
  simp only [List.map_cons, List.map_nil, ↓upd_eq, ↓envL_cons, WZ, reduceIte, reduceEqDiff, reduceAdd, reduceLT, reduceLeDiff, reduceCtorEq, reduceMul, reducePow, W1]
  refine goLoopS 1 (fun i : Nat => [(3, .int .i64 i)]) (fun _ => _) (fun i => i ≤ l.length ∧ ∀ j, j < i → (fun j => small1 (l.getD j default)) j = true) (fun i => l.length - i) C_ok 0 rfl rfl ⟨Nat.zero_le _, by simp⟩ (by decide) ?_
  rintro i ⟨hi, hall⟩
  simp only [List.drop_succ_cons, List.drop_zero, List.cons_append, List.nil_append]
  simp only [↓upd_eq, ↓envL_cons, WZ, reduceIte, reduceEqDiff, reduceAdd, reduceLT, reduceLeDiff, reduceCtorEq, reduceMul, reducePow, W1]
  refine goIf_d (fun hlt => ?_) (fun hlt => ?_)
  · have h := True.intro
    repeat' (first
     | (with_reducible first | apply bA | apply bB | apply bC | apply bD | apply bE | apply bF) <;> intro h
     | ((first | refine goCall_norm ?_ | refine goDCall_norm ?_); simp only [AV.norm, AV.normL, W2, hlt, mapT_get hlt, List.length_map]; first | refine goCall_p (heavy1_ok _) (.inl rfl) ?_ | refine goCall_p (c1 _ (by assumption)) (.inl rfl) ?_ | refine goCall_p (c2 _) (.inl rfl) ?_ | refine goDCall_p (heavy1_ok _) (.inl rfl) ?_ | refine goDCall_p (c1 _ (by assumption)) (.inl rfl) ?_ | refine goDCall_p (c2 _) (.inl rfl) ?_)
     | skip) <;> simp only [h, ↓upd_eq, ↓envL_cons, WZ, reduceIte, reduceEqDiff, reduceAdd, reduceLT, reduceLeDiff, reduceCtorEq, reduceMul, reducePow, W1, hlt, mapT_get hlt, List.length_map]
    all_goals first
      | exact (hfalse i hlt (by first | assumption | (simp [*]; done) | exact small1_1 (by assumption) | exact small1_2 (by assumption) | exact small1_3 (by assumption) | exact small1_4 (by assumption) (by assumption) (by assumption))).symm
      | (refine ⟨i + 1, ⟨by omega, fun j hj => ?_⟩, by omega, weak_drop rfl rfl rfl rfl ?_ ?_ ?_⟩
         · rcases Nat.lt_succ_iff_lt_or_eq.1 hj with hj | rfl
           · exact hall j hj
           · first | assumption | (simp [*]; done) | exact small1_1 (by assumption) | exact small1_2 (by assumption) | exact small1_3 (by assumption) | exact small1_4 (by assumption) (by assumption) (by assumption)
         all_goals simp only [List.forall_mem_cons, mem_nil_all, frz_app, ↓upd_eq, ↓envL_cons, Nat.reduceEqDiff, if_true, if_false, reduceIte, true_and, and_true, and_self, true_or, or_true, implies_true, List.not_mem_nil, false_implies, AV.bel, AV.belL, AObj.bel, AV.norm, AV.normL, Bool.and_true, Bool.true_and, decide_true, decide_eq_true_eq, List.length_cons, List.length_nil, Nat.zero_add, Nat.reduceAdd, Nat.lt_add_one, Nat.lt_add_right_iff_pos, Nat.zero_lt_succ, Nat.zero_lt_one, Nat.reduceLT, List.take_succ_cons, List.take_zero, wrap_succ hlt hmax, map_bel, AV.belL, List.length_map])
  · simp only [↓upd_eq, ↓envL_cons, WZ, reduceIte, reduceEqDiff, reduceAdd, reduceLT, reduceLeDiff, reduceCtorEq, reduceMul, reducePow, W1]
    exact (htrue fun j hj => hall j (by omega)).symm

end Go.Proofs.Ytofogicgnldfhaa
end

section
/- What is done of any coercions and types, right or not. No condition. -/
set_option linter.unusedSimpArgs false
set_option linter.unusedVariables false
set_option maxHeartbeats 4000000
set_option maxRecDepth 100000
namespace Go.Proofs.Ytofogicgnldfhaa
open Go Go.Ab

open Classical in
noncomputable def kOf (c : Co) : K := if h : ∃ k : K, c = k.co then h.choose else .id
open Classical in
theorem kOf_co (k : K) : kOf k.co = k := by
  have h : ∃ k' : K, k.co = k'.co := ⟨k, rfl⟩
  unfold kOf; rw [dif_pos h]; exact (K.co_inj h.choose_spec).symm
theorem K.of_right' {c : Co} (h : rightC c = true) : ∃ k : K, c = k.co ∧ k.ok = true := by
  obtain ⟨k, rfl⟩ := K.of_right c h
  exact ⟨k, rfl, by rw [← K.right_co]; exact h⟩
noncomputable def fitsC (c : Co) (a b : Ty) : Bool := rightC c && right a && right b && fitsK (kOf c) (tOf a) (tOf b)
/-- Casts. -/
def castE (a b : Ty) (l : Int) : Int := if (right a && right b && labelOK l) = true then if agree a b = true then 0 else 4 else 1
noncomputable def castC (a b : Ty) (l : Int) (n : Bool) : Co := if castE a b l = 0 then (castT l (tOf a) (tOf b) n).co else coNone
/-- Joints. -/
noncomputable def joinO (c d : Co) : Option K := if (rightC c && rightC d) = true then joinR (kOf c) (kOf d) else none
noncomputable def joinE (c d : Co) : Int := if (rightC c && rightC d) = true then (if (joinO c d).isSome = true then 0 else 8) else 1
noncomputable def joinC (c d : Co) : Co := match joinO c d with | some j => j.co | none => coNone
theorem joinO_co {c d : K} (hc : c.ok = true) (hd : d.ok = true) : joinO c.co d.co = joinR c d := by
  simp only [joinO, kOf_co, K.right_co, hc, hd, Bool.and_self, if_true]
theorem cJoinC_ok (c d : Co) : PCalls Try.prog 29 [embC c, embC d] (.tup [embC (joinC c d), .int .i64 (joinE c d)]) := by
  cases h : (rightC c && rightC d) with
  | false =>
    have e : joinO c d = none := by rw [joinO, h]; rfl
    rw [joinC, joinE, h, e]
    exact cJoin_bad c d (by rwa [Bool.and_eq_false_iff] at h)
  | true =>
    simp only [Bool.and_eq_true] at h
    obtain ⟨k, rfl, hk⟩ := K.of_right' h.1
    obtain ⟨m, rfl, hm⟩ := K.of_right' h.2
    have c := cJoin_ok k m hk hm
    rw [joinC, joinE, joinO_co hk hm, h.1, h.2]
    cases e : joinR k m with
    | none => rw [e] at c; exact c
    | some j => rw [e] at c; exact c
theorem small1_ok (a : Ty) : PCalls Try.prog 11 [.sl [emb a] .no] (.bool (small [a])) := small_ok [a] (by simp)
def injC (h : Int) : Co := .mk 5 h 0 false [.mk 1 0 0 false []]
def projC (h l : Int) : Co := .mk 6 h l false [.mk 1 0 0 false []]
end Go.Proofs.Ytofogicgnldfhaa
end

