/- Lemmas: values that are right. No condition. -/
import Derived.Test.YtofogicgnldfhaaPYa
import Derived.Test.YtofogicgnldfhaaPGa

section
/- Walks: package val, and the reference's: right values, told ones, the same. No condition. -/
set_option linter.unusedSimpArgs false
set_option linter.unusedVariables false
set_option maxHeartbeats 4000000
set_option maxRecDepth 100000
namespace Go.Proofs.Ytofogicgnldfhaa
open Go Go.Ab
open Nat (reduceEqDiff reduceAdd reduceLT reduceLeDiff reduceMul reducePow)
attribute [local irreducible] PCalls ACalls CallK GoCall GoDCall GoIf GoGb GoDGb GoO GoD GoX GoDX GoG GoDG GoGv GoDGv Go ALoop

theorem none_ok (c : Co) : PCalls Try.prog 86 [embC c] (.bool (noneB c)) := by
  have e : noneB c = ((c.kind == 0) && ((c.head == 0) && ((c.label == 0) && ((!c.neg) && ((c.kids.length : Int) == 0))))) := by
    rw [Bool.eq_iff_iff]; simp [noneB, and_assoc]
  rw [e]
  refine pcalls_text C_ok Try.func86 rfl (by decide) (Nat.le_of_ble_eq_true rfl) (by decide) rfl fun ok H => ?_
  rw [Try.results86]
  have h := True.intro
  repeat' (first
   | (with_reducible first | apply bA | apply bB | apply bC | apply bD | apply bE | apply bF) <;> intro h
   | skip) <;> simp only [h, ↓upd_eq, ↓envL_cons, WZ, reduceIte, reduceEqDiff, reduceAdd, reduceLT, reduceLeDiff, reduceCtorEq, reduceMul, reducePow, W1, W1C, W1V]
  all_goals simp_all
theorem rnone_ok (c : Co) : PCalls Try.prog 77 [embC c] (.bool (noneB c)) := by
  have e : noneB c = ((c.kind == 0) && ((c.head == 0) && ((c.label == 0) && ((!c.neg) && ((c.kids.length : Int) == 0))))) := by
    rw [Bool.eq_iff_iff]; simp [noneB, and_assoc]
  rw [e]
  refine pcalls_text C_ok Try.func77 rfl (by decide) (Nat.le_of_ble_eq_true rfl) (by decide) rfl fun ok H => ?_
  rw [Try.results77]
  have h := True.intro
  repeat' (first
   | (with_reducible first | apply bA | apply bB | apply bC | apply bD | apply bE | apply bF) <;> intro h
   | skip) <;> simp only [h, ↓upd_eq, ↓envL_cons, WZ, reduceIte, reduceEqDiff, reduceAdd, reduceLT, reduceLeDiff, reduceCtorEq, reduceMul, reducePow, W1, W1C, W1V]
  all_goals simp_all
theorem vhead_ok (k : Int) : PCalls Try.prog 89 [.int .i64 k] (.int .i64 (headV k)) := by
  refine pcalls_text C_ok Try.func89 rfl (by decide) (Nat.le_of_ble_eq_true rfl) (by decide) rfl fun ok H => ?_
  rw [Try.results89]
  have h := True.intro
  repeat' (first
   | (with_reducible first | apply bA | apply bB | apply bC | apply bD | apply bE | apply bF) <;> intro h
   | skip) <;> simp only [h, ↓upd_eq, ↓envL_cons, WZ, reduceIte, reduceEqDiff, reduceAdd, reduceLT, reduceLeDiff, reduceCtorEq, reduceMul, reducePow, W1, W1C, W1V]
  all_goals (simp only [beq_iff_eq, beq_eq_false_iff_ne] at *; unfold headV; (repeat' split) <;> omega)
theorem rhead_v (v : Vl) : PCalls Try.prog 31 [embV v] (.int .i64 (headV v.kind)) := by
  refine pcalls_text C_ok Try.func31 rfl (by decide) (Nat.le_of_ble_eq_true rfl) (by decide) rfl fun ok H => ?_
  rw [Try.results31]
  have h := True.intro
  repeat' (first
   | (with_reducible first | apply bA | apply bB | apply bC | apply bD | apply bE | apply bF) <;> intro h
   | skip) <;> simp only [h, ↓upd_eq, ↓envL_cons, WZ, reduceIte, reduceEqDiff, reduceAdd, reduceLT, reduceLeDiff, reduceCtorEq, reduceMul, reducePow, W1, W1C, W1V]
  all_goals (simp only [beq_iff_eq, beq_eq_false_iff_ne] at *; unfold headV; (repeat' split) <;> omega)
theorem varound_ok (v : Vl) : PCalls Try.prog 99 [embV v] (.bool (aroundV v)) := by
  refine pcalls_text C_ok Try.func99 rfl (by decide) (Nat.le_of_ble_eq_true rfl) (by decide) rfl fun ok H => ?_
  rw [Try.results99]
  have h := True.intro
  repeat' (first
   | (with_reducible first | apply bA | apply bB | apply bC | apply bD | apply bE | apply bF) <;> intro h
   | ((first | refine goCall_norm ?_ | refine goDCall_norm ?_); simp only [AV.norm, AV.normL, W2, W2C, W2V]; first | refine goCall_p (none_ok _) (.inl rfl) ?_ | refine goCall_p (vhead_ok _) (.inl rfl) ?_ | refine goCall_p (ccheck_ok _) (.inl rfl) ?_ | refine goDCall_p (none_ok _) (.inl rfl) ?_ | refine goDCall_p (vhead_ok _) (.inl rfl) ?_ | refine goDCall_p (ccheck_ok _) (.inl rfl) ?_)
   | refine go_draw (id := 5) C_ok (fun _ => trivial) mixed 0 Try.f99.ntmps rfl (by kernel_rfl) (by decide) ?_
   | skip) <;> simp only [h, ↓upd_eq, ↓envL_cons, WZ, reduceIte, reduceEqDiff, reduceAdd, reduceLT, reduceLeDiff, reduceCtorEq, reduceMul, reducePow, W1, W1C, W1V]
  all_goals (cases hr : rightC v.co <;> simp_all [aroundV])
theorem vrest_ok (v : Vl) : PCalls Try.prog 85 [embV v] (.bool (restV v)) := by
  have e : restV v = (((v.kind == 6) || (v.kind == 7)) && (v.co.kind != 5)) := by
    rw [Bool.eq_iff_iff]; simp [restV]
  rw [e]
  refine pcalls_text C_ok Try.func85 rfl (by decide) (Nat.le_of_ble_eq_true rfl) (by decide) rfl fun ok H => ?_
  rw [Try.results85]
  have h := True.intro
  repeat' (first
   | (with_reducible first | apply bA | apply bB | apply bC | apply bD | apply bE | apply bF) <;> intro h
   | skip) <;> simp only [h, ↓upd_eq, ↓envL_cons, WZ, reduceIte, reduceEqDiff, reduceAdd, reduceLT, reduceLeDiff, reduceCtorEq, reduceMul, reducePow, W1, W1C, W1V]
  all_goals simp_all

end Go.Proofs.Ytofogicgnldfhaa
end

section
/- Walks: a value's own fields. No condition. -/
set_option linter.unusedSimpArgs false
set_option linter.unusedVariables false
set_option maxHeartbeats 4000000
set_option maxRecDepth 100000
namespace Go.Proofs.Ytofogicgnldfhaa
open Go Go.Ab
open Nat (reduceEqDiff reduceAdd reduceLT reduceLeDiff reduceMul reducePow)
attribute [local irreducible] PCalls ACalls CallK GoCall GoDCall GoIf GoGb GoDGb GoO GoD GoX GoDX GoG GoDG GoGv GoDGv Go ALoop

theorem nil_beqR (l : List UInt8) : (l == ByteArray.empty.data.toList) = decide (l = []) := by cases l <;> rfl
theorem vone_ok (v : Vl) : PCalls Try.prog 84 [embV v] (.bool (oneV v)) := by
  refine pcalls_text C_ok Try.func84 rfl (by decide) (Nat.le_of_ble_eq_true rfl) (by decide) rfl fun ok H => ?_
  rw [Try.results84]
  have h := True.intro
  repeat' (first
   | (with_reducible first | apply bA | apply bB | apply bC | apply bD | apply bE | apply bF) <;> intro h
   | ((first | refine goCall_norm ?_ | refine goDCall_norm ?_); simp only [AV.norm, AV.normL, W2, W2C, W2V]; first | refine goCall_p (varound_ok _) (.inl rfl) ?_ | refine goDCall_p (varound_ok _) (.inl rfl) ?_)
   | skip) <;> simp only [h, ↓upd_eq, ↓envL_cons, WZ, reduceIte, reduceEqDiff, reduceAdd, reduceLT, reduceLeDiff, reduceCtorEq, reduceMul, reducePow, W1, W1C, W1V]
  all_goals simp only [ByteArray.toList_eq, nil_beqR, decide_eq_true_eq, decide_eq_false_iff_not, beq_iff_eq, beq_eq_false_iff_ne, ne_eq, bne_iff_ne, bne_eq_false_iff_eq] at *
  all_goals (simp_all [oneV]; try first | (intros; omega) | (have hz : v.str.size = 0 := (by simp [ByteArray.size, *]); intros; omega))

end Go.Proofs.Ytofogicgnldfhaa
end

section
/- Walks: right values, told ones. No condition. -/
set_option linter.unusedSimpArgs false
set_option linter.unusedVariables false
set_option maxHeartbeats 4000000
set_option maxRecDepth 100000
namespace Go.Proofs.Ytofogicgnldfhaa
open Go Go.Ab
open Nat (reduceEqDiff reduceAdd reduceLT reduceLeDiff reduceMul reducePow)
attribute [local irreducible] PCalls ACalls CallK GoCall GoDCall GoIf GoGb GoDGb GoO GoD GoX GoDX GoG GoDG GoGv GoDGv Go ALoop

theorem ownV_one {v : Vl} (h : ownV v = true) : oneV v = true := by unfold ownV at h; simp only [Bool.and_eq_true] at h; exact h.1
theorem oneV_kids {v : Vl} (h : oneV v = true) : (v.kids.length : Int) = if v.kind = 5 ∨ v.kind = 7 then 2 else 0 := by
  unfold oneV at h; simp only [Bool.and_eq_true, decide_eq_true_eq] at h; exact h.1.2
theorem oneV_two {v : Vl} (h : oneV v = true) (hk : v.kind = 7 ∨ v.kind = 5) : v.kids.length = 2 := by
  have := oneV_kids h
  rw [if_pos (by omega)] at this; omega

theorem rightV_step (v : Vl) (ih : ∀ x ∈ v.kids, PCalls Try.prog 50 [embV x] (.bool (rightV x))) : PCalls Try.prog 50 [embV v] (.bool (rightV v)) := by
  have q1 := vone_ok v
  have hfalse : ∀ i, i < v.kids.length → rightV (v.kid i) = false → rightV v = false := fun i h1 h2 => by rw [rightV_eq, allN_false h1 h2]; simp
  cases h1 : oneV v with
  | false =>
    rw [h1] at q1
    have : rightV v = false := by rw [rightV_eq]; simp [ownV, h1]
    rw [this]
    refine pcalls_text C_ok Try.func50 rfl (by decide) (Nat.le_of_ble_eq_true rfl) (by decide) rfl fun ok H => ?_
    rw [Try.results50]
    have h := True.intro
    repeat' (first
     | (with_reducible first | refine bA ?_ ?_ | refine bB ?_ ?_ | refine bC ?_ ?_ | refine bD ?_ ?_ | refine bE ?_ ?_ | refine bF ?_ ?_) <;> intro h
     | ((first | refine goCall_norm ?_ | refine goDCall_norm ?_); simp only [AV.norm, AV.normL, W2, W2C, W2V]; first | refine goCall_p (q1) (.inl rfl) ?_ | refine goDCall_p (q1) (.inl rfl) ?_)
     | skip) <;> simp only [h, ↓upd_eq, ↓envL_cons, WZ, reduceIte, reduceEqDiff, reduceAdd, reduceLT, reduceLeDiff, reduceCtorEq, reduceMul, reducePow, W1, W1C, W1V]
  | true =>
    rw [h1] at q1
    by_cases h7 : v.kind = 7
    · have hl := oneV_two h1 (.inl h7)
      have b7 : (v.kind == 7) = true := by simpa using h7
      have g1 : (v.kids.map embV).getD 1 .any = embV (v.kid 1) := mapV_kid (by omega)
      have q2 := vrest_ok (v.kid 1)
      have c1 : ((1 : Int) < (2 : Nat)) = True := by simp
      have t1 : Int.toNat 1 = 1 := rfl
      have z1 : ((0 : Int) ≤ 1) = True := by simp
      have c2 : ((1 : Int) < (v.kids.length : Int)) = True := by simp; omega
      cases h2 : restV (v.kid 1) with
      | false =>
        rw [h2] at q2
        have : rightV v = false := by rw [rightV_eq]; simp [ownV, h1, h7, h2]
        rw [this]
        refine pcalls_text C_ok Try.func50 rfl (by decide) (Nat.le_of_ble_eq_true rfl) (by decide) rfl fun ok H => ?_
        rw [Try.results50]
        have h := True.intro
        repeat' (first
         | (with_reducible first | refine bA ?_ ?_ | refine bB ?_ ?_ | refine bC ?_ ?_ | refine bD ?_ ?_ | refine bE ?_ ?_ | refine bF ?_ ?_) <;> intro h
         | ((first | refine goCall_norm ?_ | refine goDCall_norm ?_); simp only [AV.norm, AV.normL, W2, W2C, W2V, b7, hl, g1, c1, t1, z1, List.length_map]; first | refine goCall_p (q1) (.inl rfl) ?_ | refine goCall_p (q2) (.inl rfl) ?_ | refine goDCall_p (q1) (.inl rfl) ?_ | refine goDCall_p (q2) (.inl rfl) ?_)
         | skip) <;> simp only [h, ↓upd_eq, ↓envL_cons, WZ, reduceIte, reduceEqDiff, reduceAdd, reduceLT, reduceLeDiff, reduceCtorEq, reduceMul, reducePow, W1, W1C, W1V, b7, hl, g1, c1, t1, z1, List.length_map]
      | true =>
        rw [h2] at q2
        have htrue : (∀ i, i < v.kids.length → rightV (v.kid i) = true) → rightV v = true := fun h => by rw [rightV_eq, allN_true h]; simp [ownV, h1, h7, h2]
        refine pcalls_text C_ok Try.func50 rfl (by decide) (Nat.le_of_ble_eq_true rfl) (by decide) rfl fun ok H => ?_
        rw [Try.results50]
        have hmax : v.kids.length ≤ maxLen := (embV_okay ok.1).1
        have h := True.intro
        repeat' (first
         | (with_reducible first | refine bA ?_ ?_ | refine bB ?_ ?_ | refine bC ?_ ?_ | refine bD ?_ ?_ | refine bE ?_ ?_ | refine bF ?_ ?_) <;> intro h
         | ((first | refine goCall_norm ?_ | refine goDCall_norm ?_); simp only [AV.norm, AV.normL, W2, W2C, W2V, b7, g1, c2, t1, z1, List.length_map]; first | refine goCall_p (q1) (.inl rfl) ?_ | refine goCall_p (q2) (.inl rfl) ?_ | refine goDCall_p (q1) (.inl rfl) ?_ | refine goDCall_p (q2) (.inl rfl) ?_)
         | skip) <;> simp only [h, ↓upd_eq, ↓envL_cons, WZ, reduceIte, reduceEqDiff, reduceAdd, reduceLT, reduceLeDiff, reduceCtorEq, reduceMul, reducePow, W1, W1C, W1V, b7, g1, c2, t1, z1, List.length_map]
        refine aloop_trim [24, 22, 23] ?_
        simp only [List.map_cons, List.map_nil, ↓upd_eq, ↓envL_cons, WZ, reduceIte, reduceEqDiff, reduceAdd, reduceLT, reduceLeDiff, reduceCtorEq, reduceMul, reducePow, W1, W1C, W1V]
        refine goLoopS 1 (fun i : Nat => [(24, .int .i64 i)]) (fun _ => _) (fun i => i ≤ v.kids.length ∧ ∀ j, j < i → (fun j => rightV (v.kid j)) j = true) (fun i => v.kids.length - i) C_ok 0 rfl rfl ⟨Nat.zero_le _, by simp⟩ (by decide) ?_
        rintro i ⟨hi, hall⟩
        simp only [List.drop_succ_cons, List.drop_zero, List.cons_append, List.nil_append]
        simp only [↓upd_eq, ↓envL_cons, WZ, reduceIte, reduceEqDiff, reduceAdd, reduceLT, reduceLeDiff, reduceCtorEq, reduceMul, reducePow, W1, W1C, W1V]
        refine goIf_d (fun hlt => ?_) (fun hlt => ?_)
        · have h := True.intro
          repeat' (first
           | (with_reducible first | refine bA ?_ ?_ | refine bB ?_ ?_ | refine bC ?_ ?_ | refine bD ?_ ?_ | refine bE ?_ ?_ | refine bF ?_ ?_) <;> intro h
           | ((first | refine goCall_norm ?_ | refine goDCall_norm ?_); simp only [AV.norm, AV.normL, W2, W2C, W2V, hlt, mapV_kid hlt]; first | refine goCall_p (ih _ (vlkid_mem hlt)) (.inl rfl) ?_ | refine goDCall_p (ih _ (vlkid_mem hlt)) (.inl rfl) ?_)
           | skip) <;> simp only [h, ↓upd_eq, ↓envL_cons, WZ, reduceIte, reduceEqDiff, reduceAdd, reduceLT, reduceLeDiff, reduceCtorEq, reduceMul, reducePow, W1, W1C, W1V, hlt, mapV_kid hlt]
          all_goals first
            | exact (hfalse i hlt (by first | assumption | simp only [*])).symm
            | (refine ⟨i + 1, ⟨by omega, fun j hj => ?_⟩, by omega, weak_drop rfl rfl rfl rfl ?_ ?_ ?_⟩
               · rcases Nat.lt_succ_iff_lt_or_eq.1 hj with hj | rfl
                 · exact hall j hj
                 · first | assumption | simp only [*]
               all_goals simp only [List.forall_mem_cons, mem_nil_all, frz_app, ↓upd_eq, ↓envL_cons, Nat.reduceEqDiff, if_true, if_false, reduceIte, true_and, and_true, and_self, true_or, or_true, implies_true, List.not_mem_nil, false_implies, AV.bel, AV.belL, AObj.bel, AV.norm, AV.normL, Bool.and_true, Bool.true_and, decide_true, decide_eq_true_eq, List.length_cons, List.length_nil, Nat.zero_add, Nat.reduceAdd, Nat.lt_add_one, Nat.lt_add_right_iff_pos, Nat.zero_lt_succ, Nat.zero_lt_one, Nat.reduceLT, List.take_succ_cons, List.take_zero, wrap_succ hlt hmax, map_bel, mapC_bel, mapV_bel, AV.belL, List.length_map])
        · simp only [↓upd_eq, ↓envL_cons, WZ, reduceIte, reduceEqDiff, reduceAdd, reduceLT, reduceLeDiff, reduceCtorEq, reduceMul, reducePow, W1, W1C, W1V]
          exact (htrue fun j hj => hall j (by omega)).symm
    · have b7 : (v.kind == 7) = false := by simpa using h7
      have htrue : (∀ i, i < v.kids.length → rightV (v.kid i) = true) → rightV v = true := fun h => by rw [rightV_eq, allN_true h]; simp [ownV, h1, h7]
      refine pcalls_text C_ok Try.func50 rfl (by decide) (Nat.le_of_ble_eq_true rfl) (by decide) rfl fun ok H => ?_
      rw [Try.results50]
      have hmax : v.kids.length ≤ maxLen := (embV_okay ok.1).1
      have h := True.intro
      repeat' (first
       | (with_reducible first | refine bA ?_ ?_ | refine bB ?_ ?_ | refine bC ?_ ?_ | refine bD ?_ ?_ | refine bE ?_ ?_ | refine bF ?_ ?_) <;> intro h
       | ((first | refine goCall_norm ?_ | refine goDCall_norm ?_); simp only [AV.norm, AV.normL, W2, W2C, W2V, b7]; first | refine goCall_p (q1) (.inl rfl) ?_ | refine goDCall_p (q1) (.inl rfl) ?_)
       | skip) <;> simp only [h, ↓upd_eq, ↓envL_cons, WZ, reduceIte, reduceEqDiff, reduceAdd, reduceLT, reduceLeDiff, reduceCtorEq, reduceMul, reducePow, W1, W1C, W1V, b7]
      refine aloop_trim [24, 22, 23] ?_
      simp only [List.map_cons, List.map_nil, ↓upd_eq, ↓envL_cons, WZ, reduceIte, reduceEqDiff, reduceAdd, reduceLT, reduceLeDiff, reduceCtorEq, reduceMul, reducePow, W1, W1C, W1V]
      refine goLoopS 1 (fun i : Nat => [(24, .int .i64 i)]) (fun _ => _) (fun i => i ≤ v.kids.length ∧ ∀ j, j < i → (fun j => rightV (v.kid j)) j = true) (fun i => v.kids.length - i) C_ok 0 rfl rfl ⟨Nat.zero_le _, by simp⟩ (by decide) ?_
      rintro i ⟨hi, hall⟩
      simp only [List.drop_succ_cons, List.drop_zero, List.cons_append, List.nil_append]
      simp only [↓upd_eq, ↓envL_cons, WZ, reduceIte, reduceEqDiff, reduceAdd, reduceLT, reduceLeDiff, reduceCtorEq, reduceMul, reducePow, W1, W1C, W1V]
      refine goIf_d (fun hlt => ?_) (fun hlt => ?_)
      · have h := True.intro
        repeat' (first
         | (with_reducible first | refine bA ?_ ?_ | refine bB ?_ ?_ | refine bC ?_ ?_ | refine bD ?_ ?_ | refine bE ?_ ?_ | refine bF ?_ ?_) <;> intro h
         | ((first | refine goCall_norm ?_ | refine goDCall_norm ?_); simp only [AV.norm, AV.normL, W2, W2C, W2V, hlt, mapV_kid hlt]; first | refine goCall_p (ih _ (vlkid_mem hlt)) (.inl rfl) ?_ | refine goDCall_p (ih _ (vlkid_mem hlt)) (.inl rfl) ?_)
         | skip) <;> simp only [h, ↓upd_eq, ↓envL_cons, WZ, reduceIte, reduceEqDiff, reduceAdd, reduceLT, reduceLeDiff, reduceCtorEq, reduceMul, reducePow, W1, W1C, W1V, hlt, mapV_kid hlt]
        all_goals first
          | exact (hfalse i hlt (by first | assumption | simp only [*])).symm
          | (refine ⟨i + 1, ⟨by omega, fun j hj => ?_⟩, by omega, weak_drop rfl rfl rfl rfl ?_ ?_ ?_⟩
             · rcases Nat.lt_succ_iff_lt_or_eq.1 hj with hj | rfl
               · exact hall j hj
               · first | assumption | simp only [*]
             all_goals simp only [List.forall_mem_cons, mem_nil_all, frz_app, ↓upd_eq, ↓envL_cons, Nat.reduceEqDiff, if_true, if_false, reduceIte, true_and, and_true, and_self, true_or, or_true, implies_true, List.not_mem_nil, false_implies, AV.bel, AV.belL, AObj.bel, AV.norm, AV.normL, Bool.and_true, Bool.true_and, decide_true, decide_eq_true_eq, List.length_cons, List.length_nil, Nat.zero_add, Nat.reduceAdd, Nat.lt_add_one, Nat.lt_add_right_iff_pos, Nat.zero_lt_succ, Nat.zero_lt_one, Nat.reduceLT, List.take_succ_cons, List.take_zero, wrap_succ hlt hmax, map_bel, mapC_bel, mapV_bel, AV.belL, List.length_map])
      · simp only [↓upd_eq, ↓envL_cons, WZ, reduceIte, reduceEqDiff, reduceAdd, reduceLT, reduceLeDiff, reduceCtorEq, reduceMul, reducePow, W1, W1C, W1V]
        exact (htrue fun j hj => hall j (by omega)).symm

theorem vright_ok (v : Vl) : PCalls Try.prog 50 [embV v] (.bool (rightV v)) := Vl.ind rightV_step v
theorem vcheck_ok (v : Vl) : PCalls Try.prog 16 [embV v] (.int .i64 (if rightV v then 0 else 1)) := by
  refine pcalls_text C_ok Try.func16 rfl (by decide) (Nat.le_of_ble_eq_true rfl) (by decide) rfl fun ok H => ?_
  rw [Try.results16]
  have h := True.intro
  repeat' (first
   | (with_reducible first | refine bA ?_ ?_ | refine bB ?_ ?_ | refine bC ?_ ?_ | refine bD ?_ ?_ | refine bE ?_ ?_ | refine bF ?_ ?_) <;> intro h
   | ((first | refine goCall_norm ?_ | refine goDCall_norm ?_); simp only [AV.norm, AV.normL, W2, W2C, W2V]; first | refine goCall_p (vright_ok _) (.inl rfl) ?_ | refine goDCall_p (vright_ok _) (.inl rfl) ?_)
   | skip) <;> simp only [h, ↓upd_eq, ↓envL_cons, WZ, reduceIte, reduceEqDiff, reduceAdd, reduceLT, reduceLeDiff, reduceCtorEq, reduceMul, reducePow, W1, W1C, W1V]
  all_goals simp_all
theorem bareV_step (v : Vl) (ih : ∀ x ∈ v.kids, PCalls Try.prog 51 [embV x] (.bool (bareV x))) : PCalls Try.prog 51 [embV v] (.bool (bareV v)) := by
  have hfalse : ∀ i, i < v.kids.length → bareV (v.kid i) = false → bareV v = false := fun i h1 h2 => by rw [bareV_eq, allN_false h1 h2]; simp
  cases h1 : bareN v with
  | false =>
    have : bareV v = false := by rw [bareV_eq, h1]; rfl
    rw [this]
    refine pcalls_text C_ok Try.func51 rfl (by decide) (Nat.le_of_ble_eq_true rfl) (by decide) rfl fun ok H => ?_
    rw [Try.results51]
    have h := True.intro
    repeat' (first
     | (with_reducible first | refine bA ?_ ?_ | refine bB ?_ ?_ | refine bC ?_ ?_ | refine bD ?_ ?_ | refine bE ?_ ?_ | refine bF ?_ ?_) <;> intro h
     | ((first | refine goCall_norm ?_ | refine goDCall_norm ?_); simp only [AV.norm, AV.normL, W2, W2C, W2V]; first | refine goCall_p (none_ok _) (.inl rfl) ?_ | refine goDCall_p (none_ok _) (.inl rfl) ?_)
     | skip) <;> simp only [h, ↓upd_eq, ↓envL_cons, WZ, reduceIte, reduceEqDiff, reduceAdd, reduceLT, reduceLeDiff, reduceCtorEq, reduceMul, reducePow, W1, W1C, W1V]
    all_goals (simp_all [bareN])
  | true =>
    have htrue : (∀ i, i < v.kids.length → bareV (v.kid i) = true) → bareV v = true := fun h => by rw [bareV_eq, allN_true h, h1]; rfl
    refine pcalls_text C_ok Try.func51 rfl (by decide) (Nat.le_of_ble_eq_true rfl) (by decide) rfl fun ok H => ?_
    rw [Try.results51]
    have hmax : v.kids.length ≤ maxLen := (embV_okay ok.1).1
    have h := True.intro
    repeat' (first
     | (with_reducible first | refine bA ?_ ?_ | refine bB ?_ ?_ | refine bC ?_ ?_ | refine bD ?_ ?_ | refine bE ?_ ?_ | refine bF ?_ ?_) <;> intro h
     | ((first | refine goCall_norm ?_ | refine goDCall_norm ?_); simp only [AV.norm, AV.normL, W2, W2C, W2V]; first | refine goCall_p (none_ok _) (.inl rfl) ?_ | refine goDCall_p (none_ok _) (.inl rfl) ?_)
     | skip) <;> simp only [h, ↓upd_eq, ↓envL_cons, WZ, reduceIte, reduceEqDiff, reduceAdd, reduceLT, reduceLeDiff, reduceCtorEq, reduceMul, reducePow, W1, W1C, W1V]
    case true.refine_1 => simp_all [bareN]
    case true.refine_2.refine_1.refine_1 => simp_all [bareN]
    case true.refine_2.refine_1.refine_2 =>
      refine aloop_trim [22, 20, 21] ?_
      simp only [List.map_cons, List.map_nil, ↓upd_eq, ↓envL_cons, WZ, reduceIte, reduceEqDiff, reduceAdd, reduceLT, reduceLeDiff, reduceCtorEq, reduceMul, reducePow, W1, W1C, W1V]
      refine goLoopS 1 (fun i : Nat => [(22, .int .i64 i)]) (fun _ => _) (fun i => i ≤ v.kids.length ∧ ∀ j, j < i → (fun j => bareV (v.kid j)) j = true) (fun i => v.kids.length - i) C_ok 0 rfl rfl ⟨Nat.zero_le _, by simp⟩ (by decide) ?_
      rintro i ⟨hi, hall⟩
      simp only [List.drop_succ_cons, List.drop_zero, List.cons_append, List.nil_append]
      simp only [↓upd_eq, ↓envL_cons, WZ, reduceIte, reduceEqDiff, reduceAdd, reduceLT, reduceLeDiff, reduceCtorEq, reduceMul, reducePow, W1, W1C, W1V]
      refine goIf_d (fun hlt => ?_) (fun hlt => ?_)
      · have h := True.intro
        repeat' (first
         | (with_reducible first | refine bA ?_ ?_ | refine bB ?_ ?_ | refine bC ?_ ?_ | refine bD ?_ ?_ | refine bE ?_ ?_ | refine bF ?_ ?_) <;> intro h
         | ((first | refine goCall_norm ?_ | refine goDCall_norm ?_); simp only [AV.norm, AV.normL, W2, W2C, W2V, hlt, mapV_kid hlt]; first | refine goCall_p (ih _ (vlkid_mem hlt)) (.inl rfl) ?_ | refine goDCall_p (ih _ (vlkid_mem hlt)) (.inl rfl) ?_)
         | skip) <;> simp only [h, ↓upd_eq, ↓envL_cons, WZ, reduceIte, reduceEqDiff, reduceAdd, reduceLT, reduceLeDiff, reduceCtorEq, reduceMul, reducePow, W1, W1C, W1V, hlt, mapV_kid hlt]
        all_goals first
          | exact (hfalse i hlt (by first | assumption | simp only [*])).symm
          | (refine ⟨i + 1, ⟨by omega, fun j hj => ?_⟩, by omega, weak_drop rfl rfl rfl rfl ?_ ?_ ?_⟩
             · rcases Nat.lt_succ_iff_lt_or_eq.1 hj with hj | rfl
               · exact hall j hj
               · first | assumption | simp only [*]
             all_goals simp only [List.forall_mem_cons, mem_nil_all, frz_app, ↓upd_eq, ↓envL_cons, Nat.reduceEqDiff, if_true, if_false, reduceIte, true_and, and_true, and_self, true_or, or_true, implies_true, List.not_mem_nil, false_implies, AV.bel, AV.belL, AObj.bel, AV.norm, AV.normL, Bool.and_true, Bool.true_and, decide_true, decide_eq_true_eq, List.length_cons, List.length_nil, Nat.zero_add, Nat.reduceAdd, Nat.lt_add_one, Nat.lt_add_right_iff_pos, Nat.zero_lt_succ, Nat.zero_lt_one, Nat.reduceLT, List.take_succ_cons, List.take_zero, wrap_succ hlt hmax, map_bel, mapC_bel, mapV_bel, AV.belL, List.length_map])
      · simp only [↓upd_eq, ↓envL_cons, WZ, reduceIte, reduceEqDiff, reduceAdd, reduceLT, reduceLeDiff, reduceCtorEq, reduceMul, reducePow, W1, W1C, W1V]
        exact (htrue fun j hj => hall j (by omega)).symm
    case true.refine_2.refine_2 =>
      refine aloop_trim [22, 20, 21] ?_
      simp only [List.map_cons, List.map_nil, ↓upd_eq, ↓envL_cons, WZ, reduceIte, reduceEqDiff, reduceAdd, reduceLT, reduceLeDiff, reduceCtorEq, reduceMul, reducePow, W1, W1C, W1V]
      refine goLoopS 1 (fun i : Nat => [(22, .int .i64 i)]) (fun _ => _) (fun i => i ≤ v.kids.length ∧ ∀ j, j < i → (fun j => bareV (v.kid j)) j = true) (fun i => v.kids.length - i) C_ok 0 rfl rfl ⟨Nat.zero_le _, by simp⟩ (by decide) ?_
      rintro i ⟨hi, hall⟩
      simp only [List.drop_succ_cons, List.drop_zero, List.cons_append, List.nil_append]
      simp only [↓upd_eq, ↓envL_cons, WZ, reduceIte, reduceEqDiff, reduceAdd, reduceLT, reduceLeDiff, reduceCtorEq, reduceMul, reducePow, W1, W1C, W1V]
      refine goIf_d (fun hlt => ?_) (fun hlt => ?_)
      · have h := True.intro
        repeat' (first
         | (with_reducible first | refine bA ?_ ?_ | refine bB ?_ ?_ | refine bC ?_ ?_ | refine bD ?_ ?_ | refine bE ?_ ?_ | refine bF ?_ ?_) <;> intro h
         | ((first | refine goCall_norm ?_ | refine goDCall_norm ?_); simp only [AV.norm, AV.normL, W2, W2C, W2V, hlt, mapV_kid hlt]; first | refine goCall_p (ih _ (vlkid_mem hlt)) (.inl rfl) ?_ | refine goDCall_p (ih _ (vlkid_mem hlt)) (.inl rfl) ?_)
         | skip) <;> simp only [h, ↓upd_eq, ↓envL_cons, WZ, reduceIte, reduceEqDiff, reduceAdd, reduceLT, reduceLeDiff, reduceCtorEq, reduceMul, reducePow, W1, W1C, W1V, hlt, mapV_kid hlt]
        all_goals first
          | exact (hfalse i hlt (by first | assumption | simp only [*])).symm
          | (refine ⟨i + 1, ⟨by omega, fun j hj => ?_⟩, by omega, weak_drop rfl rfl rfl rfl ?_ ?_ ?_⟩
             · rcases Nat.lt_succ_iff_lt_or_eq.1 hj with hj | rfl
               · exact hall j hj
               · first | assumption | simp only [*]
             all_goals simp only [List.forall_mem_cons, mem_nil_all, frz_app, ↓upd_eq, ↓envL_cons, Nat.reduceEqDiff, if_true, if_false, reduceIte, true_and, and_true, and_self, true_or, or_true, implies_true, List.not_mem_nil, false_implies, AV.bel, AV.belL, AObj.bel, AV.norm, AV.normL, Bool.and_true, Bool.true_and, decide_true, decide_eq_true_eq, List.length_cons, List.length_nil, Nat.zero_add, Nat.reduceAdd, Nat.lt_add_one, Nat.lt_add_right_iff_pos, Nat.zero_lt_succ, Nat.zero_lt_one, Nat.reduceLT, List.take_succ_cons, List.take_zero, wrap_succ hlt hmax, map_bel, mapC_bel, mapV_bel, AV.belL, List.length_map])
      · simp only [↓upd_eq, ↓envL_cons, WZ, reduceIte, reduceEqDiff, reduceAdd, reduceLT, reduceLeDiff, reduceCtorEq, reduceMul, reducePow, W1, W1C, W1V]
        exact (htrue fun j hj => hall j (by omega)).symm
theorem vbare_ok (v : Vl) : PCalls Try.prog 51 [embV v] (.bool (bareV v)) := Vl.ind bareV_step v
theorem vtold_ok (v : Vl) : PCalls Try.prog 17 [embV v] (.bool (toldV v)) := by
  refine pcalls_text C_ok Try.func17 rfl (by decide) (Nat.le_of_ble_eq_true rfl) (by decide) rfl fun ok H => ?_
  rw [Try.results17]
  have h := True.intro
  repeat' (first
   | (with_reducible first | refine bA ?_ ?_ | refine bB ?_ ?_ | refine bC ?_ ?_ | refine bD ?_ ?_ | refine bE ?_ ?_ | refine bF ?_ ?_) <;> intro h
   | ((first | refine goCall_norm ?_ | refine goDCall_norm ?_); simp only [AV.norm, AV.normL, W2, W2C, W2V]; first | refine goCall_p (vright_ok _) (.inl rfl) ?_ | refine goCall_p (vbare_ok _) (.inl rfl) ?_ | refine goDCall_p (vright_ok _) (.inl rfl) ?_ | refine goDCall_p (vbare_ok _) (.inl rfl) ?_)
   | skip) <;> simp only [h, ↓upd_eq, ↓envL_cons, WZ, reduceIte, reduceEqDiff, reduceAdd, reduceLT, reduceLeDiff, reduceCtorEq, reduceMul, reducePow, W1, W1C, W1V]
  all_goals simp_all [toldV]

theorem vlEq_step (l l' : List Vl) (hl : l.length ≤ maxLen) (ih : ∀ x ∈ l, ∀ y, PCalls Try.prog 18 [embV x, embV y] (.bool (sameV x y))) :
    PCalls Try.prog 53 [.sl (l.map embV) .no, .sl (l'.map embV) .no, .fn 18] (.bool (sameVL l l')) := by
  by_cases hlen : l.length = l'.length
  · have hne : ((l.length : Int) != (l'.length : Int)) = false := by simp [hlen]
    have hmax : l.length ≤ maxLen := hl
    have hfalse : ∀ i, i < l.length → sameV (l.getD i default) (l'.getD i default) = false → sameVL l l' = false := fun i h1 h2 => by rw [sameVL_all, allN_false h1 h2]; simp
    have htrue : (∀ i, i < l.length → sameV (l.getD i default) (l'.getD i default) = true) → sameVL l l' = true := fun h => by rw [sameVL_all, allN_true h]; simp [hlen]
    have hm : ∀ {i}, i < l.length → l.getD i default ∈ l := fun {i} h => by simp [h]
    refine pcalls_text C_ok Try.func53 rfl (by decide) (Nat.le_of_ble_eq_true rfl) (by decide) rfl fun ok H => ?_
    rw [Try.results53]
    have h := True.intro
    repeat' (first
     | (with_reducible first | refine bA ?_ ?_ | refine bB ?_ ?_ | refine bC ?_ ?_ | refine bD ?_ ?_ | refine bE ?_ ?_ | refine bF ?_ ?_) <;> intro h
     | skip) <;> simp only [h, ↓upd_eq, ↓envL_cons, WZ, reduceIte, reduceEqDiff, reduceAdd, reduceLT, reduceLeDiff, reduceCtorEq, reduceMul, reducePow, W1, W1C, W1V, hne, List.length_map]
    refine aloop_trim [17, 1, 2, 15, 16] ?_
    simp only [List.map_cons, List.map_nil, ↓upd_eq, ↓envL_cons, WZ, reduceIte, reduceEqDiff, reduceAdd, reduceLT, reduceLeDiff, reduceCtorEq, reduceMul, reducePow, W1, W1C, W1V]
    refine goLoopS 1 (fun i : Nat => [(17, .int .i64 i)]) (fun _ => _) (fun i => i ≤ l.length ∧ ∀ j, j < i → (fun j => sameV (l.getD j default) (l'.getD j default)) j = true) (fun i => l.length - i) C_ok 0 rfl rfl ⟨Nat.zero_le _, by simp⟩ (by decide) ?_
    rintro i ⟨hi, hall⟩
    simp only [List.drop_succ_cons, List.drop_zero, List.cons_append, List.nil_append]
    simp only [↓upd_eq, ↓envL_cons, WZ, reduceIte, reduceEqDiff, reduceAdd, reduceLT, reduceLeDiff, reduceCtorEq, reduceMul, reducePow, W1, W1C, W1V]
    refine goIf_d (fun hlt => ?_) (fun hlt => ?_)
    · have h := True.intro
      repeat' (first
       | (with_reducible first | refine bA ?_ ?_ | refine bB ?_ ?_ | refine bC ?_ ?_ | refine bD ?_ ?_ | refine bE ?_ ?_ | refine bF ?_ ?_) <;> intro h
       | ((first | refine goCall_norm ?_ | refine goDCall_norm ?_); simp only [AV.norm, AV.normL, W2, W2C, W2V, hlt, mapV_get hlt, mapV_get (l := l') (hlen ▸ hlt), hlen ▸ hlt]; first | refine goCall_p (ih _ (hm hlt) _) (.inl rfl) ?_ | refine goDCall_p (ih _ (hm hlt) _) (.inl rfl) ?_)
       | skip) <;> simp only [h, ↓upd_eq, ↓envL_cons, WZ, reduceIte, reduceEqDiff, reduceAdd, reduceLT, reduceLeDiff, reduceCtorEq, reduceMul, reducePow, W1, W1C, W1V, hlt, mapV_get hlt, mapV_get (l := l') (hlen ▸ hlt), hlen ▸ hlt]
      all_goals first
        | exact (hfalse i hlt (by first | assumption | simp only [*])).symm
        | (refine ⟨i + 1, ⟨by omega, fun j hj => ?_⟩, by omega, weak_drop rfl rfl rfl rfl ?_ ?_ ?_⟩
           · rcases Nat.lt_succ_iff_lt_or_eq.1 hj with hj | rfl
             · exact hall j hj
             · first | assumption | simp only [*]
           all_goals simp only [List.forall_mem_cons, mem_nil_all, frz_app, ↓upd_eq, ↓envL_cons, Nat.reduceEqDiff, if_true, if_false, reduceIte, true_and, and_true, and_self, true_or, or_true, implies_true, List.not_mem_nil, false_implies, AV.bel, AV.belL, AObj.bel, AV.norm, AV.normL, Bool.and_true, Bool.true_and, decide_true, decide_eq_true_eq, List.length_cons, List.length_nil, Nat.zero_add, Nat.reduceAdd, Nat.lt_add_one, Nat.lt_add_right_iff_pos, Nat.zero_lt_succ, Nat.zero_lt_one, Nat.reduceLT, List.take_succ_cons, List.take_zero, wrap_succ hlt hmax, map_bel, mapC_bel, mapV_bel, AV.belL, List.length_map])
    · simp only [↓upd_eq, ↓envL_cons, WZ, reduceIte, reduceEqDiff, reduceAdd, reduceLT, reduceLeDiff, reduceCtorEq, reduceMul, reducePow, W1, W1C, W1V]
      exact (htrue fun j hj => hall j (by omega)).symm
  · have hne : ((l.length : Int) != (l'.length : Int)) = true := by simp; omega
    refine pcalls_text C_ok Try.func53 rfl (by decide) (Nat.le_of_ble_eq_true rfl) (by decide) rfl fun ok H => ?_
    rw [Try.results53]
    have h := True.intro
    repeat' (first
     | (with_reducible first | refine bA ?_ ?_ | refine bB ?_ ?_ | refine bC ?_ ?_ | refine bD ?_ ?_ | refine bE ?_ ?_ | refine bF ?_ ?_) <;> intro h
     | skip) <;> simp only [h, ↓upd_eq, ↓envL_cons, WZ, reduceIte, reduceEqDiff, reduceAdd, reduceLT, reduceLeDiff, reduceCtorEq, reduceMul, reducePow, W1, W1C, W1V, hne, List.length_map]
    rw [sameVL_all]; simp [hlen]
theorem eqLd (a b : List UInt8) : (a == b) = decide (a = b) := by rw [Bool.eq_iff_iff]; simp
theorem vsame_step (a b : Vl) (ih : ∀ x ∈ a.kids, ∀ y, PCalls Try.prog 18 [embV x, embV y] (.bool (sameV x y))) : PCalls Try.prog 18 [embV a, embV b] (.bool (sameV a b)) := by
  refine pcalls_text C_ok Try.func18 rfl (by decide) (Nat.le_of_ble_eq_true rfl) (by decide) rfl fun ok H => ?_
  rw [Try.results18]
  have hmax : a.kids.length ≤ maxLen := (embV_okay ok.1).1
  have hs : sameV a b = ((a.kind == b.kind) && ((a.num == b.num) && ((a.str.toList == b.str.toList) && (sameC a.co b.co && sameVL a.kids b.kids)))) := by
    cases a; cases b; rw [sameV]; simp only [sameN, Vl.kind, Vl.num, Vl.str, Vl.co, Vl.kids, Bool.and_assoc, ByteArray.toList_eq, eqLd]; rfl
  rw [hs]
  have h := True.intro
  repeat' (first
   | (with_reducible first | refine bA ?_ ?_ | refine bB ?_ ?_ | refine bC ?_ ?_ | refine bD ?_ ?_ | refine bE ?_ ?_ | refine bF ?_ ?_) <;> intro h
   | ((first | refine goCall_norm ?_ | refine goDCall_norm ?_); simp only [AV.norm, AV.normL, W2, W2C, W2V]; first | refine goCall_p (sameC_ok _ _) (.inl rfl) ?_ | refine goCall_p (vlEq_step _ _ hmax ih) (.inl rfl) ?_ | refine goDCall_p (sameC_ok _ _) (.inl rfl) ?_ | refine goDCall_p (vlEq_step _ _ hmax ih) (.inl rfl) ?_)
   | skip) <;> simp only [h, ↓upd_eq, ↓envL_cons, WZ, reduceIte, reduceEqDiff, reduceAdd, reduceLT, reduceLeDiff, reduceCtorEq, reduceMul, reducePow, W1, W1C, W1V]
  all_goals simp_all
theorem vsame_ok (a b : Vl) : PCalls Try.prog 18 [embV a, embV b] (.bool (sameV a b)) :=
  Vl.ind (p := fun a => ∀ b, PCalls Try.prog 18 [embV a, embV b] (.bool (sameV a b))) (fun a ih b => vsame_step a b ih) a b

end Go.Proofs.Ytofogicgnldfhaa
end

