/- Lemmas: the page on values. No condition. -/
import Derived.Test.YtofogicgnldfhaaPYc
import Derived.Test.YtofogicgnldfhaaPGa
import Derived.Test.YtofogicgnldfhaaPFa

section
/- Walks: the reference's right values, told ones, the same. No condition. -/
set_option linter.unusedSimpArgs false
set_option linter.unusedVariables false
set_option maxHeartbeats 4000000
set_option maxRecDepth 100000
namespace Go.Proofs.Ytofogicgnldfhaa
open Go Go.Ab
open Nat (reduceEqDiff reduceAdd reduceLT reduceLeDiff reduceMul reducePow)
attribute [local irreducible] PCalls ACalls CallK GoCall GoDCall GoIf GoGb GoDGb GoO GoD GoX GoDX GoG GoDG GoGv GoDGv Go ALoop

theorem rlist_ok (v : Vl) : PCalls Try.prog 82 [embV v] (.bool (v.kind == 6 || v.kind == 7)) := by
  refine pcalls_text C_ok Try.func82 rfl (by decide) (Nat.le_of_ble_eq_true rfl) (by decide) rfl fun ok H => ?_
  rw [Try.results82]
  have h := True.intro
  repeat' (first
   | (with_reducible first | apply bA | apply bB | apply bC | apply bD | apply bE | apply bF) <;> intro h
   | skip) <;> simp only [h, ↓upd_eq, ↓envL_cons, WZ, reduceIte, reduceEqDiff, reduceAdd, reduceLT, reduceLeDiff, reduceCtorEq, reduceMul, reducePow, W1, W1C, W1V]
  all_goals simp_all
theorem rkidsOf_ok (v : Vl) : PCalls Try.prog 83 [embV v] (.bool (v.kind == 5 || (v.kind == 6 || v.kind == 7) || v.kind == 8)) := by
  refine pcalls_text C_ok Try.func83 rfl (by decide) (Nat.le_of_ble_eq_true rfl) (by decide) rfl fun ok H => ?_
  rw [Try.results83]
  have h := True.intro
  repeat' (first
   | (with_reducible first | apply bA | apply bB | apply bC | apply bD | apply bE | apply bF) <;> intro h
   | ((first | refine goCall_norm ?_ | refine goDCall_norm ?_); simp only [AV.norm, AV.normL, W2, W2C, W2V]; first | refine goCall_p (rlist_ok _) (.inl rfl) ?_ | refine goDCall_p (rlist_ok _) (.inl rfl) ?_)
   | skip) <;> simp only [h, ↓upd_eq, ↓envL_cons, WZ, reduceIte, reduceEqDiff, reduceAdd, reduceLT, reduceLeDiff, reduceCtorEq, reduceMul, reducePow, W1, W1C, W1V]
  all_goals simp_all

theorem around_ref (v : Vl) (h1 : 1 ≤ v.kind) (h2 : v.kind ≤ 8) : aroundV v = (noneB v.co || (rightC v.co && (if v.co.kind = 5 then v.co.head == headV v.kind else (former v.co.kind == headV v.kind && (v.kind == 5 || (v.kind == 6 || v.kind == 7) || v.kind == 8))))) := by
  unfold aroundV
  congr 1; congr 1
  split
  · rw [Bool.eq_iff_iff]; simp
  · rw [Bool.eq_iff_iff]
    unfold former headV
    simp only [Bool.and_eq_true, Bool.or_eq_true, beq_iff_eq, decide_eq_true_eq]
    (repeat' split) <;> (simp; try omega)

theorem nil_bneR (l : List UInt8) : (!(l == ByteArray.empty.data.toList)) = decide (l ≠ []) := by cases l <;> rfl
theorem rown_1 (v : Vl) (hk : v.kind = 1) : PCalls Try.prog 47 [embV v] (.bool (ownV v)) := by
  have hBE : ∀ j : Int, (v.kind == j) = ((1 : Int) == j) := fun j => by rw [hk]
  have hBN : ∀ j : Int, (v.kind != j) = ((1 : Int) != j) := fun j => by rw [hk]
  have ha := around_ref v (by omega) (by omega)
  refine pcalls_text C_ok Try.func47 rfl (by decide) (Nat.le_of_ble_eq_true rfl) (by decide) rfl fun ok H => ?_
  rw [Try.results47]
  repeat' first
   | ((first | apply goGb_op (fun _ _ => rfl) | apply goDGb_op (fun _ _ => rfl)); (· intro hb; (try simp only [Bool.and_eq_true, Bool.not_eq_true', Bool.or_eq_false_iff, Bool.not_eq_false'] at hb); simp only [hb, ↓upd_eq, ↓envL_cons, WZ, reduceIte, reduceEqDiff, reduceAdd, reduceLT, reduceLeDiff, reduceCtorEq, reduceMul, reducePow, W1, W1C, W1V, W5, hBE, hBN, Int.reduceBEq, Int.reduceBNe]; exact ⟨rfl, trivial⟩))
   | ((first | apply goGb_call (rnone_ok _) | apply goDGb_call (rnone_ok _) | apply goGb_call (rrightC_ok _) | apply goDGb_call (rrightC_ok _) | apply goGb_call (rhead_v _) | apply goDGb_call (rhead_v _) | apply goGb_call (rFormer_ok _) | apply goDGb_call (rFormer_ok _) | apply goGb_call (rkidsOf_ok _) | apply goDGb_call (rkidsOf_ok _)); (· intro hb; (try simp only [Bool.and_eq_true, Bool.not_eq_true', Bool.or_eq_false_iff, Bool.not_eq_false'] at hb); simp only [hb, AV.norm, AV.normL, W2, W2C, W2V, ↓upd_eq, ↓envL_cons, WZ, reduceIte, reduceEqDiff, reduceAdd, reduceLT, reduceLeDiff, reduceCtorEq, reduceMul, reducePow, W1, W1C, W1V, W5, hBE, hBN, Int.reduceBEq, Int.reduceBNe]; rfl))
   | (with_reducible first | apply bA | apply bB | apply bC | apply bD | apply bE | apply bF) <;> intro h <;> try simp only [h, ↓upd_eq, ↓envL_cons, WZ, reduceIte, reduceEqDiff, reduceAdd, reduceLT, reduceLeDiff, reduceCtorEq, reduceMul, reducePow, W1, W1C, W1V, W5, hBE, hBN, Int.reduceBEq, Int.reduceBNe]
   | ((first | refine goCall_norm ?_ | refine goDCall_norm ?_); simp only [AV.norm, AV.normL, W2, W2C, W2V, hBE, hBN, Int.reduceBEq, Int.reduceBNe]; first | refine goCall_p (rnone_ok _) (.inl rfl) ?_ | refine goCall_p (rrightC_ok _) (.inl rfl) ?_ | refine goCall_p (rhead_v _) (.inl rfl) ?_ | refine goCall_p (rFormer_ok _) (.inl rfl) ?_ | refine goCall_p (rkidsOf_ok _) (.inl rfl) ?_ | refine goDCall_p (rnone_ok _) (.inl rfl) ?_ | refine goDCall_p (rrightC_ok _) (.inl rfl) ?_ | refine goDCall_p (rhead_v _) (.inl rfl) ?_ | refine goDCall_p (rFormer_ok _) (.inl rfl) ?_ | refine goDCall_p (rkidsOf_ok _) (.inl rfl) ?_)
   | refine go_draw (id := 28) C_ok (fun _ => trivial) mixed 0 Try.f47.ntmps rfl (by kernel_rfl) (by decide) ?_
   | refine go_draw (id := 29) C_ok (fun _ => trivial) mixed 0 Try.f47.ntmps rfl (by kernel_rfl) (by decide) ?_
   | simp only [↓upd_eq, ↓envL_cons, WZ, reduceIte, reduceEqDiff, reduceAdd, reduceLT, reduceLeDiff, reduceCtorEq, reduceMul, reducePow, W1, W1C, W1V, W5, hBE, hBN, Int.reduceBEq, Int.reduceBNe]
  all_goals clear hBE hBN
  all_goals try simp only [ByteArray.toList_eq, nil_bneR, Bool.or_eq_true, Bool.and_eq_true, Bool.or_eq_false_iff, Bool.and_eq_false_iff, decide_eq_true_eq, decide_eq_false_iff_not, beq_iff_eq, beq_eq_false_iff_ne, ne_eq, bne_iff_ne, bne_eq_false_iff_eq] at *
  all_goals (rw [ownV, oneV, ha, hk]; simp_all [former, headV]; try first | omega | (intros; exfalso; simp_all [ByteArray.size] <;> omega))
theorem rown_2 (v : Vl) (hk : v.kind = 2) : PCalls Try.prog 47 [embV v] (.bool (ownV v)) := by
  have hBE : ∀ j : Int, (v.kind == j) = ((2 : Int) == j) := fun j => by rw [hk]
  have hBN : ∀ j : Int, (v.kind != j) = ((2 : Int) != j) := fun j => by rw [hk]
  have ha := around_ref v (by omega) (by omega)
  refine pcalls_text C_ok Try.func47 rfl (by decide) (Nat.le_of_ble_eq_true rfl) (by decide) rfl fun ok H => ?_
  rw [Try.results47]
  repeat' first
   | ((first | apply goGb_op (fun _ _ => rfl) | apply goDGb_op (fun _ _ => rfl)); (· intro hb; (try simp only [Bool.and_eq_true, Bool.not_eq_true', Bool.or_eq_false_iff, Bool.not_eq_false'] at hb); simp only [hb, ↓upd_eq, ↓envL_cons, WZ, reduceIte, reduceEqDiff, reduceAdd, reduceLT, reduceLeDiff, reduceCtorEq, reduceMul, reducePow, W1, W1C, W1V, W5, hBE, hBN, Int.reduceBEq, Int.reduceBNe]; exact ⟨rfl, trivial⟩))
   | ((first | apply goGb_call (rnone_ok _) | apply goDGb_call (rnone_ok _) | apply goGb_call (rrightC_ok _) | apply goDGb_call (rrightC_ok _) | apply goGb_call (rhead_v _) | apply goDGb_call (rhead_v _) | apply goGb_call (rFormer_ok _) | apply goDGb_call (rFormer_ok _) | apply goGb_call (rkidsOf_ok _) | apply goDGb_call (rkidsOf_ok _)); (· intro hb; (try simp only [Bool.and_eq_true, Bool.not_eq_true', Bool.or_eq_false_iff, Bool.not_eq_false'] at hb); simp only [hb, AV.norm, AV.normL, W2, W2C, W2V, ↓upd_eq, ↓envL_cons, WZ, reduceIte, reduceEqDiff, reduceAdd, reduceLT, reduceLeDiff, reduceCtorEq, reduceMul, reducePow, W1, W1C, W1V, W5, hBE, hBN, Int.reduceBEq, Int.reduceBNe]; rfl))
   | (with_reducible first | apply bA | apply bB | apply bC | apply bD | apply bE | apply bF) <;> intro h <;> try simp only [h, ↓upd_eq, ↓envL_cons, WZ, reduceIte, reduceEqDiff, reduceAdd, reduceLT, reduceLeDiff, reduceCtorEq, reduceMul, reducePow, W1, W1C, W1V, W5, hBE, hBN, Int.reduceBEq, Int.reduceBNe]
   | ((first | refine goCall_norm ?_ | refine goDCall_norm ?_); simp only [AV.norm, AV.normL, W2, W2C, W2V, hBE, hBN, Int.reduceBEq, Int.reduceBNe]; first | refine goCall_p (rnone_ok _) (.inl rfl) ?_ | refine goCall_p (rrightC_ok _) (.inl rfl) ?_ | refine goCall_p (rhead_v _) (.inl rfl) ?_ | refine goCall_p (rFormer_ok _) (.inl rfl) ?_ | refine goCall_p (rkidsOf_ok _) (.inl rfl) ?_ | refine goDCall_p (rnone_ok _) (.inl rfl) ?_ | refine goDCall_p (rrightC_ok _) (.inl rfl) ?_ | refine goDCall_p (rhead_v _) (.inl rfl) ?_ | refine goDCall_p (rFormer_ok _) (.inl rfl) ?_ | refine goDCall_p (rkidsOf_ok _) (.inl rfl) ?_)
   | refine go_draw (id := 28) C_ok (fun _ => trivial) mixed 0 Try.f47.ntmps rfl (by kernel_rfl) (by decide) ?_
   | refine go_draw (id := 29) C_ok (fun _ => trivial) mixed 0 Try.f47.ntmps rfl (by kernel_rfl) (by decide) ?_
   | simp only [↓upd_eq, ↓envL_cons, WZ, reduceIte, reduceEqDiff, reduceAdd, reduceLT, reduceLeDiff, reduceCtorEq, reduceMul, reducePow, W1, W1C, W1V, W5, hBE, hBN, Int.reduceBEq, Int.reduceBNe]
  all_goals clear hBE hBN
  all_goals try simp only [ByteArray.toList_eq, nil_bneR, Bool.or_eq_true, Bool.and_eq_true, Bool.or_eq_false_iff, Bool.and_eq_false_iff, decide_eq_true_eq, decide_eq_false_iff_not, beq_iff_eq, beq_eq_false_iff_ne, ne_eq, bne_iff_ne, bne_eq_false_iff_eq] at *
  all_goals (rw [ownV, oneV, ha, hk]; simp_all [former, headV]; try first | omega | (intros; exfalso; simp_all [ByteArray.size] <;> omega))
theorem rown_4 (v : Vl) (hk : v.kind = 4) : PCalls Try.prog 47 [embV v] (.bool (ownV v)) := by
  have hBE : ∀ j : Int, (v.kind == j) = ((4 : Int) == j) := fun j => by rw [hk]
  have hBN : ∀ j : Int, (v.kind != j) = ((4 : Int) != j) := fun j => by rw [hk]
  have ha := around_ref v (by omega) (by omega)
  refine pcalls_text C_ok Try.func47 rfl (by decide) (Nat.le_of_ble_eq_true rfl) (by decide) rfl fun ok H => ?_
  rw [Try.results47]
  repeat' first
   | ((first | apply goGb_op (fun _ _ => rfl) | apply goDGb_op (fun _ _ => rfl)); (· intro hb; (try simp only [Bool.and_eq_true, Bool.not_eq_true', Bool.or_eq_false_iff, Bool.not_eq_false'] at hb); simp only [hb, ↓upd_eq, ↓envL_cons, WZ, reduceIte, reduceEqDiff, reduceAdd, reduceLT, reduceLeDiff, reduceCtorEq, reduceMul, reducePow, W1, W1C, W1V, W5, hBE, hBN, Int.reduceBEq, Int.reduceBNe]; exact ⟨rfl, trivial⟩))
   | ((first | apply goGb_call (rnone_ok _) | apply goDGb_call (rnone_ok _) | apply goGb_call (rrightC_ok _) | apply goDGb_call (rrightC_ok _) | apply goGb_call (rhead_v _) | apply goDGb_call (rhead_v _) | apply goGb_call (rFormer_ok _) | apply goDGb_call (rFormer_ok _) | apply goGb_call (rkidsOf_ok _) | apply goDGb_call (rkidsOf_ok _)); (· intro hb; (try simp only [Bool.and_eq_true, Bool.not_eq_true', Bool.or_eq_false_iff, Bool.not_eq_false'] at hb); simp only [hb, AV.norm, AV.normL, W2, W2C, W2V, ↓upd_eq, ↓envL_cons, WZ, reduceIte, reduceEqDiff, reduceAdd, reduceLT, reduceLeDiff, reduceCtorEq, reduceMul, reducePow, W1, W1C, W1V, W5, hBE, hBN, Int.reduceBEq, Int.reduceBNe]; rfl))
   | (with_reducible first | apply bA | apply bB | apply bC | apply bD | apply bE | apply bF) <;> intro h <;> try simp only [h, ↓upd_eq, ↓envL_cons, WZ, reduceIte, reduceEqDiff, reduceAdd, reduceLT, reduceLeDiff, reduceCtorEq, reduceMul, reducePow, W1, W1C, W1V, W5, hBE, hBN, Int.reduceBEq, Int.reduceBNe]
   | ((first | refine goCall_norm ?_ | refine goDCall_norm ?_); simp only [AV.norm, AV.normL, W2, W2C, W2V, hBE, hBN, Int.reduceBEq, Int.reduceBNe]; first | refine goCall_p (rnone_ok _) (.inl rfl) ?_ | refine goCall_p (rrightC_ok _) (.inl rfl) ?_ | refine goCall_p (rhead_v _) (.inl rfl) ?_ | refine goCall_p (rFormer_ok _) (.inl rfl) ?_ | refine goCall_p (rkidsOf_ok _) (.inl rfl) ?_ | refine goDCall_p (rnone_ok _) (.inl rfl) ?_ | refine goDCall_p (rrightC_ok _) (.inl rfl) ?_ | refine goDCall_p (rhead_v _) (.inl rfl) ?_ | refine goDCall_p (rFormer_ok _) (.inl rfl) ?_ | refine goDCall_p (rkidsOf_ok _) (.inl rfl) ?_)
   | refine go_draw (id := 28) C_ok (fun _ => trivial) mixed 0 Try.f47.ntmps rfl (by kernel_rfl) (by decide) ?_
   | refine go_draw (id := 29) C_ok (fun _ => trivial) mixed 0 Try.f47.ntmps rfl (by kernel_rfl) (by decide) ?_
   | simp only [↓upd_eq, ↓envL_cons, WZ, reduceIte, reduceEqDiff, reduceAdd, reduceLT, reduceLeDiff, reduceCtorEq, reduceMul, reducePow, W1, W1C, W1V, W5, hBE, hBN, Int.reduceBEq, Int.reduceBNe]
  all_goals clear hBE hBN
  all_goals try simp only [ByteArray.toList_eq, nil_bneR, Bool.or_eq_true, Bool.and_eq_true, Bool.or_eq_false_iff, Bool.and_eq_false_iff, decide_eq_true_eq, decide_eq_false_iff_not, beq_iff_eq, beq_eq_false_iff_ne, ne_eq, bne_iff_ne, bne_eq_false_iff_eq] at *
  all_goals (rw [ownV, oneV, ha, hk]; simp_all [former, headV]; try first | omega | (intros; exfalso; simp_all [ByteArray.size] <;> omega))
theorem rown_5 (v : Vl) (hk : v.kind = 5) : PCalls Try.prog 47 [embV v] (.bool (ownV v)) := by
  have hBE : ∀ j : Int, (v.kind == j) = ((5 : Int) == j) := fun j => by rw [hk]
  have hBN : ∀ j : Int, (v.kind != j) = ((5 : Int) != j) := fun j => by rw [hk]
  have ha := around_ref v (by omega) (by omega)
  refine pcalls_text C_ok Try.func47 rfl (by decide) (Nat.le_of_ble_eq_true rfl) (by decide) rfl fun ok H => ?_
  rw [Try.results47]
  repeat' first
   | ((first | apply goGb_op (fun _ _ => rfl) | apply goDGb_op (fun _ _ => rfl)); (· intro hb; (try simp only [Bool.and_eq_true, Bool.not_eq_true', Bool.or_eq_false_iff, Bool.not_eq_false'] at hb); simp only [hb, ↓upd_eq, ↓envL_cons, WZ, reduceIte, reduceEqDiff, reduceAdd, reduceLT, reduceLeDiff, reduceCtorEq, reduceMul, reducePow, W1, W1C, W1V, W5, hBE, hBN, Int.reduceBEq, Int.reduceBNe]; exact ⟨rfl, trivial⟩))
   | ((first | apply goGb_call (rnone_ok _) | apply goDGb_call (rnone_ok _) | apply goGb_call (rrightC_ok _) | apply goDGb_call (rrightC_ok _) | apply goGb_call (rhead_v _) | apply goDGb_call (rhead_v _) | apply goGb_call (rFormer_ok _) | apply goDGb_call (rFormer_ok _) | apply goGb_call (rkidsOf_ok _) | apply goDGb_call (rkidsOf_ok _)); (· intro hb; (try simp only [Bool.and_eq_true, Bool.not_eq_true', Bool.or_eq_false_iff, Bool.not_eq_false'] at hb); simp only [hb, AV.norm, AV.normL, W2, W2C, W2V, ↓upd_eq, ↓envL_cons, WZ, reduceIte, reduceEqDiff, reduceAdd, reduceLT, reduceLeDiff, reduceCtorEq, reduceMul, reducePow, W1, W1C, W1V, W5, hBE, hBN, Int.reduceBEq, Int.reduceBNe]; rfl))
   | (with_reducible first | apply bA | apply bB | apply bC | apply bD | apply bE | apply bF) <;> intro h <;> try simp only [h, ↓upd_eq, ↓envL_cons, WZ, reduceIte, reduceEqDiff, reduceAdd, reduceLT, reduceLeDiff, reduceCtorEq, reduceMul, reducePow, W1, W1C, W1V, W5, hBE, hBN, Int.reduceBEq, Int.reduceBNe]
   | ((first | refine goCall_norm ?_ | refine goDCall_norm ?_); simp only [AV.norm, AV.normL, W2, W2C, W2V, hBE, hBN, Int.reduceBEq, Int.reduceBNe]; first | refine goCall_p (rnone_ok _) (.inl rfl) ?_ | refine goCall_p (rrightC_ok _) (.inl rfl) ?_ | refine goCall_p (rhead_v _) (.inl rfl) ?_ | refine goCall_p (rFormer_ok _) (.inl rfl) ?_ | refine goCall_p (rkidsOf_ok _) (.inl rfl) ?_ | refine goDCall_p (rnone_ok _) (.inl rfl) ?_ | refine goDCall_p (rrightC_ok _) (.inl rfl) ?_ | refine goDCall_p (rhead_v _) (.inl rfl) ?_ | refine goDCall_p (rFormer_ok _) (.inl rfl) ?_ | refine goDCall_p (rkidsOf_ok _) (.inl rfl) ?_)
   | refine go_draw (id := 28) C_ok (fun _ => trivial) mixed 0 Try.f47.ntmps rfl (by kernel_rfl) (by decide) ?_
   | refine go_draw (id := 29) C_ok (fun _ => trivial) mixed 0 Try.f47.ntmps rfl (by kernel_rfl) (by decide) ?_
   | simp only [↓upd_eq, ↓envL_cons, WZ, reduceIte, reduceEqDiff, reduceAdd, reduceLT, reduceLeDiff, reduceCtorEq, reduceMul, reducePow, W1, W1C, W1V, W5, hBE, hBN, Int.reduceBEq, Int.reduceBNe]
  all_goals clear hBE hBN
  all_goals try simp only [ByteArray.toList_eq, nil_bneR, Bool.or_eq_true, Bool.and_eq_true, Bool.or_eq_false_iff, Bool.and_eq_false_iff, decide_eq_true_eq, decide_eq_false_iff_not, beq_iff_eq, beq_eq_false_iff_ne, ne_eq, bne_iff_ne, bne_eq_false_iff_eq] at *
  all_goals (rw [ownV, oneV, ha, hk]; simp_all [former, headV]; try first | omega | (intros; exfalso; simp_all [ByteArray.size] <;> omega))
theorem rown_6 (v : Vl) (hk : v.kind = 6) : PCalls Try.prog 47 [embV v] (.bool (ownV v)) := by
  have hBE : ∀ j : Int, (v.kind == j) = ((6 : Int) == j) := fun j => by rw [hk]
  have hBN : ∀ j : Int, (v.kind != j) = ((6 : Int) != j) := fun j => by rw [hk]
  have ha := around_ref v (by omega) (by omega)
  refine pcalls_text C_ok Try.func47 rfl (by decide) (Nat.le_of_ble_eq_true rfl) (by decide) rfl fun ok H => ?_
  rw [Try.results47]
  repeat' first
   | ((first | apply goGb_op (fun _ _ => rfl) | apply goDGb_op (fun _ _ => rfl)); (· intro hb; (try simp only [Bool.and_eq_true, Bool.not_eq_true', Bool.or_eq_false_iff, Bool.not_eq_false'] at hb); simp only [hb, ↓upd_eq, ↓envL_cons, WZ, reduceIte, reduceEqDiff, reduceAdd, reduceLT, reduceLeDiff, reduceCtorEq, reduceMul, reducePow, W1, W1C, W1V, W5, hBE, hBN, Int.reduceBEq, Int.reduceBNe]; exact ⟨rfl, trivial⟩))
   | ((first | apply goGb_call (rnone_ok _) | apply goDGb_call (rnone_ok _) | apply goGb_call (rrightC_ok _) | apply goDGb_call (rrightC_ok _) | apply goGb_call (rhead_v _) | apply goDGb_call (rhead_v _) | apply goGb_call (rFormer_ok _) | apply goDGb_call (rFormer_ok _) | apply goGb_call (rkidsOf_ok _) | apply goDGb_call (rkidsOf_ok _)); (· intro hb; (try simp only [Bool.and_eq_true, Bool.not_eq_true', Bool.or_eq_false_iff, Bool.not_eq_false'] at hb); simp only [hb, AV.norm, AV.normL, W2, W2C, W2V, ↓upd_eq, ↓envL_cons, WZ, reduceIte, reduceEqDiff, reduceAdd, reduceLT, reduceLeDiff, reduceCtorEq, reduceMul, reducePow, W1, W1C, W1V, W5, hBE, hBN, Int.reduceBEq, Int.reduceBNe]; rfl))
   | (with_reducible first | apply bA | apply bB | apply bC | apply bD | apply bE | apply bF) <;> intro h <;> try simp only [h, ↓upd_eq, ↓envL_cons, WZ, reduceIte, reduceEqDiff, reduceAdd, reduceLT, reduceLeDiff, reduceCtorEq, reduceMul, reducePow, W1, W1C, W1V, W5, hBE, hBN, Int.reduceBEq, Int.reduceBNe]
   | ((first | refine goCall_norm ?_ | refine goDCall_norm ?_); simp only [AV.norm, AV.normL, W2, W2C, W2V, hBE, hBN, Int.reduceBEq, Int.reduceBNe]; first | refine goCall_p (rnone_ok _) (.inl rfl) ?_ | refine goCall_p (rrightC_ok _) (.inl rfl) ?_ | refine goCall_p (rhead_v _) (.inl rfl) ?_ | refine goCall_p (rFormer_ok _) (.inl rfl) ?_ | refine goCall_p (rkidsOf_ok _) (.inl rfl) ?_ | refine goDCall_p (rnone_ok _) (.inl rfl) ?_ | refine goDCall_p (rrightC_ok _) (.inl rfl) ?_ | refine goDCall_p (rhead_v _) (.inl rfl) ?_ | refine goDCall_p (rFormer_ok _) (.inl rfl) ?_ | refine goDCall_p (rkidsOf_ok _) (.inl rfl) ?_)
   | refine go_draw (id := 28) C_ok (fun _ => trivial) mixed 0 Try.f47.ntmps rfl (by kernel_rfl) (by decide) ?_
   | refine go_draw (id := 29) C_ok (fun _ => trivial) mixed 0 Try.f47.ntmps rfl (by kernel_rfl) (by decide) ?_
   | simp only [↓upd_eq, ↓envL_cons, WZ, reduceIte, reduceEqDiff, reduceAdd, reduceLT, reduceLeDiff, reduceCtorEq, reduceMul, reducePow, W1, W1C, W1V, W5, hBE, hBN, Int.reduceBEq, Int.reduceBNe]
  all_goals clear hBE hBN
  all_goals try simp only [ByteArray.toList_eq, nil_bneR, Bool.or_eq_true, Bool.and_eq_true, Bool.or_eq_false_iff, Bool.and_eq_false_iff, decide_eq_true_eq, decide_eq_false_iff_not, beq_iff_eq, beq_eq_false_iff_ne, ne_eq, bne_iff_ne, bne_eq_false_iff_eq] at *
  all_goals (rw [ownV, oneV, ha, hk]; simp_all [former, headV]; try first | omega | (intros; exfalso; simp_all [ByteArray.size] <;> omega))
theorem rown_8 (v : Vl) (hk : v.kind = 8) : PCalls Try.prog 47 [embV v] (.bool (ownV v)) := by
  have hBE : ∀ j : Int, (v.kind == j) = ((8 : Int) == j) := fun j => by rw [hk]
  have hBN : ∀ j : Int, (v.kind != j) = ((8 : Int) != j) := fun j => by rw [hk]
  have ha := around_ref v (by omega) (by omega)
  refine pcalls_text C_ok Try.func47 rfl (by decide) (Nat.le_of_ble_eq_true rfl) (by decide) rfl fun ok H => ?_
  rw [Try.results47]
  repeat' first
   | ((first | apply goGb_op (fun _ _ => rfl) | apply goDGb_op (fun _ _ => rfl)); (· intro hb; (try simp only [Bool.and_eq_true, Bool.not_eq_true', Bool.or_eq_false_iff, Bool.not_eq_false'] at hb); simp only [hb, ↓upd_eq, ↓envL_cons, WZ, reduceIte, reduceEqDiff, reduceAdd, reduceLT, reduceLeDiff, reduceCtorEq, reduceMul, reducePow, W1, W1C, W1V, W5, hBE, hBN, Int.reduceBEq, Int.reduceBNe]; exact ⟨rfl, trivial⟩))
   | ((first | apply goGb_call (rnone_ok _) | apply goDGb_call (rnone_ok _) | apply goGb_call (rrightC_ok _) | apply goDGb_call (rrightC_ok _) | apply goGb_call (rhead_v _) | apply goDGb_call (rhead_v _) | apply goGb_call (rFormer_ok _) | apply goDGb_call (rFormer_ok _) | apply goGb_call (rkidsOf_ok _) | apply goDGb_call (rkidsOf_ok _)); (· intro hb; (try simp only [Bool.and_eq_true, Bool.not_eq_true', Bool.or_eq_false_iff, Bool.not_eq_false'] at hb); simp only [hb, AV.norm, AV.normL, W2, W2C, W2V, ↓upd_eq, ↓envL_cons, WZ, reduceIte, reduceEqDiff, reduceAdd, reduceLT, reduceLeDiff, reduceCtorEq, reduceMul, reducePow, W1, W1C, W1V, W5, hBE, hBN, Int.reduceBEq, Int.reduceBNe]; rfl))
   | (with_reducible first | apply bA | apply bB | apply bC | apply bD | apply bE | apply bF) <;> intro h <;> try simp only [h, ↓upd_eq, ↓envL_cons, WZ, reduceIte, reduceEqDiff, reduceAdd, reduceLT, reduceLeDiff, reduceCtorEq, reduceMul, reducePow, W1, W1C, W1V, W5, hBE, hBN, Int.reduceBEq, Int.reduceBNe]
   | ((first | refine goCall_norm ?_ | refine goDCall_norm ?_); simp only [AV.norm, AV.normL, W2, W2C, W2V, hBE, hBN, Int.reduceBEq, Int.reduceBNe]; first | refine goCall_p (rnone_ok _) (.inl rfl) ?_ | refine goCall_p (rrightC_ok _) (.inl rfl) ?_ | refine goCall_p (rhead_v _) (.inl rfl) ?_ | refine goCall_p (rFormer_ok _) (.inl rfl) ?_ | refine goCall_p (rkidsOf_ok _) (.inl rfl) ?_ | refine goDCall_p (rnone_ok _) (.inl rfl) ?_ | refine goDCall_p (rrightC_ok _) (.inl rfl) ?_ | refine goDCall_p (rhead_v _) (.inl rfl) ?_ | refine goDCall_p (rFormer_ok _) (.inl rfl) ?_ | refine goDCall_p (rkidsOf_ok _) (.inl rfl) ?_)
   | refine go_draw (id := 28) C_ok (fun _ => trivial) mixed 0 Try.f47.ntmps rfl (by kernel_rfl) (by decide) ?_
   | refine go_draw (id := 29) C_ok (fun _ => trivial) mixed 0 Try.f47.ntmps rfl (by kernel_rfl) (by decide) ?_
   | simp only [↓upd_eq, ↓envL_cons, WZ, reduceIte, reduceEqDiff, reduceAdd, reduceLT, reduceLeDiff, reduceCtorEq, reduceMul, reducePow, W1, W1C, W1V, W5, hBE, hBN, Int.reduceBEq, Int.reduceBNe]
  all_goals clear hBE hBN
  all_goals try simp only [ByteArray.toList_eq, nil_bneR, Bool.or_eq_true, Bool.and_eq_true, Bool.or_eq_false_iff, Bool.and_eq_false_iff, decide_eq_true_eq, decide_eq_false_iff_not, beq_iff_eq, beq_eq_false_iff_ne, ne_eq, bne_iff_ne, bne_eq_false_iff_eq] at *
  all_goals (rw [ownV, oneV, ha, hk]; simp_all [former, headV]; try first | omega | (intros; exfalso; simp_all [ByteArray.size] <;> omega))
theorem rown_0 (v : Vl) (hk : ¬ (1 ≤ v.kind ∧ v.kind ≤ 8)) : PCalls Try.prog 47 [embV v] (.bool (ownV v)) := by
  have hBE : ∀ j : Int, 1 ≤ j → j ≤ 8 → (v.kind == j) = false := fun j h1 h2 => by simp; omega
  have e : ownV v = false := by
    have : oneV v = false := by
      simp only [oneV]
      rcases Classical.em (1 ≤ v.kind) with h | h
      · have : ¬ v.kind ≤ 8 := fun h' => hk ⟨h, h'⟩
        simp [this]
      · simp [h]
    simp [ownV, this]
  rw [e]
  refine pcalls_text C_ok Try.func47 rfl (by decide) (Nat.le_of_ble_eq_true rfl) (by decide) rfl fun ok H => ?_
  rw [Try.results47]
  have h := True.intro
  repeat' (first
   | (with_reducible first | apply bA | apply bB | apply bC | apply bD | apply bE | apply bF) <;> intro h
   | refine go_draw (id := 28) C_ok (fun _ => trivial) mixed 0 Try.f47.ntmps rfl (by kernel_rfl) (by decide) ?_
   | refine go_draw (id := 29) C_ok (fun _ => trivial) mixed 0 Try.f47.ntmps rfl (by kernel_rfl) (by decide) ?_
   | skip) <;> simp only [h, ↓upd_eq, ↓envL_cons, WZ, reduceIte, reduceEqDiff, reduceAdd, reduceLT, reduceLeDiff, reduceCtorEq, reduceMul, reducePow, W1, W1C, W1V, hBE 1 (by omega) (by omega), hBE 2 (by omega) (by omega), hBE 3 (by omega) (by omega), hBE 4 (by omega) (by omega), hBE 5 (by omega) (by omega), hBE 6 (by omega) (by omega), hBE 7 (by omega) (by omega), hBE 8 (by omega) (by omega)]
end Go.Proofs.Ytofogicgnldfhaa
end

section
/- Walks: the reference's own fields, joined. No condition. -/
set_option linter.unusedSimpArgs false
set_option linter.unusedVariables false
set_option maxHeartbeats 4000000
set_option maxRecDepth 100000
namespace Go.Proofs.Ytofogicgnldfhaa
open Go Go.Ab
open Nat (reduceEqDiff reduceAdd reduceLT reduceLeDiff reduceMul reducePow)
attribute [local irreducible] PCalls ACalls CallK GoCall GoDCall GoIf GoGb GoDGb GoO GoD GoX GoDX GoG GoDG GoGv GoDGv Go ALoop

theorem rown_3 (v : Vl) (hk : v.kind = 3) : PCalls Try.prog 47 [embV v] (.bool (ownV v)) := by
  have hBE : ∀ j : Int, (v.kind == j) = ((3 : Int) == j) := fun j => by rw [hk]
  have hBN : ∀ j : Int, (v.kind != j) = ((3 : Int) != j) := fun j => by rw [hk]
  have hz : v.str.data = #[] → v.str.size = 0 := fun h => by rw [ByteArray.size, h]; rfl
  have ha := around_ref v (by omega) (by omega)
  refine pcalls_text C_ok Try.func47 rfl (by decide) (Nat.le_of_ble_eq_true rfl) (by decide) rfl fun ok H => ?_
  rw [Try.results47]
  repeat' first
   | ((first | apply goGb_op (fun _ _ => rfl) | apply goDGb_op (fun _ _ => rfl)); (· intro hb; (try simp only [Bool.and_eq_true, Bool.not_eq_true', Bool.or_eq_false_iff, Bool.not_eq_false'] at hb); simp only [hb, ↓upd_eq, ↓envL_cons, WZ, reduceIte, reduceEqDiff, reduceAdd, reduceLT, reduceLeDiff, reduceCtorEq, reduceMul, reducePow, W1, W1C, W1V, W5, hBE, hBN, Int.reduceBEq, Int.reduceBNe]; exact ⟨rfl, trivial⟩))
   | ((first | apply goGb_call (rnone_ok _) | apply goDGb_call (rnone_ok _) | apply goGb_call (rrightC_ok _) | apply goDGb_call (rrightC_ok _) | apply goGb_call (rhead_v _) | apply goDGb_call (rhead_v _) | apply goGb_call (rFormer_ok _) | apply goDGb_call (rFormer_ok _) | apply goGb_call (rkidsOf_ok _) | apply goDGb_call (rkidsOf_ok _)); (· intro hb; (try simp only [Bool.and_eq_true, Bool.not_eq_true', Bool.or_eq_false_iff, Bool.not_eq_false'] at hb); simp only [hb, AV.norm, AV.normL, W2, W2C, W2V, ↓upd_eq, ↓envL_cons, WZ, reduceIte, reduceEqDiff, reduceAdd, reduceLT, reduceLeDiff, reduceCtorEq, reduceMul, reducePow, W1, W1C, W1V, W5, hBE, hBN, Int.reduceBEq, Int.reduceBNe]; rfl))
   | (with_reducible first | apply bA | apply bB | apply bC | apply bD | apply bE | apply bF) <;> intro h <;> try simp only [h, ↓upd_eq, ↓envL_cons, WZ, reduceIte, reduceEqDiff, reduceAdd, reduceLT, reduceLeDiff, reduceCtorEq, reduceMul, reducePow, W1, W1C, W1V, W5, hBE, hBN, Int.reduceBEq, Int.reduceBNe]
   | ((first | refine goCall_norm ?_ | refine goDCall_norm ?_); simp only [AV.norm, AV.normL, W2, W2C, W2V, hBE, hBN, Int.reduceBEq, Int.reduceBNe]; first | refine goCall_p (rnone_ok _) (.inl rfl) ?_ | refine goCall_p (rrightC_ok _) (.inl rfl) ?_ | refine goCall_p (rhead_v _) (.inl rfl) ?_ | refine goCall_p (rFormer_ok _) (.inl rfl) ?_ | refine goCall_p (rkidsOf_ok _) (.inl rfl) ?_ | refine goDCall_p (rnone_ok _) (.inl rfl) ?_ | refine goDCall_p (rrightC_ok _) (.inl rfl) ?_ | refine goDCall_p (rhead_v _) (.inl rfl) ?_ | refine goDCall_p (rFormer_ok _) (.inl rfl) ?_ | refine goDCall_p (rkidsOf_ok _) (.inl rfl) ?_)
   | refine go_draw (id := 28) C_ok (fun _ => trivial) mixed 0 Try.f47.ntmps rfl (by kernel_rfl) (by decide) ?_
   | refine go_draw (id := 29) C_ok (fun _ => trivial) mixed 0 Try.f47.ntmps rfl (by kernel_rfl) (by decide) ?_
   | simp only [↓upd_eq, ↓envL_cons, WZ, reduceIte, reduceEqDiff, reduceAdd, reduceLT, reduceLeDiff, reduceCtorEq, reduceMul, reducePow, W1, W1C, W1V, W5, hBE, hBN, Int.reduceBEq, Int.reduceBNe]
  all_goals clear hBE hBN
  all_goals try simp only [ByteArray.toList_eq, nil_bneR, Bool.or_eq_true, Bool.and_eq_true, Bool.or_eq_false_iff, Bool.and_eq_false_iff, decide_eq_true_eq, decide_eq_false_iff_not, beq_iff_eq, beq_eq_false_iff_ne, ne_eq, bne_iff_ne, bne_eq_false_iff_eq] at *
  all_goals (rw [ownV, oneV, ha, hk]; simp_all [former, headV]; try first | omega | (intros; exfalso; simp_all <;> omega))
theorem rown_7a (v : Vl) (hk : v.kind = 7) (hl : v.kids.length = 2) : PCalls Try.prog 47 [embV v] (.bool (ownV v)) := by
  have g1 : (v.kids.map embV).getD 1 .any = embV (v.kid 1) := mapV_kid (by omega)
  have c1 : ((1 : Int) < (2 : Nat)) = True := by simp
  have t1 : Int.toNat 1 = 1 := rfl
  have z1 : ((0 : Int) ≤ 1) = True := by simp
  have n2 : (((2 : Nat) : Int) != 2) = false := by decide
  have hBE : ∀ j : Int, (v.kind == j) = ((7 : Int) == j) := fun j => by rw [hk]
  have hBN : ∀ j : Int, (v.kind != j) = ((7 : Int) != j) := fun j => by rw [hk]
  have hz : v.str.data = #[] → v.str.size = 0 := fun h => by rw [ByteArray.size, h]; rfl
  have ha := around_ref v (by omega) (by omega)
  refine pcalls_text C_ok Try.func47 rfl (by decide) (Nat.le_of_ble_eq_true rfl) (by decide) rfl fun ok H => ?_
  rw [Try.results47]
  repeat' first
   | ((first | apply goGb_op (fun _ _ => rfl) | apply goDGb_op (fun _ _ => rfl)); (· intro hb; (try simp only [Bool.and_eq_true, Bool.not_eq_true', Bool.or_eq_false_iff, Bool.not_eq_false'] at hb); simp only [hb, ↓upd_eq, ↓envL_cons, WZ, reduceIte, reduceEqDiff, reduceAdd, reduceLT, reduceLeDiff, reduceCtorEq, reduceMul, reducePow, W1, W1C, W1V, W5, hBE, hBN, Int.reduceBEq, Int.reduceBNe, hl, g1, c1, t1, z1, n2, List.length_map]; exact ⟨rfl, trivial⟩))
   | ((first | apply goGb_call (rnone_ok _) | apply goDGb_call (rnone_ok _) | apply goGb_call (rrightC_ok _) | apply goDGb_call (rrightC_ok _) | apply goGb_call (rhead_v _) | apply goDGb_call (rhead_v _) | apply goGb_call (rFormer_ok _) | apply goDGb_call (rFormer_ok _) | apply goGb_call (rkidsOf_ok _) | apply goDGb_call (rkidsOf_ok _) | apply goGb_call (rlist_ok _) | apply goDGb_call (rlist_ok _)); (· intro hb; (try simp only [Bool.and_eq_true, Bool.not_eq_true', Bool.or_eq_false_iff, Bool.not_eq_false'] at hb); simp only [hb, AV.norm, AV.normL, W2, W2C, W2V, ↓upd_eq, ↓envL_cons, WZ, reduceIte, reduceEqDiff, reduceAdd, reduceLT, reduceLeDiff, reduceCtorEq, reduceMul, reducePow, W1, W1C, W1V, W5, hBE, hBN, Int.reduceBEq, Int.reduceBNe, hl, g1, c1, t1, z1, n2, List.length_map]; rfl))
   | (with_reducible first | apply bA | apply bB | apply bC | apply bD | apply bE | apply bF) <;> intro h <;> try simp only [h, ↓upd_eq, ↓envL_cons, WZ, reduceIte, reduceEqDiff, reduceAdd, reduceLT, reduceLeDiff, reduceCtorEq, reduceMul, reducePow, W1, W1C, W1V, W5, hBE, hBN, Int.reduceBEq, Int.reduceBNe, hl, g1, c1, t1, z1, n2, List.length_map]
   | ((first | refine goCall_norm ?_ | refine goDCall_norm ?_); simp only [AV.norm, AV.normL, W2, W2C, W2V, hBE, hBN, Int.reduceBEq, Int.reduceBNe, hl, g1, c1, t1, z1, n2, List.length_map]; first | refine goCall_p (rnone_ok _) (.inl rfl) ?_ | refine goCall_p (rrightC_ok _) (.inl rfl) ?_ | refine goCall_p (rhead_v _) (.inl rfl) ?_ | refine goCall_p (rFormer_ok _) (.inl rfl) ?_ | refine goCall_p (rkidsOf_ok _) (.inl rfl) ?_ | refine goCall_p (rlist_ok _) (.inl rfl) ?_ | refine goDCall_p (rnone_ok _) (.inl rfl) ?_ | refine goDCall_p (rrightC_ok _) (.inl rfl) ?_ | refine goDCall_p (rhead_v _) (.inl rfl) ?_ | refine goDCall_p (rFormer_ok _) (.inl rfl) ?_ | refine goDCall_p (rkidsOf_ok _) (.inl rfl) ?_ | refine goDCall_p (rlist_ok _) (.inl rfl) ?_)
   | refine go_draw (id := 28) C_ok (fun _ => trivial) mixed 0 Try.f47.ntmps rfl (by kernel_rfl) (by decide) ?_
   | refine go_draw (id := 29) C_ok (fun _ => trivial) mixed 0 Try.f47.ntmps rfl (by kernel_rfl) (by decide) ?_
   | simp only [↓upd_eq, ↓envL_cons, WZ, reduceIte, reduceEqDiff, reduceAdd, reduceLT, reduceLeDiff, reduceCtorEq, reduceMul, reducePow, W1, W1C, W1V, W5, hBE, hBN, Int.reduceBEq, Int.reduceBNe, hl, g1, c1, t1, z1, n2, List.length_map]
  all_goals clear hBE hBN
  all_goals try simp only [ByteArray.toList_eq, nil_bneR, Bool.or_eq_true, Bool.and_eq_true, Bool.or_eq_false_iff, Bool.and_eq_false_iff, decide_eq_true_eq, decide_eq_false_iff_not, beq_iff_eq, beq_eq_false_iff_ne, ne_eq, bne_iff_ne, bne_eq_false_iff_eq] at *
  all_goals (rw [ownV, oneV, ha, hk]; simp_all [former, headV]; try first | omega | (intros; exfalso; simp_all <;> omega))
  all_goals (intros; simp_all [restV])
  all_goals (try (intros; rcases h with h | h <;> simp_all))
  all_goals (try (by_cases h6 : (v.kid 1).kind = 6 <;> simp_all))
theorem rown_7b (v : Vl) (hk : v.kind = 7) (hl : v.kids.length ≠ 2) : PCalls Try.prog 47 [embV v] (.bool (ownV v)) := by
  have n2 : ((v.kids.length : Int) != 2) = true := by simp; omega
  have hBE : ∀ j : Int, (v.kind == j) = ((7 : Int) == j) := fun j => by rw [hk]
  have hBN : ∀ j : Int, (v.kind != j) = ((7 : Int) != j) := fun j => by rw [hk]
  have hz : v.str.data = #[] → v.str.size = 0 := fun h => by rw [ByteArray.size, h]; rfl
  have ha := around_ref v (by omega) (by omega)
  refine pcalls_text C_ok Try.func47 rfl (by decide) (Nat.le_of_ble_eq_true rfl) (by decide) rfl fun ok H => ?_
  rw [Try.results47]
  repeat' first
   | ((first | apply goGb_op (fun _ _ => rfl) | apply goDGb_op (fun _ _ => rfl)); (· intro hb; (try simp only [Bool.and_eq_true, Bool.not_eq_true', Bool.or_eq_false_iff, Bool.not_eq_false'] at hb); simp only [hb, ↓upd_eq, ↓envL_cons, WZ, reduceIte, reduceEqDiff, reduceAdd, reduceLT, reduceLeDiff, reduceCtorEq, reduceMul, reducePow, W1, W1C, W1V, W5, hBE, hBN, Int.reduceBEq, Int.reduceBNe, n2]; exact ⟨rfl, trivial⟩))
   | ((first | apply goGb_call (rnone_ok _) | apply goDGb_call (rnone_ok _) | apply goGb_call (rrightC_ok _) | apply goDGb_call (rrightC_ok _) | apply goGb_call (rhead_v _) | apply goDGb_call (rhead_v _) | apply goGb_call (rFormer_ok _) | apply goDGb_call (rFormer_ok _) | apply goGb_call (rkidsOf_ok _) | apply goDGb_call (rkidsOf_ok _)); (· intro hb; (try simp only [Bool.and_eq_true, Bool.not_eq_true', Bool.or_eq_false_iff, Bool.not_eq_false'] at hb); simp only [hb, AV.norm, AV.normL, W2, W2C, W2V, ↓upd_eq, ↓envL_cons, WZ, reduceIte, reduceEqDiff, reduceAdd, reduceLT, reduceLeDiff, reduceCtorEq, reduceMul, reducePow, W1, W1C, W1V, W5, hBE, hBN, Int.reduceBEq, Int.reduceBNe, n2]; rfl))
   | (with_reducible first | apply bA | apply bB | apply bC | apply bD | apply bE | apply bF) <;> intro h <;> try simp only [h, ↓upd_eq, ↓envL_cons, WZ, reduceIte, reduceEqDiff, reduceAdd, reduceLT, reduceLeDiff, reduceCtorEq, reduceMul, reducePow, W1, W1C, W1V, W5, hBE, hBN, Int.reduceBEq, Int.reduceBNe, n2]
   | ((first | refine goCall_norm ?_ | refine goDCall_norm ?_); simp only [AV.norm, AV.normL, W2, W2C, W2V, hBE, hBN, Int.reduceBEq, Int.reduceBNe, n2]; first | refine goCall_p (rnone_ok _) (.inl rfl) ?_ | refine goCall_p (rrightC_ok _) (.inl rfl) ?_ | refine goCall_p (rhead_v _) (.inl rfl) ?_ | refine goCall_p (rFormer_ok _) (.inl rfl) ?_ | refine goCall_p (rkidsOf_ok _) (.inl rfl) ?_ | refine goDCall_p (rnone_ok _) (.inl rfl) ?_ | refine goDCall_p (rrightC_ok _) (.inl rfl) ?_ | refine goDCall_p (rhead_v _) (.inl rfl) ?_ | refine goDCall_p (rFormer_ok _) (.inl rfl) ?_ | refine goDCall_p (rkidsOf_ok _) (.inl rfl) ?_)
   | refine go_draw (id := 28) C_ok (fun _ => trivial) mixed 0 Try.f47.ntmps rfl (by kernel_rfl) (by decide) ?_
   | refine go_draw (id := 29) C_ok (fun _ => trivial) mixed 0 Try.f47.ntmps rfl (by kernel_rfl) (by decide) ?_
   | simp only [↓upd_eq, ↓envL_cons, WZ, reduceIte, reduceEqDiff, reduceAdd, reduceLT, reduceLeDiff, reduceCtorEq, reduceMul, reducePow, W1, W1C, W1V, W5, hBE, hBN, Int.reduceBEq, Int.reduceBNe, n2]
  all_goals clear hBE hBN
  all_goals try simp only [ByteArray.toList_eq, nil_bneR, Bool.or_eq_true, Bool.and_eq_true, Bool.or_eq_false_iff, Bool.and_eq_false_iff, decide_eq_true_eq, decide_eq_false_iff_not, beq_iff_eq, beq_eq_false_iff_ne, ne_eq, bne_iff_ne, bne_eq_false_iff_eq] at *
  all_goals (rw [ownV, oneV, ha, hk]; simp_all [former, headV]; try first | omega | (intros; exfalso; simp_all <;> omega))
theorem rown_ok (v : Vl) : PCalls Try.prog 47 [embV v] (.bool (ownV v)) := by
  by_cases h : 1 ≤ v.kind ∧ v.kind ≤ 8
  · by_cases h7 : v.kind = 7
    · by_cases hl : v.kids.length = 2
      · exact rown_7a v h7 hl
      · exact rown_7b v h7 hl
    · have : v.kind = 1 ∨ v.kind = 2 ∨ v.kind = 3 ∨ v.kind = 4 ∨ v.kind = 5 ∨ v.kind = 6 ∨ v.kind = 8 := by omega
      rcases this with h | h | h | h | h | h | h
      · exact rown_1 v h
      · exact rown_2 v h
      · exact rown_3 v h
      · exact rown_4 v h
      · exact rown_5 v h
      · exact rown_6 v h
      · exact rown_8 v h
  · exact rown_0 v h

end Go.Proofs.Ytofogicgnldfhaa
end

section
/- Walks: the reference's right values, told ones, the same; of a type. No condition. -/
set_option linter.unusedSimpArgs false
set_option linter.unusedVariables false
set_option maxHeartbeats 4000000
set_option maxRecDepth 100000
namespace Go.Proofs.Ytofogicgnldfhaa
open Go Go.Ab
open Nat (reduceEqDiff reduceAdd reduceLT reduceLeDiff reduceMul reducePow)
attribute [local irreducible] PCalls ACalls CallK GoCall GoDCall GoIf GoGb GoDGb GoO GoD GoX GoDX GoG GoDG GoGv GoDGv Go ALoop

theorem rrightV_step (v : Vl) (ih : ∀ x ∈ v.kids, PCalls Try.prog 12 [embV x] (.bool (rightV x))) : PCalls Try.prog 12 [embV v] (.bool (rightV v)) := by
  have q1 := rown_ok v
  have hfalse : ∀ i, i < v.kids.length → rightV (v.kid i) = false → rightV v = false := fun i h1 h2 => by rw [rightV_eq, allN_false h1 h2]; simp
  cases h1 : ownV v with
  | false =>
    rw [h1] at q1
    have : rightV v = false := by rw [rightV_eq, h1]; rfl
    rw [this]
    refine pcalls_text C_ok Try.func12 rfl (by decide) (Nat.le_of_ble_eq_true rfl) (by decide) rfl fun ok H => ?_
    rw [Try.results12]
    have h := True.intro
    repeat' (first
     | (with_reducible first | refine bA ?_ ?_ | refine bB ?_ ?_ | refine bC ?_ ?_ | refine bD ?_ ?_ | refine bE ?_ ?_ | refine bF ?_ ?_) <;> intro h
     | ((first | refine goCall_norm ?_ | refine goDCall_norm ?_); simp only [AV.norm, AV.normL, W2, W2C, W2V]; first | refine goCall_p (q1) (.inl rfl) ?_ | refine goDCall_p (q1) (.inl rfl) ?_)
     | skip) <;> simp only [h, ↓upd_eq, ↓envL_cons, WZ, reduceIte, reduceEqDiff, reduceAdd, reduceLT, reduceLeDiff, reduceCtorEq, reduceMul, reducePow, W1, W1C, W1V]
  | true =>
    rw [h1] at q1
    have htrue : (∀ i, i < v.kids.length → rightV (v.kid i) = true) → rightV v = true := fun h => by rw [rightV_eq, allN_true h, h1]; rfl
    refine pcalls_text C_ok Try.func12 rfl (by decide) (Nat.le_of_ble_eq_true rfl) (by decide) rfl fun ok H => ?_
    rw [Try.results12]
    have hmax : v.kids.length ≤ maxLen := (embV_okay ok.1).1
    have h := True.intro
    repeat' (first
     | (with_reducible first | refine bA ?_ ?_ | refine bB ?_ ?_ | refine bC ?_ ?_ | refine bD ?_ ?_ | refine bE ?_ ?_ | refine bF ?_ ?_) <;> intro h
     | ((first | refine goCall_norm ?_ | refine goDCall_norm ?_); simp only [AV.norm, AV.normL, W2, W2C, W2V]; first | refine goCall_p (q1) (.inl rfl) ?_ | refine goDCall_p (q1) (.inl rfl) ?_)
     | skip) <;> simp only [h, ↓upd_eq, ↓envL_cons, WZ, reduceIte, reduceEqDiff, reduceAdd, reduceLT, reduceLeDiff, reduceCtorEq, reduceMul, reducePow, W1, W1C, W1V]
    refine aloop_trim [3, 1] ?_
    simp only [List.map_cons, List.map_nil, ↓upd_eq, ↓envL_cons, WZ, reduceIte, reduceEqDiff, reduceAdd, reduceLT, reduceLeDiff, reduceCtorEq, reduceMul, reducePow, W1, W1C, W1V]
    refine goLoopS 1 (fun i : Nat => [(3, .int .i64 i)]) (fun _ => _) (fun i => i ≤ v.kids.length ∧ ∀ j, j < i → (fun j => rightV (v.kid j)) j = true) (fun i => v.kids.length - i) C_ok 0 rfl rfl ⟨Nat.zero_le _, by simp⟩ (by decide) ?_
    rintro i ⟨hi, hall⟩
    simp only [List.drop_succ_cons, List.drop_zero, List.cons_append, List.nil_append]
    simp only [↓upd_eq, ↓envL_cons, WZ, reduceIte, reduceEqDiff, reduceAdd, reduceLT, reduceLeDiff, reduceCtorEq, reduceMul, reducePow, W1, W1C, W1V]
    refine goIf_d (fun hlt => ?_) (fun hlt => ?_)
    · have h := True.intro
      repeat' (first
       | (with_reducible first | refine bA ?_ ?_ | refine bB ?_ ?_ | refine bC ?_ ?_ | refine bD ?_ ?_ | refine bE ?_ ?_ | refine bF ?_ ?_) <;> intro h
       | ((first | refine goCall_norm ?_ | refine goDCall_norm ?_); simp only [AV.norm, AV.normL, W2, W2C, W2V, hlt, mapV_kid hlt]; first | refine goCall_p (ih _ (vlkid_mem hlt)) (.inl rfl) ?_ | refine goDCall_p (ih _ (vlkid_mem hlt)) (.inl rfl) ?_)
       | skip) <;> simp only [h, ↓upd_eq, ↓envL_cons, WZ, reduceIte, reduceEqDiff, reduceAdd, reduceLT, reduceLeDiff, reduceCtorEq, reduceMul, reducePow, W1, W1C, W1V, hlt, mapV_kid hlt]
      all_goals first
        | exact (hfalse i hlt (by first | assumption | simp only [*])).symm
        | (refine ⟨i + 1, ⟨by omega, fun j hj => ?_⟩, by omega, weak_drop rfl rfl rfl rfl ?_ ?_ ?_⟩
           · rcases Nat.lt_succ_iff_lt_or_eq.1 hj with hj | rfl
             · exact hall j hj
             · first | assumption | simp only [*]
           all_goals simp only [List.forall_mem_cons, mem_nil_all, frz_app, ↓upd_eq, ↓envL_cons, Nat.reduceEqDiff, if_true, if_false, reduceIte, true_and, and_true, and_self, true_or, or_true, implies_true, List.not_mem_nil, false_implies, AV.bel, AV.belL, AObj.bel, AV.norm, AV.normL, Bool.and_true, Bool.true_and, decide_true, decide_eq_true_eq, List.length_cons, List.length_nil, Nat.zero_add, Nat.reduceAdd, Nat.lt_add_one, Nat.lt_add_right_iff_pos, Nat.zero_lt_succ, Nat.zero_lt_one, Nat.reduceLT, List.take_succ_cons, List.take_zero, wrap_succ hlt hmax, map_bel, mapC_bel, mapV_bel, AV.belL, List.length_map])
    · simp only [↓upd_eq, ↓envL_cons, WZ, reduceIte, reduceEqDiff, reduceAdd, reduceLT, reduceLeDiff, reduceCtorEq, reduceMul, reducePow, W1, W1C, W1V]
      exact (htrue fun j hj => hall j (by omega)).symm
theorem rrightV_ok (v : Vl) : PCalls Try.prog 12 [embV v] (.bool (rightV v)) := Vl.ind rrightV_step v
theorem rsameV_step (a b : Vl) (ih : ∀ x ∈ a.kids, ∀ y, PCalls Try.prog 19 [embV x, embV y] (.bool (sameV x y))) : PCalls Try.prog 19 [embV a, embV b] (.bool (sameV a b)) := by
  have hfalse : ∀ i, i < a.kids.length → sameV (a.kid i) (b.kid i) = false → sameV a b = false := fun i h1 h2 => by rw [sameV_eq, allN_false h1 h2]; simp
  have q1 := rsameC_ok a.co b.co
  by_cases h1 : sameN a b = true
  · by_cases hlen : a.kids.length = b.kids.length
    · have htrue : (∀ i, i < a.kids.length → sameV (a.kid i) (b.kid i) = true) → sameV a b = true := fun h => by rw [sameV_eq, allN_true h, h1]; simp [hlen]
      simp only [sameN, Bool.and_eq_true, decide_eq_true_eq] at h1
      obtain ⟨⟨⟨e1, e2⟩, e3⟩, e4⟩ := h1
      have b1 : (a.kind != b.kind) = false := by simp [e1]
      have b2 : (a.num != b.num) = false := by simp [e2]
      have b3 : (a.str.toList == b.str.toList) = true := by simp [ByteArray.toList_eq, e3]
      have b5 : ((a.kids.length : Int) != (b.kids.length : Int)) = false := by simp [hlen]
      rw [e4] at q1
      refine pcalls_text C_ok Try.func19 rfl (by decide) (Nat.le_of_ble_eq_true rfl) (by decide) rfl fun ok H => ?_
      rw [Try.results19]
      have hmax : a.kids.length ≤ maxLen := (embV_okay ok.1).1
      have h := True.intro
      repeat' (first
       | (with_reducible first | refine bA ?_ ?_ | refine bB ?_ ?_ | refine bC ?_ ?_ | refine bD ?_ ?_ | refine bE ?_ ?_ | refine bF ?_ ?_) <;> intro h
       | ((first | refine goCall_norm ?_ | refine goDCall_norm ?_); simp only [AV.norm, AV.normL, W2, W2C, W2V, b1, b2, b3, b5]; first | refine goCall_p (q1) (.inl rfl) ?_ | refine goDCall_p (q1) (.inl rfl) ?_)
       | refine go_draw (id := 6) C_ok (fun _ => trivial) mixed 0 Try.f19.ntmps rfl (by kernel_rfl) (by decide) ?_
       | skip) <;> simp only [h, ↓upd_eq, ↓envL_cons, WZ, reduceIte, reduceEqDiff, reduceAdd, reduceLT, reduceLeDiff, reduceCtorEq, reduceMul, reducePow, W1, W1C, W1V, b1, b2, b3, b5]
      refine aloop_trim [5, 2, 3] ?_
      simp only [List.map_cons, List.map_nil, ↓upd_eq, ↓envL_cons, WZ, reduceIte, reduceEqDiff, reduceAdd, reduceLT, reduceLeDiff, reduceCtorEq, reduceMul, reducePow, W1, W1C, W1V]
      refine goLoopS 1 (fun i : Nat => [(5, .int .i64 i)]) (fun _ => _) (fun i => i ≤ a.kids.length ∧ ∀ j, j < i → (fun j => sameV (a.kid j) (b.kid j)) j = true) (fun i => a.kids.length - i) C_ok 0 rfl rfl ⟨Nat.zero_le _, by simp⟩ (by decide) ?_
      rintro i ⟨hi, hall⟩
      simp only [List.drop_succ_cons, List.drop_zero, List.cons_append, List.nil_append]
      simp only [↓upd_eq, ↓envL_cons, WZ, reduceIte, reduceEqDiff, reduceAdd, reduceLT, reduceLeDiff, reduceCtorEq, reduceMul, reducePow, W1, W1C, W1V]
      refine goIf_d (fun hlt => ?_) (fun hlt => ?_)
      · have h := True.intro
        repeat' (first
         | (with_reducible first | refine bA ?_ ?_ | refine bB ?_ ?_ | refine bC ?_ ?_ | refine bD ?_ ?_ | refine bE ?_ ?_ | refine bF ?_ ?_) <;> intro h
         | ((first | refine goCall_norm ?_ | refine goDCall_norm ?_); simp only [AV.norm, AV.normL, W2, W2C, W2V, hlt, mapV_kid hlt, mapV_kid (v := b) (hlen ▸ hlt), hlen ▸ hlt]; first | refine goCall_p (ih _ (vlkid_mem hlt) _) (.inl rfl) ?_ | refine goDCall_p (ih _ (vlkid_mem hlt) _) (.inl rfl) ?_)
         | refine go_draw (id := 6) C_ok (fun _ => trivial) mixed 0 Try.f19.ntmps rfl (by kernel_rfl) (by decide) ?_
         | skip) <;> simp only [h, ↓upd_eq, ↓envL_cons, WZ, reduceIte, reduceEqDiff, reduceAdd, reduceLT, reduceLeDiff, reduceCtorEq, reduceMul, reducePow, W1, W1C, W1V, hlt, mapV_kid hlt, mapV_kid (v := b) (hlen ▸ hlt), hlen ▸ hlt]
        all_goals first
          | exact (hfalse i hlt (by first | assumption | simp only [*])).symm
          | (refine ⟨i + 1, ⟨by omega, fun j hj => ?_⟩, by omega, weak_drop rfl rfl rfl rfl ?_ ?_ ?_⟩
             · rcases Nat.lt_succ_iff_lt_or_eq.1 hj with hj | rfl
               · exact hall j hj
               · first | assumption | simp only [*]
             all_goals simp only [List.forall_mem_cons, mem_nil_all, frz_app, ↓upd_eq, ↓envL_cons, Nat.reduceEqDiff, if_true, if_false, reduceIte, true_and, and_true, and_self, true_or, or_true, implies_true, List.not_mem_nil, false_implies, AV.bel, AV.belL, AObj.bel, AV.norm, AV.normL, Bool.and_true, Bool.true_and, decide_true, decide_eq_true_eq, List.length_cons, List.length_nil, Nat.zero_add, Nat.reduceAdd, Nat.lt_add_one, Nat.lt_add_right_iff_pos, Nat.zero_lt_succ, Nat.zero_lt_one, Nat.reduceLT, List.take_succ_cons, List.take_zero, wrap_succ hlt hmax, map_bel, mapC_bel, mapV_bel, AV.belL, List.length_map])
      · simp only [↓upd_eq, ↓envL_cons, WZ, reduceIte, reduceEqDiff, reduceAdd, reduceLT, reduceLeDiff, reduceCtorEq, reduceMul, reducePow, W1, W1C, W1V]
        exact (htrue fun j hj => hall j (by omega)).symm
    · have hs : sameV a b = false := by rw [sameV_eq]; simp [hlen]
      have b5 : ((a.kids.length : Int) != (b.kids.length : Int)) = true := by simp; omega
      rw [hs]
      refine pcalls_text C_ok Try.func19 rfl (by decide) (Nat.le_of_ble_eq_true rfl) (by decide) rfl fun ok H => ?_
      rw [Try.results19]
      repeat' first
       | (apply goGb_op (fun _ _ => rfl); (· intro hb; (try simp only [Bool.and_eq_true, Bool.not_eq_true', Bool.or_eq_false_iff, Bool.not_eq_false'] at hb); simp only [hb, ↓upd_eq, ↓envL_cons, WZ, reduceIte, reduceEqDiff, reduceAdd, reduceLT, reduceLeDiff, reduceCtorEq, reduceMul, reducePow, W1, W1C, W1V, W5, b5]; exact ⟨rfl, trivial⟩))
       | (apply goGb_call (q1); (· intro hb; (try simp only [Bool.and_eq_true, Bool.not_eq_true', Bool.or_eq_false_iff, Bool.not_eq_false'] at hb); simp only [hb, AV.norm, AV.normL, W2, W2C, W2V, ↓upd_eq, ↓envL_cons, WZ, reduceIte, reduceEqDiff, reduceAdd, reduceLT, reduceLeDiff, reduceCtorEq, reduceMul, reducePow, W1, W1C, W1V, W5, b5]; rfl))
       | (apply goDGb_op (fun _ _ => rfl); (· intro hb; (try simp only [Bool.and_eq_true, Bool.not_eq_true', Bool.or_eq_false_iff, Bool.not_eq_false'] at hb); simp only [hb, ↓upd_eq, ↓envL_cons, WZ, reduceIte, reduceEqDiff, reduceAdd, reduceLT, reduceLeDiff, reduceCtorEq, reduceMul, reducePow, W1, W1C, W1V, W5, b5]; exact ⟨rfl, trivial⟩))
       | (apply goDGb_call (q1); (· intro hb; (try simp only [Bool.and_eq_true, Bool.not_eq_true', Bool.or_eq_false_iff, Bool.not_eq_false'] at hb); simp only [hb, AV.norm, AV.normL, W2, W2C, W2V, ↓upd_eq, ↓envL_cons, WZ, reduceIte, reduceEqDiff, reduceAdd, reduceLT, reduceLeDiff, reduceCtorEq, reduceMul, reducePow, W1, W1C, W1V, W5, b5]; rfl))
       | (with_reducible first | refine bA ?_ ?_ | refine bB ?_ ?_ | refine bC ?_ ?_ | refine bD ?_ ?_ | refine bE ?_ ?_ | refine bF ?_ ?_) <;> intro h <;> try simp only [h, ↓upd_eq, ↓envL_cons, WZ, reduceIte, reduceEqDiff, reduceAdd, reduceLT, reduceLeDiff, reduceCtorEq, reduceMul, reducePow, W1, W1C, W1V, W5, b5]
       | ((first | refine goCall_norm ?_ | refine goDCall_norm ?_); simp only [AV.norm, AV.normL, W2, W2C, W2V, b5]; first | refine goCall_p (q1) (.inl rfl) ?_ | refine goDCall_p (q1) (.inl rfl) ?_)
       | refine go_draw (id := 6) C_ok (fun _ => trivial) mixed 0 Try.f19.ntmps rfl (by kernel_rfl) (by decide) ?_
       | simp only [↓upd_eq, ↓envL_cons, WZ, reduceIte, reduceEqDiff, reduceAdd, reduceLT, reduceLeDiff, reduceCtorEq, reduceMul, reducePow, W1, W1C, W1V, W5, b5]
      all_goals first | rfl | (exfalso; simp_all; done) | trace_state
  · have hs : sameV a b = false := by rw [sameV_eq]; simp [h1]
    rw [hs]
    have hx : ((((a.kind != b.kind) || (a.num != b.num)) || !(a.str.toList == b.str.toList)) || !(sameC a.co b.co)) = true := by
      rw [Bool.not_eq_true] at h1
      simp only [ByteArray.toList_eq]
      cases h2 : sameC a.co b.co <;> rcases Classical.em (a.kind = b.kind) with e1 | e1 <;> rcases Classical.em (a.num = b.num) with e2 | e2 <;> rcases Classical.em (a.str.data.toList = b.str.data.toList) with e3 | e3 <;> simp_all [sameN]
    refine pcalls_text C_ok Try.func19 rfl (by decide) (Nat.le_of_ble_eq_true rfl) (by decide) rfl fun ok H => ?_
    rw [Try.results19]
    repeat' first
     | (apply goGb_op (fun _ _ => rfl); (· intro hb; (try simp only [Bool.and_eq_true, Bool.not_eq_true', Bool.or_eq_false_iff, Bool.not_eq_false'] at hb); simp only [hb, ↓upd_eq, ↓envL_cons, WZ, reduceIte, reduceEqDiff, reduceAdd, reduceLT, reduceLeDiff, reduceCtorEq, reduceMul, reducePow, W1, W1C, W1V, W5]; exact ⟨rfl, trivial⟩))
     | (apply goGb_call (q1); (· intro hb; (try simp only [Bool.and_eq_true, Bool.not_eq_true', Bool.or_eq_false_iff, Bool.not_eq_false'] at hb); simp only [hb, AV.norm, AV.normL, W2, W2C, W2V, ↓upd_eq, ↓envL_cons, WZ, reduceIte, reduceEqDiff, reduceAdd, reduceLT, reduceLeDiff, reduceCtorEq, reduceMul, reducePow, W1, W1C, W1V, W5]; rfl))
     | (apply goDGb_op (fun _ _ => rfl); (· intro hb; (try simp only [Bool.and_eq_true, Bool.not_eq_true', Bool.or_eq_false_iff, Bool.not_eq_false'] at hb); simp only [hb, ↓upd_eq, ↓envL_cons, WZ, reduceIte, reduceEqDiff, reduceAdd, reduceLT, reduceLeDiff, reduceCtorEq, reduceMul, reducePow, W1, W1C, W1V, W5]; exact ⟨rfl, trivial⟩))
     | (apply goDGb_call (q1); (· intro hb; (try simp only [Bool.and_eq_true, Bool.not_eq_true', Bool.or_eq_false_iff, Bool.not_eq_false'] at hb); simp only [hb, AV.norm, AV.normL, W2, W2C, W2V, ↓upd_eq, ↓envL_cons, WZ, reduceIte, reduceEqDiff, reduceAdd, reduceLT, reduceLeDiff, reduceCtorEq, reduceMul, reducePow, W1, W1C, W1V, W5]; rfl))
     | (with_reducible first | refine bA ?_ ?_ | refine bB ?_ ?_ | refine bC ?_ ?_ | refine bD ?_ ?_ | refine bE ?_ ?_ | refine bF ?_ ?_) <;> intro h <;> try simp only [h, ↓upd_eq, ↓envL_cons, WZ, reduceIte, reduceEqDiff, reduceAdd, reduceLT, reduceLeDiff, reduceCtorEq, reduceMul, reducePow, W1, W1C, W1V, W5]
     | ((first | refine goCall_norm ?_ | refine goDCall_norm ?_); simp only [AV.norm, AV.normL, W2, W2C, W2V]; first | refine goCall_p (q1) (.inl rfl) ?_ | refine goDCall_p (q1) (.inl rfl) ?_)
     | refine go_draw (id := 6) C_ok (fun _ => trivial) mixed 0 Try.f19.ntmps rfl (by kernel_rfl) (by decide) ?_
     | simp only [↓upd_eq, ↓envL_cons, WZ, reduceIte, reduceEqDiff, reduceAdd, reduceLT, reduceLeDiff, reduceCtorEq, reduceMul, reducePow, W1, W1C, W1V, W5]
    all_goals first | rfl | (exfalso; rw [hx] at h; cases h) | (exfalso; simp_all; done) | trace_state
theorem rsameV_ok (a b : Vl) : PCalls Try.prog 19 [embV a, embV b] (.bool (sameV a b)) :=
  Vl.ind (p := fun a => ∀ b, PCalls Try.prog 19 [embV a, embV b] (.bool (sameV a b))) (fun a ih b => rsameV_step a b ih) a b

end Go.Proofs.Ytofogicgnldfhaa
end

