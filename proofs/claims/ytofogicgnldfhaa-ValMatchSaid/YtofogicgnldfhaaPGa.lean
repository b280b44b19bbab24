/- Lemmas: the functions of coercions, first part. No condition. -/
import Derived.Test.YtofogicgnldfhaaPMa
import Derived.Test.YtofogicgnldfhaaPFa
import Derived.Test.YtofogicgnldfhaaPAb

section
/- Walks: package coer, and the reference's: the same, how great, how high, heavy. No condition. -/
set_option linter.unusedSimpArgs false
set_option linter.unusedVariables false
set_option maxHeartbeats 4000000
set_option maxRecDepth 100000
namespace Go.Proofs.Ytofogicgnldfhaa
open Go Go.Ab
open Nat (reduceEqDiff reduceAdd reduceLT reduceLeDiff reduceMul reducePow)
attribute [local irreducible] PCalls ACalls CallK GoCall GoDCall GoIf GoGb GoDGb GoO GoD GoX GoDX GoG GoDG GoGv GoDGv Go ALoop

theorem coEq_step (l l' : List Co) (hl : l.length ≤ maxLen) (ih : ∀ x ∈ l, ∀ y, PCalls Try.prog 52 [embC x, embC y] (.bool (sameC x y))) :
    PCalls Try.prog 87 [.sl (l.map embC) .no, .sl (l'.map embC) .no, .fn 52] (.bool (sameCL l l')) := by
  by_cases hlen : l.length = l'.length
  · have hne : ((l.length : Int) != (l'.length : Int)) = false := by simp [hlen]
    have hmax : l.length ≤ maxLen := hl
    have hfalse : ∀ i, i < l.length → sameC (l.getD i default) (l'.getD i default) = false → sameCL l l' = false := fun i h1 h2 => by rw [sameCL_all, allN_false h1 h2]; simp
    have htrue : (∀ i, i < l.length → sameC (l.getD i default) (l'.getD i default) = true) → sameCL l l' = true := fun h => by rw [sameCL_all, allN_true h]; simp [hlen]
    have hm : ∀ {i}, i < l.length → l.getD i default ∈ l := fun {i} h => by simp [h]
    refine pcalls_text C_ok Try.func87 rfl (by decide) (Nat.le_of_ble_eq_true rfl) (by decide) rfl fun ok H => ?_
    rw [Try.results87]
    have h := True.intro
    repeat' (first
     | (with_reducible first | apply bA | apply bB | apply bC | apply bD | apply bE | apply bF) <;> intro h
     | skip) <;> simp only [h, ↓upd_eq, ↓envL_cons, WZ, reduceIte, reduceEqDiff, reduceAdd, reduceLT, reduceLeDiff, reduceCtorEq, reduceMul, reducePow, W1, W1C, hne, List.length_map]
    refine aloop_trim [17, 1, 2, 15, 16] ?_
    simp only [List.map_cons, List.map_nil, ↓upd_eq, ↓envL_cons, WZ, reduceIte, reduceEqDiff, reduceAdd, reduceLT, reduceLeDiff, reduceCtorEq, reduceMul, reducePow, W1, W1C]
    refine goLoopS 1 (fun i : Nat => [(17, .int .i64 i)]) (fun _ => _) (fun i => i ≤ l.length ∧ ∀ j, j < i → (fun j => sameC (l.getD j default) (l'.getD j default)) j = true) (fun i => l.length - i) C_ok 0 rfl rfl ⟨Nat.zero_le _, by simp⟩ (by decide) ?_
    rintro i ⟨hi, hall⟩
    simp only [List.drop_succ_cons, List.drop_zero, List.cons_append, List.nil_append]
    simp only [↓upd_eq, ↓envL_cons, WZ, reduceIte, reduceEqDiff, reduceAdd, reduceLT, reduceLeDiff, reduceCtorEq, reduceMul, reducePow, W1, W1C]
    refine goIf_d (fun hlt => ?_) (fun hlt => ?_)
    · have h := True.intro
      repeat' (first
       | (with_reducible first | apply bA | apply bB | apply bC | apply bD | apply bE | apply bF) <;> intro h
       | ((first | refine goCall_norm ?_ | refine goDCall_norm ?_); simp only [AV.norm, AV.normL, W2, W2C, hlt, mapC_get hlt, mapC_get (l := l') (hlen ▸ hlt), hlen ▸ hlt]; first | refine goCall_p (ih _ (hm hlt) _) (.inl rfl) ?_ | refine goDCall_p (ih _ (hm hlt) _) (.inl rfl) ?_)
       | skip) <;> simp only [h, ↓upd_eq, ↓envL_cons, WZ, reduceIte, reduceEqDiff, reduceAdd, reduceLT, reduceLeDiff, reduceCtorEq, reduceMul, reducePow, W1, W1C, hlt, mapC_get hlt, mapC_get (l := l') (hlen ▸ hlt), hlen ▸ hlt]
      all_goals first
        | exact (hfalse i hlt (by first | assumption | simp only [*])).symm
        | (refine ⟨i + 1, ⟨by omega, fun j hj => ?_⟩, by omega, weak_drop rfl rfl rfl rfl ?_ ?_ ?_⟩
           · rcases Nat.lt_succ_iff_lt_or_eq.1 hj with hj | rfl
             · exact hall j hj
             · first | assumption | simp only [*]
           all_goals simp only [List.forall_mem_cons, mem_nil_all, frz_app, ↓upd_eq, ↓envL_cons, Nat.reduceEqDiff, if_true, if_false, reduceIte, true_and, and_true, and_self, true_or, or_true, implies_true, List.not_mem_nil, false_implies, AV.bel, AV.belL, AObj.bel, AV.norm, AV.normL, Bool.and_true, Bool.true_and, decide_true, decide_eq_true_eq, List.length_cons, List.length_nil, Nat.zero_add, Nat.reduceAdd, Nat.lt_add_one, Nat.lt_add_right_iff_pos, Nat.zero_lt_succ, Nat.zero_lt_one, Nat.reduceLT, List.take_succ_cons, List.take_zero, wrap_succ hlt hmax, map_bel, mapC_bel, AV.belL, List.length_map])
    · simp only [↓upd_eq, ↓envL_cons, WZ, reduceIte, reduceEqDiff, reduceAdd, reduceLT, reduceLeDiff, reduceCtorEq, reduceMul, reducePow, W1, W1C]
      exact (htrue fun j hj => hall j (by omega)).symm
  · have hne : ((l.length : Int) != (l'.length : Int)) = true := by simp; omega
    refine pcalls_text C_ok Try.func87 rfl (by decide) (Nat.le_of_ble_eq_true rfl) (by decide) rfl fun ok H => ?_
    rw [Try.results87]
    have h := True.intro
    repeat' (first
     | (with_reducible first | apply bA | apply bB | apply bC | apply bD | apply bE | apply bF) <;> intro h
     | skip) <;> simp only [h, ↓upd_eq, ↓envL_cons, WZ, reduceIte, reduceEqDiff, reduceAdd, reduceLT, reduceLeDiff, reduceCtorEq, reduceMul, reducePow, W1, W1C, hne, List.length_map]
    rw [sameCL_all]; simp [hlen]

theorem sameC_step (a b : Co) (ih : ∀ x ∈ a.kids, ∀ y, PCalls Try.prog 52 [embC x, embC y] (.bool (sameC x y))) : PCalls Try.prog 52 [embC a, embC b] (.bool (sameC a b)) := by
  refine pcalls_text C_ok Try.func52 rfl (by decide) (Nat.le_of_ble_eq_true rfl) (by decide) rfl fun ok H => ?_
  rw [Try.results52]
  have hmax : a.kids.length ≤ maxLen := (embC_okay ok.1).1
  have hs : sameC a b = ((a.kind == b.kind) && ((a.head == b.head) && ((a.label == b.label) && ((a.neg == b.neg) && sameCL a.kids b.kids)))) := by
    cases a; cases b; rw [sameC]; simp only [Co.kind, Co.head, Co.label, Co.neg, Co.kids, Bool.and_assoc]; rfl
  rw [hs]
  have h := True.intro
  repeat' (first
   | (with_reducible first | apply bA | apply bB | apply bC | apply bD | apply bE | apply bF) <;> intro h
   | ((first | refine goCall_norm ?_ | refine goDCall_norm ?_); simp only [AV.norm, AV.normL, W2, W2C]; first | refine goCall_p (coEq_step _ _ hmax ih) (.inl rfl) ?_ | refine goDCall_p (coEq_step _ _ hmax ih) (.inl rfl) ?_)
   | skip) <;> simp only [h, ↓upd_eq, ↓envL_cons, WZ, reduceIte, reduceEqDiff, reduceAdd, reduceLT, reduceLeDiff, reduceCtorEq, reduceMul, reducePow, W1, W1C]
  all_goals simp_all

theorem sameC_ok (a b : Co) : PCalls Try.prog 52 [embC a, embC b] (.bool (sameC a b)) :=
  Co.ind (p := fun a => ∀ b, PCalls Try.prog 52 [embC a, embC b] (.bool (sameC a b))) (fun a ih b => sameC_step a b ih) a b

theorem rsameC_step (a b : Co) (ih : ∀ x ∈ a.kids, ∀ y, PCalls Try.prog 54 [embC x, embC y] (.bool (sameC x y))) : PCalls Try.prog 54 [embC a, embC b] (.bool (sameC a b)) := by
  by_cases h0 : a.kind = b.kind ∧ a.head = b.head ∧ a.label = b.label ∧ a.neg = b.neg ∧ a.kids.length = b.kids.length
  · obtain ⟨h1, h2, h3, h4, hlen⟩ := h0
    have e1 : (a.kind != b.kind) = false := by simp [h1]
    have e2 : (a.head != b.head) = false := by simp [h2]
    have e3 : (a.label != b.label) = false := by simp [h3]
    have e4 : (a.neg == b.neg) = true := by simp [h4]
    have e5 : ((a.kids.length : Int) != (b.kids.length : Int)) = false := by simp [hlen]
    refine pcalls_text C_ok Try.func54 rfl (by decide) (Nat.le_of_ble_eq_true rfl) (by decide) rfl fun ok H => ?_
    rw [Try.results54]
    have hmax : a.kids.length ≤ maxLen := (embC_okay ok.1).1
    have hfalse : ∀ i, i < a.kids.length → sameC (a.kid i) (b.kid i) = false → sameC a b = false := fun i h1 h2 => by rw [sameC_eq, allN_false h1 h2]; simp
    have htrue : (∀ i, i < a.kids.length → sameC (a.kid i) (b.kid i) = true) → sameC a b = true := fun h => by rw [sameC_eq, allN_true h]; simp [h1, h2, h3, h4, hlen]
    have h := True.intro
    repeat' (first
     | (with_reducible first | apply bA | apply bB | apply bC | apply bD | apply bE | apply bF) <;> intro h
     | refine go_draw (id := 6) C_ok (fun _ => trivial) mixed 0 Try.f54.ntmps rfl (by kernel_rfl) (by decide) ?_
     | skip) <;> simp only [h, ↓upd_eq, ↓envL_cons, WZ, reduceIte, reduceEqDiff, reduceAdd, reduceLT, reduceLeDiff, reduceCtorEq, reduceMul, reducePow, W1, W1C, e1, e2, e3, e4, e5]
    refine aloop_trim [5, 2, 3] ?_
    simp only [List.map_cons, List.map_nil, ↓upd_eq, ↓envL_cons, WZ, reduceIte, reduceEqDiff, reduceAdd, reduceLT, reduceLeDiff, reduceCtorEq, reduceMul, reducePow, W1, W1C]
    refine goLoopS 1 (fun i : Nat => [(5, .int .i64 i)]) (fun _ => _) (fun i => i ≤ a.kids.length ∧ ∀ j, j < i → (fun j => sameC (a.kid j) (b.kid j)) j = true) (fun i => a.kids.length - i) C_ok 0 rfl rfl ⟨Nat.zero_le _, by simp⟩ (by decide) ?_
    rintro i ⟨hi, hall⟩
    simp only [List.drop_succ_cons, List.drop_zero, List.cons_append, List.nil_append]
    simp only [↓upd_eq, ↓envL_cons, WZ, reduceIte, reduceEqDiff, reduceAdd, reduceLT, reduceLeDiff, reduceCtorEq, reduceMul, reducePow, W1, W1C]
    refine goIf_d (fun hlt => ?_) (fun hlt => ?_)
    · have h := True.intro
      repeat' (first
       | (with_reducible first | apply bA | apply bB | apply bC | apply bD | apply bE | apply bF) <;> intro h
       | ((first | refine goCall_norm ?_ | refine goDCall_norm ?_); simp only [AV.norm, AV.normL, W2, W2C, hlt, mapC_kid hlt, mapC_kid (t := b) (hlen ▸ hlt), hlen ▸ hlt]; first | refine goCall_p (ih _ (cokid_mem hlt) _) (.inl rfl) ?_ | refine goDCall_p (ih _ (cokid_mem hlt) _) (.inl rfl) ?_)
       | refine go_draw (id := 6) C_ok (fun _ => trivial) mixed 0 Try.f54.ntmps rfl (by kernel_rfl) (by decide) ?_
       | skip) <;> simp only [h, ↓upd_eq, ↓envL_cons, WZ, reduceIte, reduceEqDiff, reduceAdd, reduceLT, reduceLeDiff, reduceCtorEq, reduceMul, reducePow, W1, W1C, hlt, mapC_kid hlt, mapC_kid (t := b) (hlen ▸ hlt), hlen ▸ hlt]
      all_goals first
        | exact (hfalse i hlt (by first | assumption | simp only [*])).symm
        | (refine ⟨i + 1, ⟨by omega, fun j hj => ?_⟩, by omega, weak_drop rfl rfl rfl rfl ?_ ?_ ?_⟩
           · rcases Nat.lt_succ_iff_lt_or_eq.1 hj with hj | rfl
             · exact hall j hj
             · first | assumption | simp only [*]
           all_goals simp only [List.forall_mem_cons, mem_nil_all, frz_app, ↓upd_eq, ↓envL_cons, Nat.reduceEqDiff, if_true, if_false, reduceIte, true_and, and_true, and_self, true_or, or_true, implies_true, List.not_mem_nil, false_implies, AV.bel, AV.belL, AObj.bel, AV.norm, AV.normL, Bool.and_true, Bool.true_and, decide_true, decide_eq_true_eq, List.length_cons, List.length_nil, Nat.zero_add, Nat.reduceAdd, Nat.lt_add_one, Nat.lt_add_right_iff_pos, Nat.zero_lt_succ, Nat.zero_lt_one, Nat.reduceLT, List.take_succ_cons, List.take_zero, wrap_succ hlt hmax, map_bel, mapC_bel, AV.belL, List.length_map])
    · simp only [↓upd_eq, ↓envL_cons, WZ, reduceIte, reduceEqDiff, reduceAdd, reduceLT, reduceLeDiff, reduceCtorEq, reduceMul, reducePow, W1, W1C]
      exact (htrue fun j hj => hall j (by omega)).symm
  · have hs : sameC a b = false := by rw [sameC_eq]; simp; intro h1 h2 h3 h4 h5; exact absurd ⟨h1, h2, h3, h4, h5⟩ h0
    rw [hs]
    refine pcalls_text C_ok Try.func54 rfl (by decide) (Nat.le_of_ble_eq_true rfl) (by decide) rfl fun ok H => ?_
    rw [Try.results54]
    have h := True.intro
    repeat' (first
     | (with_reducible first | apply bA | apply bB | apply bC | apply bD | apply bE | apply bF) <;> intro h
     | refine go_draw (id := 6) C_ok (fun _ => trivial) mixed 0 Try.f54.ntmps rfl (by kernel_rfl) (by decide) ?_
     | skip) <;> simp only [h, ↓upd_eq, ↓envL_cons, WZ, reduceIte, reduceEqDiff, reduceAdd, reduceLT, reduceLeDiff, reduceCtorEq, reduceMul, reducePow, W1, W1C]
    all_goals (exfalso; apply h0; simp only [bne_eq_false_iff_eq, beq_iff_eq, Bool.not_eq_false', Int.natCast_inj] at *; refine ⟨?_, ?_, ?_, ?_, ?_⟩ <;> first | assumption | omega | trace_state)
theorem rsameC_ok (a b : Co) : PCalls Try.prog 54 [embC a, embC b] (.bool (sameC a b)) :=
  Co.ind (p := fun a => ∀ b, PCalls Try.prog 54 [embC a, embC b] (.bool (sameC a b))) (fun a ih b => rsameC_step a b ih) a b

/-! How great. -/
theorem takeC_kid {t : Co} {i : Nat} (h : i < t.kids.length) : t.kids.take (i + 1) = t.kids.take i ++ [t.kid i] := by
  rw [List.take_succ_eq_append_getElem h]; simp [Co.kid, h]
/-! How high. -/
mutual
theorem heightC_le : ∀ t, heightC t ≤ nodesC t
  | .mk k _ _ _ l => by have := heightCL_le l; simp only [heightC, nodesC]; split <;> omega
theorem heightCL_le : ∀ l, heightCL l ≤ nodesCL l
  | [] => Nat.le_refl _
  | t :: l => by have := heightCL_le l; have := heightC_le t; simp [heightCL, nodesCL]; omega
end
/-! Heavy. -/
mutual
def cntC : Co → Nat → Nat
  | .mk _ _ _ _ l, n => cntCL l (n + 1)
def cntCL : List Co → Nat → Nat
  | [], n => n
  | x :: l, n => if n ≤ 400 then cntCL l (cntC x n) else n
end
theorem cntC_eq (t : Co) (n : Nat) : cntC t n = cntCL t.kids (n + 1) := by cases t; rfl
mutual
theorem cntC_spec : ∀ (t : Co) (n : Nat), n < cntC t n ∧ cntC t n ≤ max (n + 1) 401 ∧ (n + nodesC t ≤ 400 → cntC t n = n + nodesC t) ∧ (400 < n + nodesC t → 400 < cntC t n)
  | .mk k h lb ng l, n => by
    have := cntCL_spec l (n + 1)
    rw [cntC_eq, nodesC_eq]; simp only [Co.kids]; omega
theorem cntCL_spec : ∀ (l : List Co) (n : Nat), n ≤ cntCL l n ∧ cntCL l n ≤ max n 401 ∧ (n + nodesCL l ≤ 400 → cntCL l n = n + nodesCL l) ∧ (400 < n + nodesCL l → 400 < cntCL l n)
  | [], n => by simp [cntCL, nodesCL]; omega
  | x :: l, n => by
    rw [cntCL, nodesCL]
    split
    · have h1 := cntC_spec x n
      have h2 := cntCL_spec l (cntC x n)
      omega
    · omega
end
theorem cntCL_stop {l : List Co} {n : Nat} (h : ¬ n ≤ 400) : cntCL l n = n := by cases l <;> simp [cntCL, h]
theorem dropC_kid {t : Co} {i : Nat} (h : i < t.kids.length) : t.kids.drop i = t.kid i :: t.kids.drop (i + 1) := by
  rw [List.drop_eq_getElem_cons h]; simp [Co.kid, h]
theorem weighC_step (t : Co) (n : Nat) (hn : n ≤ 2000000) (ih : ∀ x ∈ t.kids, ∀ n : Nat, n ≤ 2000000 → PCalls Try.prog 65 [embC x, .int .i64 n] (.int .i64 (cntC x n))) : PCalls Try.prog 65 [embC t, .int .i64 n] (.int .i64 (cntC t n)) := by
  refine pcalls_text C_ok Try.func65 rfl (by decide) (Nat.le_of_ble_eq_true rfl) (by decide) rfl fun ok H => ?_
  rw [Try.results65]
  have h := True.intro
  repeat' (first
   | (with_reducible first | apply bA | apply bB | apply bC | apply bD | apply bE | apply bF) <;> intro h
   | skip) <;> simp only [h, ↓upd_eq, ↓envL_cons, WZ, reduceIte, reduceEqDiff, reduceAdd, reduceLT, reduceLeDiff, reduceCtorEq, reduceMul, reducePow, W1, W1C, wrap_nat1 (show n < 4611686018427387904 by omega)]
  have hmax : t.kids.length ≤ maxLen := (embC_okay ok.1).1
  refine aloop_trim [1, 5, 2] ?_
  simp only [List.map_cons, List.map_nil, ↓upd_eq, ↓envL_cons, WZ, reduceIte, reduceEqDiff, reduceAdd, reduceLT, reduceLeDiff, reduceCtorEq, reduceMul, reducePow, W1, W1C]
  refine goLoopS 2 (fun x : Nat × Nat => [(1, .int .i64 x.2), (5, .int .i64 x.1)]) (fun _ => _) (fun x => x.1 ≤ t.kids.length ∧ x.2 ≤ 2000001 ∧ cntCL (t.kids.drop x.1) x.2 = cntC t n) (fun x => t.kids.length - x.1) C_ok (0, n + 1) rfl rfl ⟨Nat.zero_le _, by simp only; omega, (cntC_eq t n).symm⟩ (by decide) ?_
  rintro ⟨i, m⟩ ⟨hi, hm, hr⟩
  simp only at hi hm hr
  simp only [List.drop_succ_cons, List.drop_zero, List.cons_append, List.nil_append]
  simp only [↓upd_eq, ↓envL_cons, WZ, reduceIte, reduceEqDiff, reduceAdd, reduceLT, reduceLeDiff, reduceCtorEq, reduceMul, reducePow, W1, W1C]
  refine goGb_d (fun hlt => ?_) (fun hlt => ?_)
  · simp only [hlt, ↓upd_eq, ↓envL_cons, WZ, reduceIte, reduceEqDiff, reduceAdd, reduceLT, reduceLeDiff, reduceCtorEq, reduceMul, reducePow, W1, W1C]
    refine goIf_d (fun h6 => ?_) (fun h6 => ?_)
    · have h6' : m ≤ 400 := by omega
      have h := True.intro
      repeat' (first
       | (with_reducible first | apply bA | apply bB | apply bC | apply bD | apply bE | apply bF) <;> intro h
       | ((first | refine goCall_norm ?_ | refine goDCall_norm ?_); simp only [AV.norm, AV.normL, W2, W2C, hlt, mapC_kid hlt]; first | refine goCall_p (ih _ (cokid_mem hlt) m (by omega)) (.inl rfl) ?_ | refine goDCall_p (ih _ (cokid_mem hlt) m (by omega)) (.inl rfl) ?_)
       | skip) <;> simp only [h, ↓upd_eq, ↓envL_cons, WZ, reduceIte, reduceEqDiff, reduceAdd, reduceLT, reduceLeDiff, reduceCtorEq, reduceMul, reducePow, W1, W1C, hlt, mapC_kid hlt]
      have hc := cntC_spec (t.kid i) m
      refine ⟨(i + 1, cntC (t.kid i) m), ⟨hlt, by simp only; omega, ?_⟩, by simp only; omega, weak_drop rfl rfl rfl rfl ?_ ?_ ?_⟩
      · rw [← hr, dropC_kid hlt, cntCL, if_pos h6']
      all_goals simp only [List.forall_mem_cons, mem_nil_all, frz_app, ↓upd_eq, ↓envL_cons, Nat.reduceEqDiff, if_true, if_false, reduceIte, true_and, and_true, and_self, true_or, or_true, implies_true, List.not_mem_nil, false_implies, AV.bel, AV.belL, AObj.bel, AV.norm, AV.normL, Bool.and_true, Bool.true_and, decide_true, decide_eq_true_eq, List.length_cons, List.length_nil, Nat.zero_add, Nat.reduceAdd, Nat.lt_add_one, Nat.lt_add_right_iff_pos, Nat.zero_lt_succ, Nat.zero_lt_one, Nat.reduceLT, List.take_succ_cons, List.take_zero, wrap_succ hlt hmax, mapC_bel, AV.belL, List.length_map]
    · simp only [hlt, ↓upd_eq, ↓envL_cons, WZ, reduceIte, reduceEqDiff, reduceAdd, reduceLT, reduceLeDiff, reduceCtorEq, reduceMul, reducePow, W1, W1C]
      rw [← hr, cntCL_stop (by omega)]
  · simp only [hlt, ↓upd_eq, ↓envL_cons, WZ, reduceIte, reduceEqDiff, reduceAdd, reduceLT, reduceLeDiff, reduceCtorEq, reduceMul, reducePow, W1, W1C]
    rw [← hr, List.drop_of_length_le (by omega)]; rfl
theorem weighC_ok : ∀ (t : Co) (n : Nat), n ≤ 2000000 → PCalls Try.prog 65 [embC t, .int .i64 n] (.int .i64 (cntC t n)) :=
  Co.ind (p := fun t => ∀ n : Nat, n ≤ 2000000 → PCalls Try.prog 65 [embC t, .int .i64 n] (.int .i64 (cntC t n))) fun t ih n hn => weighC_step t n hn fun x hx n hn => ih x hx n hn
def heavyC (l : List Co) : Bool := decide (400 < nodesCL l)
def cntCF : List Co → Nat → Nat
  | [], n => n
  | x :: l, n => cntCF l (cntC x n)
theorem cntCF_spec : ∀ (l : List Co) (n : Nat), n ≤ cntCF l n ∧ (n + nodesCL l ≤ 400 → cntCF l n = n + nodesCL l) ∧ (400 < n + nodesCL l → 400 < cntCF l n)
  | [], n => by simp [cntCF, nodesCL]
  | x :: l, n => by
    have h1 := cntC_spec x n
    have h2 := cntCF_spec l (cntC x n)
    rw [cntCF, nodesCL]; omega
theorem heavyC_eq (l : List Co) : heavyC l = decide ((cntCF l 0 : Int) > 400) := by
  have := cntCF_spec l 0
  unfold heavyC
  by_cases h : 400 < nodesCL l
  · simp only [h, decide_true]; rw [eq_comm, decide_eq_true_eq]; omega
  · simp only [h, decide_false]; rw [eq_comm, decide_eq_false_iff_not]; omega
theorem heavyC_ok (l : List Co) (hl : l.length ≤ 1000000) : PCalls Try.prog 27 [.sl (l.map embC) .no] (.bool (heavyC l)) := by
  refine pcalls_text C_ok Try.func27 rfl (by decide) (Nat.le_of_ble_eq_true rfl) (by decide) rfl fun ok H => ?_
  rw [Try.results27]
  have h := True.intro
  repeat' (first
   | (with_reducible first | apply bA | apply bB | apply bC | apply bD | apply bE | apply bF) <;> intro h
   | skip) <;> simp only [h, ↓upd_eq, ↓envL_cons, WZ, reduceIte, reduceEqDiff, reduceAdd, reduceLT, reduceLeDiff, reduceCtorEq, reduceMul, reducePow, W1, W1C]
  have hmax : l.length ≤ maxLen := by rw [maxLen_val]; omega
  refine aloop_trim [3, 4, 0] ?_
  simp only [List.map_cons, List.map_nil, ↓upd_eq, ↓envL_cons, WZ, reduceIte, reduceEqDiff, reduceAdd, reduceLT, reduceLeDiff, reduceCtorEq, reduceMul, reducePow, W1, W1C]
  refine goLoopS 2 (fun x : Nat × Nat => [(3, .int .i64 x.2), (4, .int .i64 x.1)]) (fun _ => _) (fun x => x.1 ≤ l.length ∧ x.2 ≤ 401 + x.1 ∧ cntCF (l.drop x.1) x.2 = cntCF l 0) (fun x => l.length - x.1) C_ok (0, 0) rfl rfl ⟨Nat.zero_le _, by simp only; omega, rfl⟩ (by decide) ?_
  rintro ⟨i, m⟩ ⟨hi, hm, hr⟩
  simp only at hi hm hr
  simp only [List.drop_succ_cons, List.drop_zero, List.cons_append, List.nil_append]
  simp only [↓upd_eq, ↓envL_cons, WZ, reduceIte, reduceEqDiff, reduceAdd, reduceLT, reduceLeDiff, reduceCtorEq, reduceMul, reducePow, W1, W1C]
  refine goIf_d (fun hlt => ?_) (fun hlt => ?_)
  · have h := True.intro
    repeat' (first
     | (with_reducible first | apply bA | apply bB | apply bC | apply bD | apply bE | apply bF) <;> intro h
     | ((first | refine goCall_norm ?_ | refine goDCall_norm ?_); simp only [AV.norm, AV.normL, W2, W2C, hlt, mapC_get hlt]; first | refine goCall_p (weighC_ok _ m (by omega)) (.inl rfl) ?_ | refine goDCall_p (weighC_ok _ m (by omega)) (.inl rfl) ?_)
     | skip) <;> simp only [h, ↓upd_eq, ↓envL_cons, WZ, reduceIte, reduceEqDiff, reduceAdd, reduceLT, reduceLeDiff, reduceCtorEq, reduceMul, reducePow, W1, W1C, hlt, mapC_get hlt]
    have hc := cntC_spec (l.getD i default) m
    refine ⟨(i + 1, cntC (l.getD i default) m), ⟨hlt, by simp only; omega, ?_⟩, by simp only; omega, weak_of rfl rfl rfl rfl ?_⟩
    · rw [← hr, List.drop_eq_getElem_cons hlt, cntCF]; simp [hlt]
    all_goals simp only [List.forall_mem_cons, mem_nil_all, frz_app, ↓upd_eq, ↓envL_cons, Nat.reduceEqDiff, if_true, if_false, reduceIte, true_and, and_true, and_self, true_or, or_true, implies_true, List.not_mem_nil, false_implies, AV.bel, AV.belL, AObj.bel, AV.norm, AV.normL, Bool.and_true, Bool.true_and, decide_true, decide_eq_true_eq, List.length_cons, List.length_nil, Nat.zero_add, Nat.reduceAdd, Nat.lt_add_one, Nat.lt_add_right_iff_pos, Nat.zero_lt_succ, Nat.zero_lt_one, Nat.reduceLT, List.take_succ_cons, List.take_zero, wrap_succ hlt hmax, mapC_bel, AV.belL, List.length_map]
  · simp only [↓upd_eq, ↓envL_cons, WZ, reduceIte, reduceEqDiff, reduceAdd, reduceLT, reduceLeDiff, reduceCtorEq, reduceMul, reducePow, W1, W1C]
    rw [heavyC_eq, ← hr, List.drop_of_length_le (by omega)]; rfl
theorem heavyC1_ok (a : Co) : PCalls Try.prog 27 [.sl [embC a] .no] (.bool (heavyC [a])) := heavyC_ok [a] (by simp)
end Go.Proofs.Ytofogicgnldfhaa
end

section
/- Walks: what coercions are right. No condition. -/
set_option linter.unusedSimpArgs false
set_option linter.unusedVariables false
set_option maxHeartbeats 4000000
set_option maxRecDepth 100000
namespace Go.Proofs.Ytofogicgnldfhaa
open Go Go.Ab
open Nat (reduceEqDiff reduceAdd reduceLT reduceLeDiff reduceMul reducePow)
attribute [local irreducible] PCalls ACalls CallK GoCall GoDCall GoIf GoGb GoDGb GoO GoD GoX GoDX GoG GoDG GoGv GoDGv Go ALoop

theorem isHead_ok (k : Int) : PCalls Try.prog 110 [.int .i64 k] (.bool (headK k)) := by
  refine pcalls_text C_ok Try.func110 rfl (by decide) (Nat.le_of_ble_eq_true rfl) (by decide) rfl fun ok H => ?_
  rw [Try.results110]
  have h := True.intro
  repeat' (first
   | (with_reducible first | apply bA | apply bB | apply bC | apply bD | apply bE | apply bF) <;> intro h
   | skip) <;> simp only [h, ↓upd_eq, ↓envL_cons, WZ, reduceIte, reduceEqDiff, reduceAdd, reduceLT, reduceLeDiff, reduceCtorEq, reduceMul, reducePow, W1, W1C]
  all_goals (simp only [beq_iff_eq, beq_eq_false_iff_ne] at *; rw [eq_comm]; simp only [headK, decide_eq_true_eq, decide_eq_false_iff_not]; omega)
theorem rhead_ok (k : Int) : PCalls Try.prog 66 [.int .i64 k] (.bool (headK k)) := by
  have e : ∀ k, headK k = ((decide (arity k ≥ 0) && (k != 5)) && (k != 6)) := by
    intro k
    by_cases h : k = 1 ∨ k = 2 ∨ k = 3 ∨ k = 4 ∨ k = 5 ∨ k = 6 ∨ k = 7 ∨ k = 8 ∨ k = 9
    · rcases h with rfl | rfl | rfl | rfl | rfl | rfl | rfl | rfl | rfl <;> rfl
    · have ha : arity k = -1 := by unfold arity; (repeat' split) <;> omega
      have hh : headK k = false := by simp only [headK, decide_eq_false_iff_not]; omega
      rw [ha, hh]; rfl
  rw [e]
  refine pcalls_text C_ok Try.func66 rfl (by decide) (Nat.le_of_ble_eq_true rfl) (by decide) rfl fun ok H => ?_
  rw [Try.results66]
  have h := True.intro
  repeat' (first
   | (with_reducible first | apply bA | apply bB | apply bC | apply bD | apply bE | apply bF) <;> intro h
   | ((first | refine goCall_norm ?_ | refine goDCall_norm ?_); simp only [AV.norm, AV.normL, W2, W2C]; first | refine goCall_p (kids_ok _) (.inl rfl) ?_ | refine goDCall_p (kids_ok _) (.inl rfl) ?_)
   | skip) <;> simp only [h, ↓upd_eq, ↓envL_cons, WZ, reduceIte, reduceEqDiff, reduceAdd, reduceLT, reduceLeDiff, reduceCtorEq, reduceMul, reducePow, W1, W1C]
  all_goals simp_all
theorem former_ok (k : Int) : PCalls Try.prog 119 [.int .i64 k] (.int .i64 (former k)) := by
  refine pcalls_text C_ok Try.func119 rfl (by decide) (Nat.le_of_ble_eq_true rfl) (by decide) rfl fun ok H => ?_
  rw [Try.results119]
  have h := True.intro
  repeat' (first
   | (with_reducible first | apply bA | apply bB | apply bC | apply bD | apply bE | apply bF) <;> intro h
   | skip) <;> simp only [h, ↓upd_eq, ↓envL_cons, WZ, reduceIte, reduceEqDiff, reduceAdd, reduceLT, reduceLeDiff, reduceCtorEq, reduceMul, reducePow, W1, W1C]
  all_goals (simp only [beq_iff_eq, beq_eq_false_iff_ne] at *; unfold former; (repeat' split) <;> omega)
theorem rFormer_ok (k : Int) : PCalls Try.prog 68 [.int .i64 k] (.int .i64 (former k)) := by
  refine pcalls_text C_ok Try.func68 rfl (by decide) (Nat.le_of_ble_eq_true rfl) (by decide) rfl fun ok H => ?_
  rw [Try.results68]
  have h := True.intro
  repeat' (first
   | (with_reducible first | apply bA | apply bB | apply bC | apply bD | apply bE | apply bF) <;> intro h
   | skip) <;> simp only [h, ↓upd_eq, ↓envL_cons, WZ, reduceIte, reduceEqDiff, reduceAdd, reduceLT, reduceLeDiff, reduceCtorEq, reduceMul, reducePow, W1, W1C]
  all_goals (simp only [beq_iff_eq, beq_eq_false_iff_ne] at *; unfold former; (repeat' split) <;> omega)
theorem label_ok (k : Int) : PCalls Try.prog 109 [.int .i64 k] (.bool (labelOK k)) := by
  refine pcalls_text C_ok Try.func109 rfl (by decide) (Nat.le_of_ble_eq_true rfl) (by decide) rfl fun ok H => ?_
  rw [Try.results109]
  have h := True.intro
  repeat' (first
   | (with_reducible first | apply bA | apply bB | apply bC | apply bD | apply bE | apply bF) <;> intro h
   | skip) <;> simp only [h, ↓upd_eq, ↓envL_cons, WZ, reduceIte, reduceEqDiff, reduceAdd, reduceLT, reduceLeDiff, reduceCtorEq, reduceMul, reducePow, W1, W1C]
  all_goals (simp_all [labelOK] <;> (try intros) <;> (try omega))

theorem within_of (x : Co) (h : Int) (c : PCalls Try.prog 95 [embC x] (.bool (rightC x))) : PCalls Try.prog 111 [embC x, .int .i64 h] (.bool (within x h)) := by
  refine pcalls_text C_ok Try.func111 rfl (by decide) (Nat.le_of_ble_eq_true rfl) (by decide) rfl fun ok H => ?_
  rw [Try.results111]
  have h := True.intro
  repeat' (first
   | (with_reducible first | apply bA | apply bB | apply bC | apply bD | apply bE | apply bF) <;> intro h
   | ((first | refine goCall_norm ?_ | refine goDCall_norm ?_); simp only [AV.norm, AV.normL, W2, W2C]; first | refine goCall_p (former_ok _) (.inl rfl) ?_ | refine goCall_p (c) (.inl rfl) ?_ | refine goDCall_p (former_ok _) (.inl rfl) ?_ | refine goDCall_p (c) (.inl rfl) ?_)
   | skip) <;> simp only [h, ↓upd_eq, ↓envL_cons, WZ, reduceIte, reduceEqDiff, reduceAdd, reduceLT, reduceLeDiff, reduceCtorEq, reduceMul, reducePow, W1, W1C]
  all_goals simp_all [within]
theorem plain_of (x : Co) (h : Int) (c : PCalls Try.prog 28 [embC x] (.bool (rightC x))) : PCalls Try.prog 67 [embC x, .int .i64 h] (.bool (within x h)) := by
  refine pcalls_text C_ok Try.func67 rfl (by decide) (Nat.le_of_ble_eq_true rfl) (by decide) rfl fun ok H => ?_
  rw [Try.results67]
  have h := True.intro
  repeat' (first
   | (with_reducible first | apply bA | apply bB | apply bC | apply bD | apply bE | apply bF) <;> intro h
   | ((first | refine goCall_norm ?_ | refine goDCall_norm ?_); simp only [AV.norm, AV.normL, W2, W2C]; first | refine goCall_p (rFormer_ok _) (.inl rfl) ?_ | refine goCall_p (c) (.inl rfl) ?_ | refine goDCall_p (rFormer_ok _) (.inl rfl) ?_ | refine goDCall_p (c) (.inl rfl) ?_)
   | skip) <;> simp only [h, ↓upd_eq, ↓envL_cons, WZ, reduceIte, reduceEqDiff, reduceAdd, reduceLT, reduceLeDiff, reduceCtorEq, reduceMul, reducePow, W1, W1C]
  all_goals simp_all [within]

/-- How many of them are the identity. -/
def idN (l : List Co) : Nat := l.countP fun x => decide (x.kind = 1)
theorem idN_take {c : Co} {i : Nat} (h : i < c.kids.length) : idN (c.kids.take (i + 1)) = idN (c.kids.take i) + if (c.kid i).kind = 1 then 1 else 0 := by
  rw [takeC_kid h, idN, idN, List.countP_append]
  by_cases hk : (c.kid i).kind = 1 <;> simp [hk]
theorem idN_le (l : List Co) : idN l ≤ l.length := List.countP_le_length
theorem idN_any (l : List Co) : (l.any fun x => decide (x.kind ≠ 1)) = decide (idN l < l.length) := by
  induction l with
  | nil => rfl
  | cons a l ih =>
    have := idN_le l
    rw [List.any_cons, ih]
    unfold idN at *
    rw [List.countP_cons]
    by_cases h : a.kind = 1
    · simp [h]
    · simp [h]; omega
def formedB (c : Co) : Bool := decide (c.kids.length = if c.kind = 4 then 1 else 2) && decide (c.head = 0) && decide (c.label = 0) && !c.neg && decide (idN c.kids < c.kids.length) && allN c.kids.length fun i => rightC (c.kid i)
theorem right_formed {c : Co} (h : c.kind = 2 ∨ c.kind = 3 ∨ c.kind = 4) : rightC c = formedB c := by
  have h1 : c.kind ≠ 1 := by omega
  have h7 : c.kind ≠ 7 := by omega
  have h5 : c.kind ≠ 5 := by omega
  have h6 : c.kind ≠ 6 := by omega
  rw [rightC_eq, formedB, okC, if_neg h1, if_neg h7, if_neg h5, if_neg h6, if_pos h, idN_any]


theorem formed_of (c : Co) (hk : c.kind = 2 ∨ c.kind = 3 ∨ c.kind = 4) (ih : ∀ x ∈ c.kids, PCalls Try.prog 95 [embC x] (.bool (rightC x))) : PCalls Try.prog 112 [embC c] (.bool (formedB c)) := by
  by_cases h0 : (c.kids.length = if c.kind = 4 then 1 else 2) ∧ c.head = 0 ∧ c.label = 0 ∧ c.neg = false
  · obtain ⟨h1, h2, h3, h4⟩ := h0
    have b2 : (c.head != 0) = false := by simp [h2]
    have b3 : (c.label != 0) = false := by simp [h3]
    have hfe : formedB c = (decide (idN c.kids < c.kids.length) && allN c.kids.length fun i => rightC (c.kid i)) := by
      simp only [formedB, h1, h2, h3, h4, decide_true, Bool.true_and, Bool.not_false]
    have hmax : c.kids.length ≤ maxLen := by rw [maxLen_val, h1]; split <;> omega
    have hfalse : ∀ i, i < c.kids.length → rightC (c.kid i) = false → formedB c = false := fun i g1 g2 => by rw [hfe, allN_false g1 g2]; simp
    by_cases hk4 : c.kind = 4
    · have b1 : (c.kind == 4) = true := by simp [hk4]
      have e1 : ((c.kids.length : Int) != 1) = false := by rw [h1, if_pos hk4]; rfl
      refine pcalls_text C_ok Try.func112 rfl (by decide) (Nat.le_of_ble_eq_true rfl) (by decide) rfl fun ok H => ?_
      rw [Try.results112]
      have h := True.intro
      repeat' (first
       | (with_reducible first | apply bA | apply bB | apply bC | apply bD | apply bE | apply bF) <;> intro h
       | skip) <;> simp only [h, ↓upd_eq, ↓envL_cons, WZ, reduceIte, reduceEqDiff, reduceAdd, reduceLT, reduceLeDiff, reduceCtorEq, reduceMul, reducePow, W1, W1C, b1, b2, b3, h4, e1]
      refine aloop_trim [4, 32, 3, 30, 31] ?_
      simp only [List.map_cons, List.map_nil, ↓upd_eq, ↓envL_cons, WZ, reduceIte, reduceEqDiff, reduceAdd, reduceLT, reduceLeDiff, reduceCtorEq, reduceMul, reducePow, W1, W1C]
      refine goLoopS 2 (fun i : Nat => [(4, .int .i64 ((idN (c.kids.take i) : Nat) : Int)), (32, .int .i64 i)]) (fun _ => _) (fun i => i ≤ c.kids.length ∧ ∀ j, j < i → rightC (c.kid j) = true) (fun i => c.kids.length - i) C_ok 0 rfl rfl ⟨Nat.zero_le _, by simp⟩ (by decide) ?_
      rintro i ⟨hi, hall⟩
      simp only [List.drop_succ_cons, List.drop_zero, List.cons_append, List.nil_append]
      simp only [↓upd_eq, ↓envL_cons, WZ, reduceIte, reduceEqDiff, reduceAdd, reduceLT, reduceLeDiff, reduceCtorEq, reduceMul, reducePow, W1, W1C]
      refine goIf_d (fun hlt => ?_) (fun hlt => ?_)
      · have hl2 : c.kids.length ≤ 2 := by rw [h1]; split <;> omega
        have hle := idN_le (c.kids.take i)
        rw [List.length_take] at hle
        have hw : IntKind.wrap .i64 (((idN (c.kids.take i) : Nat) : Int) + 1) = ((idN (c.kids.take i) + 1 : Nat) : Int) := wrap_nat1 (by omega)
        have ht := idN_take hlt
        by_cases hr : rightC (c.kid i) = true
        · have hnx : ∀ j, j < i + 1 → rightC (c.kid j) = true := fun j hj => by
            rcases Nat.lt_succ_iff_lt_or_eq.1 hj with hj | rfl
            · exact hall j hj
            · exact hr
          by_cases h1k : (c.kid i).kind = 1
          · have b1 : ((c.kid i).kind == 1) = true := by simp [h1k]
            rw [if_pos h1k] at ht
            have h := True.intro
            repeat' (first
             | (with_reducible first | apply bA | apply bB | apply bC | apply bD | apply bE | apply bF) <;> intro h
             | ((first | refine goCall_norm ?_ | refine goDCall_norm ?_); simp only [AV.norm, AV.normL, W2, W2C, hlt, mapC_kid hlt, hr, b1, hw]; first | refine goCall_p (ih _ (cokid_mem hlt)) (.inl rfl) ?_ | refine goDCall_p (ih _ (cokid_mem hlt)) (.inl rfl) ?_)
             | skip) <;> simp only [h, ↓upd_eq, ↓envL_cons, WZ, reduceIte, reduceEqDiff, reduceAdd, reduceLT, reduceLeDiff, reduceCtorEq, reduceMul, reducePow, W1, W1C, hlt, mapC_kid hlt, hr, b1, hw]
            refine ⟨i + 1, ⟨hlt, hnx⟩, by omega, weak_drop rfl rfl rfl rfl ?_ ?_ ?_⟩ <;> simp only [List.forall_mem_cons, mem_nil_all, frz_app, ↓upd_eq, ↓envL_cons, Nat.reduceEqDiff, if_true, if_false, reduceIte, true_and, and_true, and_self, true_or, or_true, implies_true, List.not_mem_nil, false_implies, AV.bel, AV.belL, AObj.bel, AV.norm, AV.normL, Bool.and_true, Bool.true_and, decide_true, decide_eq_true_eq, List.length_cons, List.length_nil, Nat.zero_add, Nat.reduceAdd, Nat.lt_add_one, Nat.lt_add_right_iff_pos, Nat.zero_lt_succ, Nat.zero_lt_one, Nat.reduceLT, List.take_succ_cons, List.take_zero, wrap_succ hlt hmax, ht, mapC_bel, AV.belL, List.length_map, AObj.bel]
          · have b1 : ((c.kid i).kind == 1) = false := by simp [h1k]
            simp only [if_neg h1k, Nat.add_zero] at ht
            have h := True.intro
            repeat' (first
             | (with_reducible first | apply bA | apply bB | apply bC | apply bD | apply bE | apply bF) <;> intro h
             | ((first | refine goCall_norm ?_ | refine goDCall_norm ?_); simp only [AV.norm, AV.normL, W2, W2C, hlt, mapC_kid hlt, hr, b1, hw]; first | refine goCall_p (ih _ (cokid_mem hlt)) (.inl rfl) ?_ | refine goDCall_p (ih _ (cokid_mem hlt)) (.inl rfl) ?_)
             | skip) <;> simp only [h, ↓upd_eq, ↓envL_cons, WZ, reduceIte, reduceEqDiff, reduceAdd, reduceLT, reduceLeDiff, reduceCtorEq, reduceMul, reducePow, W1, W1C, hlt, mapC_kid hlt, hr, b1, hw]
            refine ⟨i + 1, ⟨hlt, hnx⟩, by omega, weak_drop rfl rfl rfl rfl ?_ ?_ ?_⟩ <;> simp only [List.forall_mem_cons, mem_nil_all, frz_app, ↓upd_eq, ↓envL_cons, Nat.reduceEqDiff, if_true, if_false, reduceIte, true_and, and_true, and_self, true_or, or_true, implies_true, List.not_mem_nil, false_implies, AV.bel, AV.belL, AObj.bel, AV.norm, AV.normL, Bool.and_true, Bool.true_and, decide_true, decide_eq_true_eq, List.length_cons, List.length_nil, Nat.zero_add, Nat.reduceAdd, Nat.lt_add_one, Nat.lt_add_right_iff_pos, Nat.zero_lt_succ, Nat.zero_lt_one, Nat.reduceLT, List.take_succ_cons, List.take_zero, wrap_succ hlt hmax, ht, mapC_bel, AV.belL, List.length_map, AObj.bel]
        · have hr' : rightC (c.kid i) = false := by simpa using hr
          have h := True.intro
          repeat' (first
           | (with_reducible first | apply bA | apply bB | apply bC | apply bD | apply bE | apply bF) <;> intro h
           | ((first | refine goCall_norm ?_ | refine goDCall_norm ?_); simp only [AV.norm, AV.normL, W2, W2C, hlt, mapC_kid hlt, hr']; first | refine goCall_p (ih _ (cokid_mem hlt)) (.inl rfl) ?_ | refine goDCall_p (ih _ (cokid_mem hlt)) (.inl rfl) ?_)
           | skip) <;> simp only [h, ↓upd_eq, ↓envL_cons, WZ, reduceIte, reduceEqDiff, reduceAdd, reduceLT, reduceLeDiff, reduceCtorEq, reduceMul, reducePow, W1, W1C, hlt, mapC_kid hlt, hr']
          exact (hfalse i hlt hr').symm
      · have hi' : i = c.kids.length := by omega
        subst hi'
        have h := True.intro
        repeat' (first
         | (with_reducible first | apply bA | apply bB | apply bC | apply bD | apply bE | apply bF) <;> intro h
         | skip) <;> simp only [h, ↓upd_eq, ↓envL_cons, WZ, reduceIte, reduceEqDiff, reduceAdd, reduceLT, reduceLeDiff, reduceCtorEq, reduceMul, reducePow, W1, W1C, List.take_length]
        rw [hfe, allN_true hall, Bool.and_true]
        first | (simp [h1, hk4]; done) | (simp [h1, hk4]; omega)
    · have b1 : (c.kind == 4) = false := by simp [hk4]
      have e1 : ((c.kids.length : Int) != 2) = false := by rw [h1, if_neg hk4]; rfl
      refine pcalls_text C_ok Try.func112 rfl (by decide) (Nat.le_of_ble_eq_true rfl) (by decide) rfl fun ok H => ?_
      rw [Try.results112]
      have h := True.intro
      repeat' (first
       | (with_reducible first | apply bA | apply bB | apply bC | apply bD | apply bE | apply bF) <;> intro h
       | skip) <;> simp only [h, ↓upd_eq, ↓envL_cons, WZ, reduceIte, reduceEqDiff, reduceAdd, reduceLT, reduceLeDiff, reduceCtorEq, reduceMul, reducePow, W1, W1C, b1, b2, b3, h4, e1]
      refine aloop_trim [4, 32, 3, 30, 31] ?_
      simp only [List.map_cons, List.map_nil, ↓upd_eq, ↓envL_cons, WZ, reduceIte, reduceEqDiff, reduceAdd, reduceLT, reduceLeDiff, reduceCtorEq, reduceMul, reducePow, W1, W1C]
      refine goLoopS 2 (fun i : Nat => [(4, .int .i64 ((idN (c.kids.take i) : Nat) : Int)), (32, .int .i64 i)]) (fun _ => _) (fun i => i ≤ c.kids.length ∧ ∀ j, j < i → rightC (c.kid j) = true) (fun i => c.kids.length - i) C_ok 0 rfl rfl ⟨Nat.zero_le _, by simp⟩ (by decide) ?_
      rintro i ⟨hi, hall⟩
      simp only [List.drop_succ_cons, List.drop_zero, List.cons_append, List.nil_append]
      simp only [↓upd_eq, ↓envL_cons, WZ, reduceIte, reduceEqDiff, reduceAdd, reduceLT, reduceLeDiff, reduceCtorEq, reduceMul, reducePow, W1, W1C]
      refine goIf_d (fun hlt => ?_) (fun hlt => ?_)
      · have hl2 : c.kids.length ≤ 2 := by rw [h1]; split <;> omega
        have hle := idN_le (c.kids.take i)
        rw [List.length_take] at hle
        have hw : IntKind.wrap .i64 (((idN (c.kids.take i) : Nat) : Int) + 1) = ((idN (c.kids.take i) + 1 : Nat) : Int) := wrap_nat1 (by omega)
        have ht := idN_take hlt
        by_cases hr : rightC (c.kid i) = true
        · have hnx : ∀ j, j < i + 1 → rightC (c.kid j) = true := fun j hj => by
            rcases Nat.lt_succ_iff_lt_or_eq.1 hj with hj | rfl
            · exact hall j hj
            · exact hr
          by_cases h1k : (c.kid i).kind = 1
          · have b1 : ((c.kid i).kind == 1) = true := by simp [h1k]
            rw [if_pos h1k] at ht
            have h := True.intro
            repeat' (first
             | (with_reducible first | apply bA | apply bB | apply bC | apply bD | apply bE | apply bF) <;> intro h
             | ((first | refine goCall_norm ?_ | refine goDCall_norm ?_); simp only [AV.norm, AV.normL, W2, W2C, hlt, mapC_kid hlt, hr, b1, hw]; first | refine goCall_p (ih _ (cokid_mem hlt)) (.inl rfl) ?_ | refine goDCall_p (ih _ (cokid_mem hlt)) (.inl rfl) ?_)
             | skip) <;> simp only [h, ↓upd_eq, ↓envL_cons, WZ, reduceIte, reduceEqDiff, reduceAdd, reduceLT, reduceLeDiff, reduceCtorEq, reduceMul, reducePow, W1, W1C, hlt, mapC_kid hlt, hr, b1, hw]
            refine ⟨i + 1, ⟨hlt, hnx⟩, by omega, weak_drop rfl rfl rfl rfl ?_ ?_ ?_⟩ <;> simp only [List.forall_mem_cons, mem_nil_all, frz_app, ↓upd_eq, ↓envL_cons, Nat.reduceEqDiff, if_true, if_false, reduceIte, true_and, and_true, and_self, true_or, or_true, implies_true, List.not_mem_nil, false_implies, AV.bel, AV.belL, AObj.bel, AV.norm, AV.normL, Bool.and_true, Bool.true_and, decide_true, decide_eq_true_eq, List.length_cons, List.length_nil, Nat.zero_add, Nat.reduceAdd, Nat.lt_add_one, Nat.lt_add_right_iff_pos, Nat.zero_lt_succ, Nat.zero_lt_one, Nat.reduceLT, List.take_succ_cons, List.take_zero, wrap_succ hlt hmax, ht, mapC_bel, AV.belL, List.length_map, AObj.bel]
          · have b1 : ((c.kid i).kind == 1) = false := by simp [h1k]
            simp only [if_neg h1k, Nat.add_zero] at ht
            have h := True.intro
            repeat' (first
             | (with_reducible first | apply bA | apply bB | apply bC | apply bD | apply bE | apply bF) <;> intro h
             | ((first | refine goCall_norm ?_ | refine goDCall_norm ?_); simp only [AV.norm, AV.normL, W2, W2C, hlt, mapC_kid hlt, hr, b1, hw]; first | refine goCall_p (ih _ (cokid_mem hlt)) (.inl rfl) ?_ | refine goDCall_p (ih _ (cokid_mem hlt)) (.inl rfl) ?_)
             | skip) <;> simp only [h, ↓upd_eq, ↓envL_cons, WZ, reduceIte, reduceEqDiff, reduceAdd, reduceLT, reduceLeDiff, reduceCtorEq, reduceMul, reducePow, W1, W1C, hlt, mapC_kid hlt, hr, b1, hw]
            refine ⟨i + 1, ⟨hlt, hnx⟩, by omega, weak_drop rfl rfl rfl rfl ?_ ?_ ?_⟩ <;> simp only [List.forall_mem_cons, mem_nil_all, frz_app, ↓upd_eq, ↓envL_cons, Nat.reduceEqDiff, if_true, if_false, reduceIte, true_and, and_true, and_self, true_or, or_true, implies_true, List.not_mem_nil, false_implies, AV.bel, AV.belL, AObj.bel, AV.norm, AV.normL, Bool.and_true, Bool.true_and, decide_true, decide_eq_true_eq, List.length_cons, List.length_nil, Nat.zero_add, Nat.reduceAdd, Nat.lt_add_one, Nat.lt_add_right_iff_pos, Nat.zero_lt_succ, Nat.zero_lt_one, Nat.reduceLT, List.take_succ_cons, List.take_zero, wrap_succ hlt hmax, ht, mapC_bel, AV.belL, List.length_map, AObj.bel]
        · have hr' : rightC (c.kid i) = false := by simpa using hr
          have h := True.intro
          repeat' (first
           | (with_reducible first | apply bA | apply bB | apply bC | apply bD | apply bE | apply bF) <;> intro h
           | ((first | refine goCall_norm ?_ | refine goDCall_norm ?_); simp only [AV.norm, AV.normL, W2, W2C, hlt, mapC_kid hlt, hr']; first | refine goCall_p (ih _ (cokid_mem hlt)) (.inl rfl) ?_ | refine goDCall_p (ih _ (cokid_mem hlt)) (.inl rfl) ?_)
           | skip) <;> simp only [h, ↓upd_eq, ↓envL_cons, WZ, reduceIte, reduceEqDiff, reduceAdd, reduceLT, reduceLeDiff, reduceCtorEq, reduceMul, reducePow, W1, W1C, hlt, mapC_kid hlt, hr']
          exact (hfalse i hlt hr').symm
      · have hi' : i = c.kids.length := by omega
        subst hi'
        have h := True.intro
        repeat' (first
         | (with_reducible first | apply bA | apply bB | apply bC | apply bD | apply bE | apply bF) <;> intro h
         | skip) <;> simp only [h, ↓upd_eq, ↓envL_cons, WZ, reduceIte, reduceEqDiff, reduceAdd, reduceLT, reduceLeDiff, reduceCtorEq, reduceMul, reducePow, W1, W1C, List.take_length]
        rw [hfe, allN_true hall, Bool.and_true]
        first | (simp [h1, hk4]; done) | (simp [h1, hk4]; omega)
  · have hfe : formedB c = false := by
      simp only [formedB, Bool.and_eq_false_iff, decide_eq_false_iff_not, Bool.not_eq_false']
      by_cases g1 : c.kids.length = if c.kind = 4 then 1 else 2
      · by_cases g2 : c.head = 0
        · by_cases g3 : c.label = 0
          · have : c.neg = true := by cases hn : c.neg with
              | true => rfl
              | false => exact absurd ⟨g1, g2, g3, hn⟩ h0
            simp [this]
          · simp [g3]
        · simp [g2]
      · simp [g1]
    rw [hfe]
    have hx : ∀ n : Int, (n = if c.kind = 4 then 1 else 2) → ((c.kids.length : Int) != n) = false → (c.head != 0) = false → (c.label != 0) = false → c.neg = false → False := fun n hn g1 g2 g3 g4 => by
      refine h0 ⟨?_, by simpa using g2, by simpa using g3, g4⟩
      simp only [bne_eq_false_iff_eq] at g1
      split <;> simp_all <;> omega
    by_cases hk4 : c.kind = 4
    · have b1 : (c.kind == 4) = true := by simp [hk4]
      refine pcalls_text C_ok Try.func112 rfl (by decide) (Nat.le_of_ble_eq_true rfl) (by decide) rfl fun ok H => ?_
      rw [Try.results112]
      have h := True.intro
      repeat' (first
       | (with_reducible first | apply bA | apply bB | apply bC | apply bD | apply bE | apply bF) <;> intro h
       | skip) <;> simp only [h, ↓upd_eq, ↓envL_cons, WZ, reduceIte, reduceEqDiff, reduceAdd, reduceLT, reduceLeDiff, reduceCtorEq, reduceMul, reducePow, W1, W1C, b1]
      all_goals exact (hx 1 (by rw [if_pos hk4]) (by assumption) (by assumption) (by assumption) (by assumption)).elim
    · have b1 : (c.kind == 4) = false := by simp [hk4]
      refine pcalls_text C_ok Try.func112 rfl (by decide) (Nat.le_of_ble_eq_true rfl) (by decide) rfl fun ok H => ?_
      rw [Try.results112]
      have h := True.intro
      repeat' (first
       | (with_reducible first | apply bA | apply bB | apply bC | apply bD | apply bE | apply bF) <;> intro h
       | skip) <;> simp only [h, ↓upd_eq, ↓envL_cons, WZ, reduceIte, reduceEqDiff, reduceAdd, reduceLT, reduceLeDiff, reduceCtorEq, reduceMul, reducePow, W1, W1C, b1]
      all_goals exact (hx 2 (by rw [if_neg hk4]) (by assumption) (by assumption) (by assumption) (by assumption)).elim

end Go.Proofs.Ytofogicgnldfhaa
end

section
/- What coercions are right: by Kind. No condition. -/
set_option linter.unusedSimpArgs false
set_option linter.unusedVariables false
set_option maxHeartbeats 4000000
set_option maxRecDepth 100000
namespace Go.Proofs.Ytofogicgnldfhaa
open Go Go.Ab

theorem right_1 {c : Co} (h : c.kind = 1) : rightC c = (decide (c.kids.length = 0) && decide (c.head = 0) && decide (c.label = 0) && !c.neg) := by
  rw [rightC_eq, okC, if_pos h]
  by_cases h0 : c.kids.length = 0
  · rw [h0, allN_zero]; simp
  · simp [h0]
theorem right_7 {c : Co} (h : c.kind = 7) : rightC c = (decide (c.kids.length = 0) && decide (c.head = 0) && labelOK c.label) := by
  rw [rightC_eq, okC, if_neg (by omega), if_pos h]
  by_cases h0 : c.kids.length = 0
  · rw [h0, allN_zero]; simp
  · simp [h0]
theorem allN_one (g : Nat → Bool) : allN 1 g = g 0 := by rw [allN_succ, allN_zero, Bool.and_true]
theorem right_5 {c : Co} (h : c.kind = 5) : rightC c = (decide (c.kids.length = 1) && headK c.head && decide (c.label = 0) && !c.neg && within (c.kid 0) c.head) := by
  rw [rightC_eq, okC, if_neg (by omega), if_neg (by omega), if_pos h]
  by_cases h0 : c.kids.length = 1
  · rw [h0, allN_one, within]; simp [Bool.and_assoc]
  · simp [h0]
theorem right_6 {c : Co} (h : c.kind = 6) : rightC c = (decide (c.kids.length = 1) && headK c.head && labelOK c.label && ((decide ((c.kid 0).kind = 7) || decide ((c.kid 0).kind = 5) && decide ((c.kid 0).head = c.head)) && rightC (c.kid 0) || within (c.kid 0) c.head)) := by
  rw [rightC_eq, okC, if_neg (by omega), if_neg (by omega), if_neg (by omega), if_pos h]
  by_cases h0 : c.kids.length = 1
  · rw [h0, allN_one, within]
    cases rightC (c.kid 0) <;> simp [Bool.and_assoc]
  · simp [h0]
theorem right_0 {c : Co} (h : c.kind ≠ 1 ∧ c.kind ≠ 2 ∧ c.kind ≠ 3 ∧ c.kind ≠ 4 ∧ c.kind ≠ 5 ∧ c.kind ≠ 6 ∧ c.kind ≠ 7) : rightC c = false := by
  rw [rightC_eq, okC]
  simp [h]

end Go.Proofs.Ytofogicgnldfhaa
end

section
/- Walks: what coercions are right, whole. No condition. -/
set_option linter.unusedSimpArgs false
set_option linter.unusedVariables false
set_option maxHeartbeats 4000000
set_option maxRecDepth 100000
namespace Go.Proofs.Ytofogicgnldfhaa
open Go Go.Ab
open Nat (reduceEqDiff reduceAdd reduceLT reduceLeDiff reduceMul reducePow)
attribute [local irreducible] PCalls ACalls CallK GoCall GoDCall GoIf GoGb GoDGb GoO GoD GoX GoDX GoG GoDG GoGv GoDGv Go ALoop

theorem cright_step (c : Co) (ih : ∀ x ∈ c.kids, PCalls Try.prog 95 [embC x] (.bool (rightC x))) : PCalls Try.prog 95 [embC c] (.bool (rightC c)) := by
  by_cases k1 : c.kind = 1
  · have b1 : (c.kind == 1) = true := by simp [k1]
    rw [right_1 k1]
    refine pcalls_text C_ok Try.func95 rfl (by decide) (Nat.le_of_ble_eq_true rfl) (by decide) rfl fun ok H => ?_
    rw [Try.results95]
    have h := True.intro
    repeat' (first
     | (with_reducible first | apply bA | apply bB | apply bC | apply bD | apply bE | apply bF) <;> intro h
     | refine go_draw (id := 7) C_ok (fun _ => trivial) mixed 0 Try.f95.ntmps rfl (by kernel_rfl) (by decide) ?_
     | skip) <;> simp only [h, ↓upd_eq, ↓envL_cons, WZ, reduceIte, reduceEqDiff, reduceAdd, reduceLT, reduceLeDiff, reduceCtorEq, reduceMul, reducePow, W1, W1C, b1]
    all_goals (simp_all <;> (try omega))
  have b1 : (c.kind == 1) = false := by simp [k1]
  by_cases k7 : c.kind = 7
  · have b7 : (c.kind == 7) = true := by simp [k7]
    rw [right_7 k7]
    refine pcalls_text C_ok Try.func95 rfl (by decide) (Nat.le_of_ble_eq_true rfl) (by decide) rfl fun ok H => ?_
    rw [Try.results95]
    have h := True.intro
    repeat' (first
     | (with_reducible first | apply bA | apply bB | apply bC | apply bD | apply bE | apply bF) <;> intro h
     | ((first | refine goCall_norm ?_ | refine goDCall_norm ?_); simp only [AV.norm, AV.normL, W2, W2C, b1, b7]; first | refine goCall_p (label_ok _) (.inl rfl) ?_ | refine goDCall_p (label_ok _) (.inl rfl) ?_)
     | refine go_draw (id := 7) C_ok (fun _ => trivial) mixed 0 Try.f95.ntmps rfl (by kernel_rfl) (by decide) ?_
     | skip) <;> simp only [h, ↓upd_eq, ↓envL_cons, WZ, reduceIte, reduceEqDiff, reduceAdd, reduceLT, reduceLeDiff, reduceCtorEq, reduceMul, reducePow, W1, W1C, b1, b7]
    all_goals (simp_all <;> (try omega))
  have b7 : (c.kind == 7) = false := by simp [k7]
  by_cases k5 : c.kind = 5
  · have b5 : (c.kind == 5) = true := by simp [k5]
    rw [right_5 k5]
    by_cases hl : c.kids.length = 1
    · have h0 : 0 < c.kids.length := by omega
      have cw := within_of _ c.head (ih _ (cokid_mem h0))
      have el : ((c.kids.length : Int) == 1) = true := by simp [hl]
      refine pcalls_text C_ok Try.func95 rfl (by decide) (Nat.le_of_ble_eq_true rfl) (by decide) rfl fun ok H => ?_
      rw [Try.results95]
      have h := True.intro
      repeat' (first
       | (with_reducible first | apply bA | apply bB | apply bC | apply bD | apply bE | apply bF) <;> intro h
       | ((first | refine goCall_norm ?_ | refine goDCall_norm ?_); simp only [AV.norm, AV.normL, W2, W2C, Go.Ab.W3, Int.reduceAdd, Int.reduceLT, Int.reduceToNat, Int.reduceBEq, Int.reduceBNe, Int.reduceLE, b1, b7, b5, hl, mapC_kid h0]; first | refine goCall_p (isHead_ok _) (.inl rfl) ?_ | refine goCall_p (cw) (.inl rfl) ?_ | refine goDCall_p (isHead_ok _) (.inl rfl) ?_ | refine goDCall_p (cw) (.inl rfl) ?_)
       | refine go_draw (id := 7) C_ok (fun _ => trivial) mixed 0 Try.f95.ntmps rfl (by kernel_rfl) (by decide) ?_
       | refine goRound ?_ C_ok Try.f95.ntmps rfl (by decide)
       | skip) <;> simp only [h, ↓upd_eq, ↓envL_cons, WZ, reduceIte, reduceEqDiff, reduceAdd, reduceLT, reduceLeDiff, reduceCtorEq, reduceMul, reducePow, W1, W1C, Go.Ab.W3, Int.reduceAdd, Int.reduceLT, Int.reduceToNat, Int.reduceBEq, Int.reduceBNe, Int.reduceLE, b1, b7, b5, hl, mapC_kid h0, cutNormal_normal]
      all_goals (simp_all <;> (try omega))
    · have el : ((c.kids.length : Int) == 1) = false := by simp; omega
      refine pcalls_text C_ok Try.func95 rfl (by decide) (Nat.le_of_ble_eq_true rfl) (by decide) rfl fun ok H => ?_
      rw [Try.results95]
      have h := True.intro
      repeat' (first
       | (with_reducible first | apply bA | apply bB | apply bC | apply bD | apply bE | apply bF) <;> intro h
       | refine go_draw (id := 7) C_ok (fun _ => trivial) mixed 0 Try.f95.ntmps rfl (by kernel_rfl) (by decide) ?_
       | skip) <;> simp only [h, ↓upd_eq, ↓envL_cons, WZ, reduceIte, reduceEqDiff, reduceAdd, reduceLT, reduceLeDiff, reduceCtorEq, reduceMul, reducePow, W1, W1C, b1, b7, b5, el]
      all_goals (simp_all <;> (try omega))
  have b5 : (c.kind == 5) = false := by simp [k5]
  by_cases k6 : c.kind = 6
  · have b6 : (c.kind == 6) = true := by simp [k6]
    rw [right_6 k6]
    by_cases hl : c.kids.length = 1
    · have h0 : 0 < c.kids.length := by omega
      have cr := ih _ (cokid_mem h0)
      have cw := within_of _ c.head (ih _ (cokid_mem h0))
      have el : ((c.kids.length : Int) != 1) = false := by simp [hl]
      refine pcalls_text C_ok Try.func95 rfl (by decide) (Nat.le_of_ble_eq_true rfl) (by decide) rfl fun ok H => ?_
      rw [Try.results95]
      have h := True.intro
      repeat' (first
       | (with_reducible first | apply bA | apply bB | apply bC | apply bD | apply bE | apply bF) <;> intro h
       | ((first | refine goCall_norm ?_ | refine goDCall_norm ?_); simp only [AV.norm, AV.normL, W2, W2C, Go.Ab.W3, Int.reduceAdd, Int.reduceLT, Int.reduceToNat, Int.reduceBEq, Int.reduceBNe, Int.reduceLE, b1, b7, b5, b6, hl, mapC_kid h0]; first | refine goCall_p (isHead_ok _) (.inl rfl) ?_ | refine goCall_p (label_ok _) (.inl rfl) ?_ | refine goCall_p (cr) (.inl rfl) ?_ | refine goCall_p (cw) (.inl rfl) ?_ | refine goDCall_p (isHead_ok _) (.inl rfl) ?_ | refine goDCall_p (label_ok _) (.inl rfl) ?_ | refine goDCall_p (cr) (.inl rfl) ?_ | refine goDCall_p (cw) (.inl rfl) ?_)
       | refine go_draw (id := 7) C_ok (fun _ => trivial) mixed 0 Try.f95.ntmps rfl (by kernel_rfl) (by decide) ?_
       | refine goRound ?_ C_ok Try.f95.ntmps rfl (by decide)
       | skip) <;> simp only [h, ↓upd_eq, ↓envL_cons, WZ, reduceIte, reduceEqDiff, reduceAdd, reduceLT, reduceLeDiff, reduceCtorEq, reduceMul, reducePow, W1, W1C, Go.Ab.W3, Int.reduceAdd, Int.reduceLT, Int.reduceToNat, Int.reduceBEq, Int.reduceBNe, Int.reduceLE, b1, b7, b5, b6, hl, mapC_kid h0, cutNormal_normal]
      all_goals (simp_all <;> (try omega))
    · have el : ((c.kids.length : Int) != 1) = true := by simp; omega
      refine pcalls_text C_ok Try.func95 rfl (by decide) (Nat.le_of_ble_eq_true rfl) (by decide) rfl fun ok H => ?_
      rw [Try.results95]
      have h := True.intro
      repeat' (first
       | (with_reducible first | apply bA | apply bB | apply bC | apply bD | apply bE | apply bF) <;> intro h
       | refine go_draw (id := 7) C_ok (fun _ => trivial) mixed 0 Try.f95.ntmps rfl (by kernel_rfl) (by decide) ?_
       | skip) <;> simp only [h, ↓upd_eq, ↓envL_cons, WZ, reduceIte, reduceEqDiff, reduceAdd, reduceLT, reduceLeDiff, reduceCtorEq, reduceMul, reducePow, W1, W1C, b1, b7, b5, b6, el]
      all_goals (simp_all <;> (try omega))
  have b6 : (c.kind == 6) = false := by simp [k6]
  by_cases kf : c.kind = 2 ∨ c.kind = 3 ∨ c.kind = 4
  · rw [right_formed kf]
    have cf := formed_of c kf ih
    refine pcalls_text C_ok Try.func95 rfl (by decide) (Nat.le_of_ble_eq_true rfl) (by decide) rfl fun ok H => ?_
    rw [Try.results95]
    have h := True.intro
    repeat' (first
     | (with_reducible first | apply bA | apply bB | apply bC | apply bD | apply bE | apply bF) <;> intro h
     | ((first | refine goCall_norm ?_ | refine goDCall_norm ?_); simp only [AV.norm, AV.normL, W2, W2C, b1, b7, b5, b6]; first | refine goCall_p (cf) (.inl rfl) ?_ | refine goDCall_p (cf) (.inl rfl) ?_)
     | refine go_draw (id := 7) C_ok (fun _ => trivial) mixed 0 Try.f95.ntmps rfl (by kernel_rfl) (by decide) ?_
     | skip) <;> simp only [h, ↓upd_eq, ↓envL_cons, WZ, reduceIte, reduceEqDiff, reduceAdd, reduceLT, reduceLeDiff, reduceCtorEq, reduceMul, reducePow, W1, W1C, b1, b7, b5, b6]
    all_goals (simp_all <;> (try omega))
  · rw [right_0 ⟨k1, by omega, by omega, by omega, k5, k6, k7⟩]
    refine pcalls_text C_ok Try.func95 rfl (by decide) (Nat.le_of_ble_eq_true rfl) (by decide) rfl fun ok H => ?_
    rw [Try.results95]
    have h := True.intro
    repeat' (first
     | (with_reducible first | apply bA | apply bB | apply bC | apply bD | apply bE | apply bF) <;> intro h
     | refine go_draw (id := 7) C_ok (fun _ => trivial) mixed 0 Try.f95.ntmps rfl (by kernel_rfl) (by decide) ?_
     | skip) <;> simp only [h, ↓upd_eq, ↓envL_cons, WZ, reduceIte, reduceEqDiff, reduceAdd, reduceLT, reduceLeDiff, reduceCtorEq, reduceMul, reducePow, W1, W1C, b1, b7, b5, b6]
    all_goals (simp_all <;> (try omega))
theorem cright_ok (c : Co) : PCalls Try.prog 95 [embC c] (.bool (rightC c)) := Co.ind cright_step c
theorem ccheck_ok (c : Co) : PCalls Try.prog 69 [embC c] (.int .i64 (if rightC c = true then 0 else 1)) := by
  refine pcalls_text C_ok Try.func69 rfl (by decide) (Nat.le_of_ble_eq_true rfl) (by decide) rfl fun ok H => ?_
  rw [Try.results69]
  have h := True.intro
  repeat' (first
   | (with_reducible first | apply bA | apply bB | apply bC | apply bD | apply bE | apply bF) <;> intro h
   | ((first | refine goCall_norm ?_ | refine goDCall_norm ?_); simp only [AV.norm, AV.normL, W2, W2C]; first | refine goCall_p (cright_ok _) (.inl rfl) ?_ | refine goDCall_p (cright_ok _) (.inl rfl) ?_)
   | skip) <;> simp only [h, ↓upd_eq, ↓envL_cons, WZ, reduceIte, reduceEqDiff, reduceAdd, reduceLT, reduceLeDiff, reduceCtorEq, reduceMul, reducePow, W1, W1C]
  all_goals simp_all
end Go.Proofs.Ytofogicgnldfhaa
end

section
/- Walks: what coercions are right, by the reference. No condition. -/
set_option linter.unusedSimpArgs false
set_option linter.unusedVariables false
set_option maxHeartbeats 4000000
set_option maxRecDepth 100000
namespace Go.Proofs.Ytofogicgnldfhaa
open Go Go.Ab
open Nat (reduceEqDiff reduceAdd reduceLT reduceLeDiff reduceMul reducePow)
attribute [local irreducible] PCalls ACalls CallK GoCall GoDCall GoIf GoGb GoDGb GoO GoD GoX GoDX GoG GoDG GoGv GoDGv Go ALoop


theorem rright_step' (c : Co) (ih : ∀ x ∈ c.kids, PCalls Try.prog 28 [embC x] (.bool (rightC x))) : PCalls Try.prog 28 [embC c] (.bool (rightC c)) := by
  have hlab : (decide (c.label ≥ 0) && decide (c.label ≤ 1048576)) = labelOK c.label := rfl
  by_cases k1 : c.kind = 1
  · have b1 : (c.kind == 1) = true := by simp [k1]
    rw [right_1 k1]
    refine pcalls_text C_ok Try.func28 rfl (by decide) (Nat.le_of_ble_eq_true rfl) (by decide) rfl fun ok H => ?_
    rw [Try.results28]
    repeat' first
     | (apply goGb_op (fun _ _ => rfl); (· intro hb; simp only [hb, ↓upd_eq, ↓envL_cons, WZ, reduceIte, reduceEqDiff, reduceAdd, reduceLT, reduceLeDiff, reduceCtorEq, reduceMul, reducePow, W1, W1C, ite_tt, ite_tf, ite_and, ite_or, b1]; exact ⟨rfl, trivial⟩))
     | (apply goDGb_op (fun _ _ => rfl); (· intro hb; simp only [hb, ↓upd_eq, ↓envL_cons, WZ, reduceIte, reduceEqDiff, reduceAdd, reduceLT, reduceLeDiff, reduceCtorEq, reduceMul, reducePow, W1, W1C, ite_tt, ite_tf, ite_and, ite_or, b1]; exact ⟨rfl, trivial⟩))
     | (with_reducible first | apply bA | apply bB | apply bC | apply bD | apply bE | apply bF) <;> intro h <;> try simp only [h, ↓upd_eq, ↓envL_cons, WZ, reduceIte, reduceEqDiff, reduceAdd, reduceLT, reduceLeDiff, reduceCtorEq, reduceMul, reducePow, W1, W1C, ite_tt, ite_tf, ite_and, ite_or, b1]
     | refine go_draw (id := 9) C_ok (fun _ => trivial) mixed 0 Try.f28.ntmps rfl (by kernel_rfl) (by decide) ?_
     | refine go_draw (id := 16) C_ok (fun _ => trivial) mixed 0 Try.f28.ntmps rfl (by kernel_rfl) (by decide) ?_
     | simp only [↓upd_eq, ↓envL_cons, WZ, reduceIte, reduceEqDiff, reduceAdd, reduceLT, reduceLeDiff, reduceCtorEq, reduceMul, reducePow, W1, W1C, ite_tt, ite_tf, ite_and, ite_or, b1]
    all_goals (rw [Bool.eq_iff_iff]; simp only [Bool.and_eq_true, beq_iff_eq, decide_eq_true_eq, Bool.not_eq_true']; exact ⟨fun ⟨⟨⟨a, b⟩, d⟩, e⟩ => ⟨⟨⟨by omega, d⟩, a⟩, b⟩, fun ⟨⟨⟨e, d⟩, a⟩, b⟩ => ⟨⟨⟨a, b⟩, d⟩, by omega⟩⟩)
  have b1 : (c.kind == 1) = false := by simp [k1]
  by_cases k7 : c.kind = 7
  · have b7 : (c.kind == 7) = true := by simp [k7]
    rw [right_7 k7]
    refine pcalls_text C_ok Try.func28 rfl (by decide) (Nat.le_of_ble_eq_true rfl) (by decide) rfl fun ok H => ?_
    rw [Try.results28]
    repeat' first
     | (apply goGb_op (fun _ _ => rfl); (· intro hb; simp only [hb, ↓upd_eq, ↓envL_cons, WZ, reduceIte, reduceEqDiff, reduceAdd, reduceLT, reduceLeDiff, reduceCtorEq, reduceMul, reducePow, W1, W1C, ite_tt, ite_tf, ite_and, ite_or, b1, b7]; exact ⟨rfl, trivial⟩))
     | (apply goDGb_op (fun _ _ => rfl); (· intro hb; simp only [hb, ↓upd_eq, ↓envL_cons, WZ, reduceIte, reduceEqDiff, reduceAdd, reduceLT, reduceLeDiff, reduceCtorEq, reduceMul, reducePow, W1, W1C, ite_tt, ite_tf, ite_and, ite_or, b1, b7]; exact ⟨rfl, trivial⟩))
     | (with_reducible first | apply bA | apply bB | apply bC | apply bD | apply bE | apply bF) <;> intro h <;> try simp only [h, ↓upd_eq, ↓envL_cons, WZ, reduceIte, reduceEqDiff, reduceAdd, reduceLT, reduceLeDiff, reduceCtorEq, reduceMul, reducePow, W1, W1C, ite_tt, ite_tf, ite_and, ite_or, b1, b7]
     | refine go_draw (id := 9) C_ok (fun _ => trivial) mixed 0 Try.f28.ntmps rfl (by kernel_rfl) (by decide) ?_
     | refine go_draw (id := 16) C_ok (fun _ => trivial) mixed 0 Try.f28.ntmps rfl (by kernel_rfl) (by decide) ?_
     | simp only [↓upd_eq, ↓envL_cons, WZ, reduceIte, reduceEqDiff, reduceAdd, reduceLT, reduceLeDiff, reduceCtorEq, reduceMul, reducePow, W1, W1C, ite_tt, ite_tf, ite_and, ite_or, b1, b7]
    all_goals (rw [Bool.eq_iff_iff]; simp only [Bool.and_eq_true, beq_iff_eq, decide_eq_true_eq, labelOK, ge_iff_le]; omega)
  have b7 : (c.kind == 7) = false := by simp [k7]
  by_cases k5 : c.kind = 5
  · have b5 : (c.kind == 5) = true := by simp [k5]
    rw [right_5 k5]
    by_cases hl : c.kids.length = 1
    · have h0 : 0 < c.kids.length := by omega
      have cw := plain_of _ c.head (ih _ (cokid_mem h0))
      have el : ((c.kids.length : Int) == 1) = true := by simp [hl]
      refine pcalls_text C_ok Try.func28 rfl (by decide) (Nat.le_of_ble_eq_true rfl) (by decide) rfl fun ok H => ?_
      rw [Try.results28]
      have h := True.intro
      repeat' (first
       | (with_reducible first | apply bA | apply bB | apply bC | apply bD | apply bE | apply bF) <;> intro h
       | ((first | refine goCall_norm ?_ | refine goDCall_norm ?_); simp only [AV.norm, AV.normL, W2, W2C, Go.Ab.W3, Int.reduceAdd, Int.reduceLT, Int.reduceToNat, Int.reduceBEq, Int.reduceBNe, Int.reduceLE, b1, b7, b5, hl, mapC_kid h0]; first | refine goCall_p (rhead_ok _) (.inl rfl) ?_ | refine goCall_p (cw) (.inl rfl) ?_ | refine goDCall_p (rhead_ok _) (.inl rfl) ?_ | refine goDCall_p (cw) (.inl rfl) ?_)
       | refine go_draw (id := 9) C_ok (fun _ => trivial) mixed 0 Try.f28.ntmps rfl (by kernel_rfl) (by decide) ?_
       | refine go_draw (id := 16) C_ok (fun _ => trivial) mixed 0 Try.f28.ntmps rfl (by kernel_rfl) (by decide) ?_
       | refine goRound ?_ C_ok Try.f28.ntmps rfl (by decide)
       | skip) <;> simp only [h, ↓upd_eq, ↓envL_cons, WZ, reduceIte, reduceEqDiff, reduceAdd, reduceLT, reduceLeDiff, reduceCtorEq, reduceMul, reducePow, W1, W1C, Go.Ab.W3, Int.reduceAdd, Int.reduceLT, Int.reduceToNat, Int.reduceBEq, Int.reduceBNe, Int.reduceLE, b1, b7, b5, hl, mapC_kid h0, cutNormal_normal]
      all_goals (simp_all <;> (try omega))
    · have el : ((c.kids.length : Int) == 1) = false := by simp; omega
      refine pcalls_text C_ok Try.func28 rfl (by decide) (Nat.le_of_ble_eq_true rfl) (by decide) rfl fun ok H => ?_
      rw [Try.results28]
      have h := True.intro
      repeat' (first
       | (with_reducible first | apply bA | apply bB | apply bC | apply bD | apply bE | apply bF) <;> intro h
       | ((first | refine goCall_norm ?_ | refine goDCall_norm ?_); simp only [AV.norm, AV.normL, W2, W2C, b1, b7, b5, el]; first | refine goCall_p (rhead_ok _) (.inl rfl) ?_ | refine goDCall_p (rhead_ok _) (.inl rfl) ?_)
       | refine go_draw (id := 9) C_ok (fun _ => trivial) mixed 0 Try.f28.ntmps rfl (by kernel_rfl) (by decide) ?_
       | refine go_draw (id := 16) C_ok (fun _ => trivial) mixed 0 Try.f28.ntmps rfl (by kernel_rfl) (by decide) ?_
       | skip) <;> simp only [h, ↓upd_eq, ↓envL_cons, WZ, reduceIte, reduceEqDiff, reduceAdd, reduceLT, reduceLeDiff, reduceCtorEq, reduceMul, reducePow, W1, W1C, b1, b7, b5, el]
      all_goals (simp_all <;> (try omega))
  have b5 : (c.kind == 5) = false := by simp [k5]
  by_cases k6 : c.kind = 6
  · have b6 : (c.kind == 6) = true := by simp [k6]
    rw [right_6 k6]
    by_cases hl : c.kids.length = 1
    · have h0 : 0 < c.kids.length := by omega
      have cr := ih _ (cokid_mem h0)
      have cw := plain_of _ c.head (ih _ (cokid_mem h0))
      have el : ((c.kids.length : Int) != 1) = false := by simp [hl]
      refine pcalls_text C_ok Try.func28 rfl (by decide) (Nat.le_of_ble_eq_true rfl) (by decide) rfl fun ok H => ?_
      rw [Try.results28]
      have h := True.intro
      repeat' (first
       | (with_reducible first | apply bA | apply bB | apply bC | apply bD | apply bE | apply bF) <;> intro h
       | ((first | refine goCall_norm ?_ | refine goDCall_norm ?_); simp only [AV.norm, AV.normL, W2, W2C, Go.Ab.W3, Int.reduceAdd, Int.reduceLT, Int.reduceToNat, Int.reduceBEq, Int.reduceBNe, Int.reduceLE, b1, b7, b5, b6, hl, mapC_kid h0]; first | refine goCall_p (rhead_ok _) (.inl rfl) ?_ | refine goCall_p (cr) (.inl rfl) ?_ | refine goCall_p (cw) (.inl rfl) ?_ | refine goDCall_p (rhead_ok _) (.inl rfl) ?_ | refine goDCall_p (cr) (.inl rfl) ?_ | refine goDCall_p (cw) (.inl rfl) ?_)
       | refine go_draw (id := 9) C_ok (fun _ => trivial) mixed 0 Try.f28.ntmps rfl (by kernel_rfl) (by decide) ?_
       | refine go_draw (id := 16) C_ok (fun _ => trivial) mixed 0 Try.f28.ntmps rfl (by kernel_rfl) (by decide) ?_
       | refine goRound ?_ C_ok Try.f28.ntmps rfl (by decide)
       | skip) <;> simp only [h, ↓upd_eq, ↓envL_cons, WZ, reduceIte, reduceEqDiff, reduceAdd, reduceLT, reduceLeDiff, reduceCtorEq, reduceMul, reducePow, W1, W1C, Go.Ab.W3, Int.reduceAdd, Int.reduceLT, Int.reduceToNat, Int.reduceBEq, Int.reduceBNe, Int.reduceLE, b1, b7, b5, b6, hl, mapC_kid h0, cutNormal_normal]
      all_goals (simp_all [labelOK] <;> (try omega))
    · have el : ((c.kids.length : Int) != 1) = true := by simp; omega
      refine pcalls_text C_ok Try.func28 rfl (by decide) (Nat.le_of_ble_eq_true rfl) (by decide) rfl fun ok H => ?_
      rw [Try.results28]
      have h := True.intro
      repeat' (first
       | (with_reducible first | apply bA | apply bB | apply bC | apply bD | apply bE | apply bF) <;> intro h
       | ((first | refine goCall_norm ?_ | refine goDCall_norm ?_); simp only [AV.norm, AV.normL, W2, W2C, b1, b7, b5, b6, el]; first | refine goCall_p (rhead_ok _) (.inl rfl) ?_ | refine goDCall_p (rhead_ok _) (.inl rfl) ?_)
       | refine go_draw (id := 9) C_ok (fun _ => trivial) mixed 0 Try.f28.ntmps rfl (by kernel_rfl) (by decide) ?_
       | refine go_draw (id := 16) C_ok (fun _ => trivial) mixed 0 Try.f28.ntmps rfl (by kernel_rfl) (by decide) ?_
       | skip) <;> simp only [h, ↓upd_eq, ↓envL_cons, WZ, reduceIte, reduceEqDiff, reduceAdd, reduceLT, reduceLeDiff, reduceCtorEq, reduceMul, reducePow, W1, W1C, b1, b7, b5, b6, el]
      all_goals (simp_all <;> (try omega))
  have b6 : (c.kind == 6) = false := by simp [k6]
  by_cases kf : c.kind = 2 ∨ c.kind = 3 ∨ c.kind = 4
  · rw [right_formed kf]
    by_cases h0 : (c.kids.length = if c.kind = 4 then 1 else 2) ∧ c.head = 0 ∧ c.label = 0 ∧ c.neg = false
    · obtain ⟨h1, h2, h3, h4⟩ := h0
      have b2 : (c.head != 0) = false := by simp [h2]
      have hfe : formedB c = (decide (idN c.kids < c.kids.length) && allN c.kids.length fun i => rightC (c.kid i)) := by
        simp only [formedB, h1, h2, h3, h4, decide_true, Bool.true_and, Bool.not_false]
      have hmax : c.kids.length ≤ maxLen := by rw [maxLen_val, h1]; split <;> omega
      have bf : (former c.kind == 0) = false := by rcases kf with h | h | h <;> rw [h] <;> rfl
      have ba : ((c.kids.length : Int) != arity (former c.kind)) = false := by
        rw [h1]; rcases kf with h | h | h <;> rw [h] <;> rfl
      have h3' : (c.label == 0) = true := by simp [h3]
      refine pcalls_text C_ok Try.func28 rfl (by decide) (Nat.le_of_ble_eq_true rfl) (by decide) rfl fun ok H => ?_
      rw [Try.results28]
      have h := True.intro
      repeat' (first
       | (with_reducible first | apply bA | apply bB | apply bC | apply bD | apply bE | apply bF) <;> intro h
       | ((first | refine goCall_norm ?_ | refine goDCall_norm ?_); simp only [AV.norm, AV.normL, W2, W2C, b1, b7, b5, b6, b2, h3', h3, h4, bf, ba]; first | refine goCall_p (rFormer_ok _) (.inl rfl) ?_ | refine goCall_p (kids_ok _) (.inl rfl) ?_ | refine goDCall_p (rFormer_ok _) (.inl rfl) ?_ | refine goDCall_p (kids_ok _) (.inl rfl) ?_)
       | refine go_draw (id := 9) C_ok (fun _ => trivial) mixed 0 Try.f28.ntmps rfl (by kernel_rfl) (by decide) ?_
       | refine go_draw (id := 16) C_ok (fun _ => trivial) mixed 0 Try.f28.ntmps rfl (by kernel_rfl) (by decide) ?_
       | skip) <;> simp only [h, ↓upd_eq, ↓envL_cons, WZ, reduceIte, reduceEqDiff, reduceAdd, reduceLT, reduceLeDiff, reduceCtorEq, reduceMul, reducePow, W1, W1C, b1, b7, b5, b6, b2, h3', h3, h4, bf, ba]
      all_goals first
        | exact absurd (Int.le_refl 0) (by assumption)
        | skip
      refine aloop_trim [7, 8, 1] ?_
      simp only [List.map_cons, List.map_nil, ↓upd_eq, ↓envL_cons, WZ, reduceIte, reduceEqDiff, reduceAdd, reduceLT, reduceLeDiff, reduceCtorEq, reduceMul, reducePow, W1, W1C]
      refine goLoopS 2 (fun i : Nat => [(7, .bool (decide (idN (c.kids.take i) < (c.kids.take i).length))), (8, .int .i64 i)]) (fun _ => _) (fun i => i ≤ c.kids.length ∧ ∀ j, j < i → rightC (c.kid j) = true) (fun i => c.kids.length - i) C_ok 0 rfl rfl ⟨Nat.zero_le _, by simp⟩ (by decide) ?_
      rintro i ⟨hi, hall⟩
      simp only [List.drop_succ_cons, List.drop_zero, List.cons_append, List.nil_append]
      simp only [↓upd_eq, ↓envL_cons, WZ, reduceIte, reduceEqDiff, reduceAdd, reduceLT, reduceLeDiff, reduceCtorEq, reduceMul, reducePow, W1, W1C]
      refine goIf_d (fun hlt => ?_) (fun hlt => ?_)
      · have hle := idN_le (c.kids.take i)
        have ht := idN_take hlt
        have htl : (c.kids.take (i + 1)).length = (c.kids.take i).length + 1 := by simp; omega
        by_cases hr : rightC (c.kid i) = true
        · have hnx : ∀ j, j < i + 1 → rightC (c.kid j) = true := fun j hj => by
            rcases Nat.lt_succ_iff_lt_or_eq.1 hj with hj | rfl
            · exact hall j hj
            · exact hr
          by_cases hid : idN (c.kids.take i) < (c.kids.take i).length
          · have hnx2 : idN (c.kids.take (i + 1)) < (c.kids.take (i + 1)).length := by rw [ht, htl]; split <;> omega
            have h := True.intro
            repeat' (first
             | (with_reducible first | apply bA | apply bB | apply bC | apply bD | apply bE | apply bF) <;> intro h
             | ((first | refine goCall_norm ?_ | refine goDCall_norm ?_); simp only [AV.norm, AV.normL, W2, W2C, hlt, mapC_kid hlt, hr, hid]; first | refine goCall_p (ih _ (cokid_mem hlt)) (.inl rfl) ?_ | refine goDCall_p (ih _ (cokid_mem hlt)) (.inl rfl) ?_)
             | refine go_draw (id := 9) C_ok (fun _ => trivial) mixed 0 Try.f28.ntmps rfl (by kernel_rfl) (by decide) ?_
             | refine go_draw (id := 16) C_ok (fun _ => trivial) mixed 0 Try.f28.ntmps rfl (by kernel_rfl) (by decide) ?_
             | skip) <;> simp only [h, ↓upd_eq, ↓envL_cons, WZ, reduceIte, reduceEqDiff, reduceAdd, reduceLT, reduceLeDiff, reduceCtorEq, reduceMul, reducePow, W1, W1C, hlt, mapC_kid hlt, hr, hid]
            refine ⟨i + 1, ⟨hlt, hnx⟩, by omega, weak_drop rfl rfl rfl rfl ?_ ?_ ?_⟩ <;> simp only [List.forall_mem_cons, mem_nil_all, frz_app, ↓upd_eq, ↓envL_cons, Nat.reduceEqDiff, if_true, if_false, reduceIte, true_and, and_true, and_self, true_or, or_true, implies_true, List.not_mem_nil, false_implies, AV.bel, AV.belL, AObj.bel, AV.norm, AV.normL, Bool.and_true, Bool.true_and, decide_true, decide_eq_true_eq, List.length_cons, List.length_nil, Nat.zero_add, Nat.reduceAdd, Nat.lt_add_one, Nat.lt_add_right_iff_pos, Nat.zero_lt_succ, Nat.zero_lt_one, Nat.reduceLT, List.take_succ_cons, List.take_zero, wrap_succ hlt hmax, hid, hnx2, decide_false, decide_true, mapC_bel, AV.belL, List.length_map, AObj.bel]
          · by_cases h1k : (c.kid i).kind = 1
            · have hnx2 : ¬ idN (c.kids.take (i + 1)) < (c.kids.take (i + 1)).length := by rw [ht, htl, if_pos h1k]; omega
              have b1k : ((c.kid i).kind != 1) = false := by simp [h1k]
              have h := True.intro
              repeat' (first
               | (with_reducible first | apply bA | apply bB | apply bC | apply bD | apply bE | apply bF) <;> intro h
               | ((first | refine goCall_norm ?_ | refine goDCall_norm ?_); simp only [AV.norm, AV.normL, W2, W2C, hlt, mapC_kid hlt, hr, hid, b1k]; first | refine goCall_p (ih _ (cokid_mem hlt)) (.inl rfl) ?_ | refine goDCall_p (ih _ (cokid_mem hlt)) (.inl rfl) ?_)
               | refine go_draw (id := 9) C_ok (fun _ => trivial) mixed 0 Try.f28.ntmps rfl (by kernel_rfl) (by decide) ?_
               | refine go_draw (id := 16) C_ok (fun _ => trivial) mixed 0 Try.f28.ntmps rfl (by kernel_rfl) (by decide) ?_
               | skip) <;> simp only [h, ↓upd_eq, ↓envL_cons, WZ, reduceIte, reduceEqDiff, reduceAdd, reduceLT, reduceLeDiff, reduceCtorEq, reduceMul, reducePow, W1, W1C, hlt, mapC_kid hlt, hr, hid, b1k]
              refine ⟨i + 1, ⟨hlt, hnx⟩, by omega, weak_drop rfl rfl rfl rfl ?_ ?_ ?_⟩ <;> simp only [List.forall_mem_cons, mem_nil_all, frz_app, ↓upd_eq, ↓envL_cons, Nat.reduceEqDiff, if_true, if_false, reduceIte, true_and, and_true, and_self, true_or, or_true, implies_true, List.not_mem_nil, false_implies, AV.bel, AV.belL, AObj.bel, AV.norm, AV.normL, Bool.and_true, Bool.true_and, decide_true, decide_eq_true_eq, List.length_cons, List.length_nil, Nat.zero_add, Nat.reduceAdd, Nat.lt_add_one, Nat.lt_add_right_iff_pos, Nat.zero_lt_succ, Nat.zero_lt_one, Nat.reduceLT, List.take_succ_cons, List.take_zero, wrap_succ hlt hmax, hid, hnx2, decide_false, decide_true, mapC_bel, AV.belL, List.length_map, AObj.bel]
            · have hnx2 : idN (c.kids.take (i + 1)) < (c.kids.take (i + 1)).length := by rw [ht, htl, if_neg h1k]; omega
              have b1k : ((c.kid i).kind != 1) = true := by simp [h1k]
              have h := True.intro
              repeat' (first
               | (with_reducible first | apply bA | apply bB | apply bC | apply bD | apply bE | apply bF) <;> intro h
               | ((first | refine goCall_norm ?_ | refine goDCall_norm ?_); simp only [AV.norm, AV.normL, W2, W2C, hlt, mapC_kid hlt, hr, hid, b1k]; first | refine goCall_p (ih _ (cokid_mem hlt)) (.inl rfl) ?_ | refine goDCall_p (ih _ (cokid_mem hlt)) (.inl rfl) ?_)
               | refine go_draw (id := 9) C_ok (fun _ => trivial) mixed 0 Try.f28.ntmps rfl (by kernel_rfl) (by decide) ?_
               | refine go_draw (id := 16) C_ok (fun _ => trivial) mixed 0 Try.f28.ntmps rfl (by kernel_rfl) (by decide) ?_
               | skip) <;> simp only [h, ↓upd_eq, ↓envL_cons, WZ, reduceIte, reduceEqDiff, reduceAdd, reduceLT, reduceLeDiff, reduceCtorEq, reduceMul, reducePow, W1, W1C, hlt, mapC_kid hlt, hr, hid, b1k]
              refine ⟨i + 1, ⟨hlt, hnx⟩, by omega, weak_drop rfl rfl rfl rfl ?_ ?_ ?_⟩ <;> simp only [List.forall_mem_cons, mem_nil_all, frz_app, ↓upd_eq, ↓envL_cons, Nat.reduceEqDiff, if_true, if_false, reduceIte, true_and, and_true, and_self, true_or, or_true, implies_true, List.not_mem_nil, false_implies, AV.bel, AV.belL, AObj.bel, AV.norm, AV.normL, Bool.and_true, Bool.true_and, decide_true, decide_eq_true_eq, List.length_cons, List.length_nil, Nat.zero_add, Nat.reduceAdd, Nat.lt_add_one, Nat.lt_add_right_iff_pos, Nat.zero_lt_succ, Nat.zero_lt_one, Nat.reduceLT, List.take_succ_cons, List.take_zero, wrap_succ hlt hmax, hid, hnx2, decide_false, decide_true, mapC_bel, AV.belL, List.length_map, AObj.bel]
        · have hr' : rightC (c.kid i) = false := by simpa using hr
          have h := True.intro
          repeat' (first
           | (with_reducible first | apply bA | apply bB | apply bC | apply bD | apply bE | apply bF) <;> intro h
           | ((first | refine goCall_norm ?_ | refine goDCall_norm ?_); simp only [AV.norm, AV.normL, W2, W2C, hlt, mapC_kid hlt, hr']; first | refine goCall_p (ih _ (cokid_mem hlt)) (.inl rfl) ?_ | refine goDCall_p (ih _ (cokid_mem hlt)) (.inl rfl) ?_)
           | refine go_draw (id := 9) C_ok (fun _ => trivial) mixed 0 Try.f28.ntmps rfl (by kernel_rfl) (by decide) ?_
           | refine go_draw (id := 16) C_ok (fun _ => trivial) mixed 0 Try.f28.ntmps rfl (by kernel_rfl) (by decide) ?_
           | skip) <;> simp only [h, ↓upd_eq, ↓envL_cons, WZ, reduceIte, reduceEqDiff, reduceAdd, reduceLT, reduceLeDiff, reduceCtorEq, reduceMul, reducePow, W1, W1C, hlt, mapC_kid hlt, hr']
          rw [hfe, allN_false hlt hr']; simp
      · have hi' : i = c.kids.length := by omega
        subst hi'
        have h := True.intro
        repeat' (first
         | (with_reducible first | apply bA | apply bB | apply bC | apply bD | apply bE | apply bF) <;> intro h
         | refine go_draw (id := 9) C_ok (fun _ => trivial) mixed 0 Try.f28.ntmps rfl (by kernel_rfl) (by decide) ?_
         | refine go_draw (id := 16) C_ok (fun _ => trivial) mixed 0 Try.f28.ntmps rfl (by kernel_rfl) (by decide) ?_
         | skip) <;> simp only [h, ↓upd_eq, ↓envL_cons, WZ, reduceIte, reduceEqDiff, reduceAdd, reduceLT, reduceLeDiff, reduceCtorEq, reduceMul, reducePow, W1, W1C, List.take_length]
        rw [hfe, allN_true hall, Bool.and_true]
    · have hfe : formedB c = false := by
        simp only [formedB, Bool.and_eq_false_iff, decide_eq_false_iff_not, Bool.not_eq_false']
        by_cases g1 : c.kids.length = if c.kind = 4 then 1 else 2
        · by_cases g2 : c.head = 0
          · by_cases g3 : c.label = 0
            · have : c.neg = true := by cases hn : c.neg with
                | true => rfl
                | false => exact absurd ⟨g1, g2, g3, hn⟩ h0
              simp [this]
            · simp [g3]
          · simp [g2]
        · simp [g1]
      rw [hfe]
      have ha : arity (former c.kind) = if c.kind = 4 then 1 else 2 := by rcases kf with h | h | h <;> rw [h] <;> rfl
      refine pcalls_text C_ok Try.func28 rfl (by decide) (Nat.le_of_ble_eq_true rfl) (by decide) rfl fun ok H => ?_
      rw [Try.results28]
      have h := True.intro
      repeat' (first
       | (with_reducible first | apply bA | apply bB | apply bC | apply bD | apply bE | apply bF) <;> intro h
       | ((first | refine goCall_norm ?_ | refine goDCall_norm ?_); simp only [AV.norm, AV.normL, W2, W2C, b1, b7, b5, b6]; first | refine goCall_p (rFormer_ok _) (.inl rfl) ?_ | refine goCall_p (kids_ok _) (.inl rfl) ?_ | refine goDCall_p (rFormer_ok _) (.inl rfl) ?_ | refine goDCall_p (kids_ok _) (.inl rfl) ?_)
       | refine go_draw (id := 9) C_ok (fun _ => trivial) mixed 0 Try.f28.ntmps rfl (by kernel_rfl) (by decide) ?_
       | refine go_draw (id := 16) C_ok (fun _ => trivial) mixed 0 Try.f28.ntmps rfl (by kernel_rfl) (by decide) ?_
       | skip) <;> simp only [h, ↓upd_eq, ↓envL_cons, WZ, reduceIte, reduceEqDiff, reduceAdd, reduceLT, reduceLeDiff, reduceCtorEq, reduceMul, reducePow, W1, W1C, b1, b7, b5, b6]
      all_goals (refine absurd ?_ h0; rcases kf with hk | hk | hk <;> simp_all <;> (try omega))
  · rw [right_0 ⟨k1, by omega, by omega, by omega, k5, k6, k7⟩]
    have bf : (former c.kind == 0) = true := by unfold former; simp only [beq_iff_eq]; (repeat' split) <;> omega
    refine pcalls_text C_ok Try.func28 rfl (by decide) (Nat.le_of_ble_eq_true rfl) (by decide) rfl fun ok H => ?_
    rw [Try.results28]
    have h := True.intro
    repeat' (first
     | (with_reducible first | apply bA | apply bB | apply bC | apply bD | apply bE | apply bF) <;> intro h
     | ((first | refine goCall_norm ?_ | refine goDCall_norm ?_); simp only [AV.norm, AV.normL, W2, W2C, b1, b7, b5, b6, bf]; first | refine goCall_p (rFormer_ok _) (.inl rfl) ?_ | refine goDCall_p (rFormer_ok _) (.inl rfl) ?_)
     | refine go_draw (id := 9) C_ok (fun _ => trivial) mixed 0 Try.f28.ntmps rfl (by kernel_rfl) (by decide) ?_
     | refine go_draw (id := 16) C_ok (fun _ => trivial) mixed 0 Try.f28.ntmps rfl (by kernel_rfl) (by decide) ?_
     | skip) <;> simp only [h, ↓upd_eq, ↓envL_cons, WZ, reduceIte, reduceEqDiff, reduceAdd, reduceLT, reduceLeDiff, reduceCtorEq, reduceMul, reducePow, W1, W1C, b1, b7, b5, b6, bf]
theorem rrightC_ok (c : Co) : PCalls Try.prog 28 [embC c] (.bool (rightC c)) := Co.ind rright_step' c

end Go.Proofs.Ytofogicgnldfhaa
end

