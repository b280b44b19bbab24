/- Walks: the page's names. No condition. -/
import Derived.Test.YtofogicgnldfhaaZ1
import Derived.Test.YtofogicgnldfhaaPYb
set_option linter.unusedSimpArgs false
set_option linter.unusedVariables false
set_option maxHeartbeats 4000000
set_option maxRecDepth 100000
namespace Go.Proofs.Ytofogicgnldfhaa
open Go Go.Ab
open Nat (reduceEqDiff reduceAdd reduceLT reduceLeDiff reduceMul reducePow)
attribute [local irreducible] PCalls ACalls CallK GoCall GoDCall GoIf GoGb GoDGb GoO GoD GoX GoDX GoG GoDG GoGv GoDGv Go ALoop

theorem rlower_ok (c : Nat) : PCalls Try.prog 106 [.int .u8 c] (.bool (lowerB c)) := by
  refine pcalls_text C_ok Try.func106 rfl (by decide) (Nat.le_of_ble_eq_true rfl) (by decide) rfl fun ok H => ?_
  rw [Try.results106]
  repeat' first
   | (apply goGb_op (fun _ _ => rfl); (· intro hb; (try simp only [Bool.and_eq_true, Bool.not_eq_true', Bool.or_eq_false_iff, Bool.not_eq_false'] at hb); simp only [hb, ↓upd_eq, ↓envL_cons, WZ, reduceIte, reduceEqDiff, reduceAdd, reduceLT, reduceLeDiff, reduceCtorEq, reduceMul, reducePow, W1, W5]; exact ⟨rfl, trivial⟩))
   | (apply goDGb_op (fun _ _ => rfl); (· intro hb; (try simp only [Bool.and_eq_true, Bool.not_eq_true', Bool.or_eq_false_iff, Bool.not_eq_false'] at hb); simp only [hb, ↓upd_eq, ↓envL_cons, WZ, reduceIte, reduceEqDiff, reduceAdd, reduceLT, reduceLeDiff, reduceCtorEq, reduceMul, reducePow, W1, W5]; exact ⟨rfl, trivial⟩))
   | (with_reducible first | apply bA | apply bB | apply bC | apply bD | apply bE | apply bF) <;> intro h <;> try simp only [h, ↓upd_eq, ↓envL_cons, WZ, reduceIte, reduceEqDiff, reduceAdd, reduceLT, reduceLeDiff, reduceCtorEq, reduceMul, reducePow, W1, W5]
   | simp only [↓upd_eq, ↓envL_cons, WZ, reduceIte, reduceEqDiff, reduceAdd, reduceLT, reduceLeDiff, reduceCtorEq, reduceMul, reducePow, W1, W5]
  rw [Bool.eq_iff_iff]; simp [lowerB]; omega
theorem rdigit_ok (c : Nat) : PCalls Try.prog 118 [.int .u8 c] (.bool (decide (48 ≤ c) && decide (c ≤ 57))) := by
  refine pcalls_text C_ok Try.func118 rfl (by decide) (Nat.le_of_ble_eq_true rfl) (by decide) rfl fun ok H => ?_
  rw [Try.results118]
  repeat' first
   | (apply goGb_op (fun _ _ => rfl); (· intro hb; (try simp only [Bool.and_eq_true, Bool.not_eq_true', Bool.or_eq_false_iff, Bool.not_eq_false'] at hb); simp only [hb, ↓upd_eq, ↓envL_cons, WZ, reduceIte, reduceEqDiff, reduceAdd, reduceLT, reduceLeDiff, reduceCtorEq, reduceMul, reducePow, W1, W5]; exact ⟨rfl, trivial⟩))
   | (apply goDGb_op (fun _ _ => rfl); (· intro hb; (try simp only [Bool.and_eq_true, Bool.not_eq_true', Bool.or_eq_false_iff, Bool.not_eq_false'] at hb); simp only [hb, ↓upd_eq, ↓envL_cons, WZ, reduceIte, reduceEqDiff, reduceAdd, reduceLT, reduceLeDiff, reduceCtorEq, reduceMul, reducePow, W1, W5]; exact ⟨rfl, trivial⟩))
   | (with_reducible first | apply bA | apply bB | apply bC | apply bD | apply bE | apply bF) <;> intro h <;> try simp only [h, ↓upd_eq, ↓envL_cons, WZ, reduceIte, reduceEqDiff, reduceAdd, reduceLT, reduceLeDiff, reduceCtorEq, reduceMul, reducePow, W1, W5]
   | simp only [↓upd_eq, ↓envL_cons, WZ, reduceIte, reduceEqDiff, reduceAdd, reduceLT, reduceLeDiff, reduceCtorEq, reduceMul, reducePow, W1, W5]
  rw [Bool.eq_iff_iff]; simp; omega
theorem rpart_ok (c : Nat) : PCalls Try.prog 107 [.int .u8 c] (.bool (innerB c)) := by
  refine pcalls_text C_ok Try.func107 rfl (by decide) (Nat.le_of_ble_eq_true rfl) (by decide) rfl fun ok H => ?_
  rw [Try.results107]
  repeat' first
   | (apply goGb_op (fun _ _ => rfl); (· intro hb; (try simp only [Bool.and_eq_true, Bool.not_eq_true', Bool.or_eq_false_iff, Bool.not_eq_false'] at hb); simp only [hb, ↓upd_eq, ↓envL_cons, WZ, reduceIte, reduceEqDiff, reduceAdd, reduceLT, reduceLeDiff, reduceCtorEq, reduceMul, reducePow, W1, W5]; exact ⟨rfl, trivial⟩))
   | (apply goGb_call (rlower_ok _); (· intro hb; (try simp only [Bool.and_eq_true, Bool.not_eq_true', Bool.or_eq_false_iff, Bool.not_eq_false'] at hb); simp only [hb, AV.norm, AV.normL, W2, ↓upd_eq, ↓envL_cons, WZ, reduceIte, reduceEqDiff, reduceAdd, reduceLT, reduceLeDiff, reduceCtorEq, reduceMul, reducePow, W1, W5]; rfl))
   | (apply goGb_call (rdigit_ok _); (· intro hb; (try simp only [Bool.and_eq_true, Bool.not_eq_true', Bool.or_eq_false_iff, Bool.not_eq_false'] at hb); simp only [hb, AV.norm, AV.normL, W2, ↓upd_eq, ↓envL_cons, WZ, reduceIte, reduceEqDiff, reduceAdd, reduceLT, reduceLeDiff, reduceCtorEq, reduceMul, reducePow, W1, W5]; rfl))
   | (apply goDGb_op (fun _ _ => rfl); (· intro hb; (try simp only [Bool.and_eq_true, Bool.not_eq_true', Bool.or_eq_false_iff, Bool.not_eq_false'] at hb); simp only [hb, ↓upd_eq, ↓envL_cons, WZ, reduceIte, reduceEqDiff, reduceAdd, reduceLT, reduceLeDiff, reduceCtorEq, reduceMul, reducePow, W1, W5]; exact ⟨rfl, trivial⟩))
   | (apply goDGb_call (rlower_ok _); (· intro hb; (try simp only [Bool.and_eq_true, Bool.not_eq_true', Bool.or_eq_false_iff, Bool.not_eq_false'] at hb); simp only [hb, AV.norm, AV.normL, W2, ↓upd_eq, ↓envL_cons, WZ, reduceIte, reduceEqDiff, reduceAdd, reduceLT, reduceLeDiff, reduceCtorEq, reduceMul, reducePow, W1, W5]; rfl))
   | (apply goDGb_call (rdigit_ok _); (· intro hb; (try simp only [Bool.and_eq_true, Bool.not_eq_true', Bool.or_eq_false_iff, Bool.not_eq_false'] at hb); simp only [hb, AV.norm, AV.normL, W2, ↓upd_eq, ↓envL_cons, WZ, reduceIte, reduceEqDiff, reduceAdd, reduceLT, reduceLeDiff, reduceCtorEq, reduceMul, reducePow, W1, W5]; rfl))
   | (with_reducible first | apply bA | apply bB | apply bC | apply bD | apply bE | apply bF) <;> intro h <;> try simp only [h, ↓upd_eq, ↓envL_cons, WZ, reduceIte, reduceEqDiff, reduceAdd, reduceLT, reduceLeDiff, reduceCtorEq, reduceMul, reducePow, W1, W5]
   | ((first | refine goCall_norm ?_ | refine goDCall_norm ?_); simp only [AV.norm, AV.normL, W2]; first | refine goCall_p (rlower_ok _) (.inl rfl) ?_ | refine goCall_p (rdigit_ok _) (.inl rfl) ?_ | refine goDCall_p (rlower_ok _) (.inl rfl) ?_ | refine goDCall_p (rdigit_ok _) (.inl rfl) ?_)
   | simp only [↓upd_eq, ↓envL_cons, WZ, reduceIte, reduceEqDiff, reduceAdd, reduceLT, reduceLeDiff, reduceCtorEq, reduceMul, reducePow, W1, W5]
  rw [Bool.eq_iff_iff]; simp [innerB, lowerB]; omega

def wordsB : ByteArray := ⟨wordsL.toArray⟩
abbrev spB : ByteArray := ⟨#[32]⟩
/-- A text between blanks. -/
def padB (s : ByteArray) : ByteArray := (spB ++ s) ++ spB
theorem padB_size (s : ByteArray) : (padB s).size = s.size + 2 := by
  simp only [padB, ByteArray.size_append]
  have : spB.size = 1 := rfl
  omega
theorem padB_list (s : ByteArray) : (padB s).toList = 32 :: (s.data.toList ++ [32]) := by
  rw [ByteArray.toList_eq]
  simp [padB, ByteArray.data_append]
theorem cut_list (i n : Nat) : (wordsB.extract i (i + n)).toList = (wordsL.drop i).take n := by
  rw [ByteArray.toList_eq]
  simp [wordsB, ByteArray.data_extract]
theorem byteAt_low (s : ByteArray) (i : Nat) (h : i < s.size) : lowerB (byteAt s i) = lowU (s.data.toList.getD i 0) := by
  have h' : i < s.data.size := h
  have e : s[i]? = some s[i] := getElem?_pos s i h
  have e2 : s[i] = s.data[i] := rfl
  have e3 : s.data.toList.getD i 0 = s.data[i] := by
    rw [List.getD_eq_getElem?_getD, Array.getElem?_toList, Array.getElem?_eq_getElem h']; rfl
  unfold byteAt
  rw [e, e3, ← e2]; rfl
theorem all_low (s : ByteArray) (h : ∀ j, j < s.size → lowerB (byteAt s j) = true) : ∀ x ∈ s.data.toList, lowU x = true := by
  intro x hx
  obtain ⟨i, hi, rfl⟩ := List.getElem_of_mem hx
  have hi' : i < s.size := by simpa using hi
  have := h i hi'
  rw [byteAt_low s i hi'] at this
  rwa [List.getD_eq_getElem?_getD, List.getElem?_eq_getElem hi] at this
theorem keyS_low {s : ByteArray} {i : Nat} (h : i < s.size) (hl : lowerB (byteAt s i) = false) : keyS s = false := by
  have hk : ∀ k ∈ keys, ∀ x ∈ k, lowU x = true := by decide +kernel
  cases hs : keyS s with
  | false => rfl
  | true =>
    have hm : s.data.toList ∈ keys := by simpa [keyS] using hs
    have hi : i < s.data.toList.length := by simpa using h
    have := hk _ hm _ (List.getElem_mem hi)
    rw [byteAt_low s i h, List.getD_eq_getElem?_getD, List.getElem?_eq_getElem hi] at hl
    simp only [Option.getD_some] at hl
    rw [this] at hl; cases hl
/-- The page's test at one place. -/
def atB (s : ByteArray) (i : Nat) : Bool := (wordsB.extract i (i + (s.size + 2))).toList == (padB s).toList
theorem atB_eq (s : ByteArray) (i : Nat) : atB s i = keyAt s.data.toList i := by
  have : s.data.toList.length = s.size := by rw [Array.length_toList]; rfl
  rw [atB, cut_list, padB_list, keyAt, this]
def foundB (s : ByteArray) (i : Nat) : Bool := decide (0 < s.size) && atB s i
theorem rkey_ok (s : ByteArray) (hs : s.size ≤ 1000) : PCalls Try.prog 108 [.str s] (.bool (keyS s)) := by
  have hW : (⟨List.toArray (32 :: 108 :: 101 :: 116 :: 32 :: 114 :: 101 :: 99 :: 32 :: 105 :: 110 :: 32 :: 102 :: 117 :: 110 :: 32 :: 105 :: 102 :: 32 :: 116 :: 104 :: 101 :: 110 :: 32 :: 101 :: 108 :: 115 :: 101 :: 32 :: 109 :: 97 :: 116 :: 99 :: 104 :: 32 :: 119 :: 105 :: 116 :: 104 :: 32 :: 101 :: 110 :: 100 :: 32 :: 116 :: 114 :: 117 :: 101 :: 32 :: 102 :: 97 :: 108 :: 115 :: 101 :: 32 :: 105 :: 110 :: 116 :: 32 :: 98 :: 111 :: 111 :: 108 :: 32 :: 115 :: 116 :: 114 :: 105 :: 110 :: 103 :: 32 :: 117 :: 110 :: 105 :: 116 :: 32 :: 108 :: 105 :: 115 :: 116 :: 32 :: [])⟩ : ByteArray) = wordsB := rfl
  have hmax : s.size ≤ maxLen := by rw [maxLen_val]; omega
  refine pcalls_text C_ok Try.func108 rfl (by decide) (Nat.le_of_ble_eq_true rfl) (by decide) rfl fun ok H => ?_
  rw [Try.results108]
  have h := True.intro
  repeat' (first
   | (with_reducible first | apply bA | apply bB | apply bC | apply bD | apply bE | apply bF) <;> intro h
   | skip) <;> simp only [h, ↓upd_eq, ↓envL_cons, WZ, reduceIte, reduceEqDiff, reduceAdd, reduceLT, reduceLeDiff, reduceCtorEq, reduceMul, reducePow, W1, hW]
  refine aloop_trim [3, 0] ?_
  simp only [List.map_cons, List.map_nil, ↓upd_eq, ↓envL_cons, WZ, reduceIte, reduceEqDiff, reduceAdd, reduceLT, reduceLeDiff, reduceCtorEq, reduceMul, reducePow, W1]
  refine goLoopS 1 (fun i : Nat => [(3, .int .i64 i)]) (fun _ => _) (fun i => i ≤ s.size ∧ ∀ j, j < i → lowerB (byteAt s j) = true) (fun i => s.size - i) C_ok 0 rfl rfl ⟨Nat.zero_le _, fun j hj => by omega⟩ (by decide) ?_
  rintro i ⟨hi, hall⟩
  simp only [List.drop_succ_cons, List.drop_zero, List.cons_append, List.nil_append]
  simp only [↓upd_eq, ↓envL_cons, WZ, reduceIte, reduceEqDiff, reduceAdd, reduceLT, reduceLeDiff, reduceCtorEq, reduceMul, reducePow, W1]
  refine goIf_d (fun hlt => ?_) (fun hlt => ?_)
  · have h := True.intro
    repeat' (first
     | (with_reducible first | apply bA | apply bB | apply bC | apply bD | apply bE | apply bF) <;> intro h
     | ((first | refine goCall_norm ?_ | refine goDCall_norm ?_); simp only [AV.norm, AV.normL, W2, hlt]; first | refine goCall_p (rlower_ok _) (.inl rfl) ?_ | refine goDCall_p (rlower_ok _) (.inl rfl) ?_)
     | skip) <;> simp only [h, ↓upd_eq, ↓envL_cons, WZ, reduceIte, reduceEqDiff, reduceAdd, reduceLT, reduceLeDiff, reduceCtorEq, reduceMul, reducePow, W1, hlt]
    · refine ⟨i + 1, ⟨hlt, fun j hj => ?_⟩, by omega, weak_drop rfl rfl rfl rfl ?_ ?_ ?_⟩
      · rcases Nat.lt_succ_iff_lt_or_eq.1 hj with hj | rfl
        · exact hall j hj
        · simp [h]
      all_goals simp only [List.forall_mem_cons, mem_nil_all, frz_app, ↓upd_eq, ↓envL_cons, Nat.reduceEqDiff, if_true, if_false, reduceIte, true_and, and_true, and_self, true_or, or_true, implies_true, List.not_mem_nil, false_implies, AV.bel, AV.belL, AObj.bel, AV.norm, AV.normL, Bool.and_true, Bool.true_and, decide_true, decide_eq_true_eq, List.length_cons, List.length_nil, Nat.zero_add, Nat.reduceAdd, Nat.lt_add_one, Nat.lt_add_right_iff_pos, Nat.zero_lt_succ, Nat.zero_lt_one, Nat.reduceLT, List.take_succ_cons, List.take_zero, wrap_succ hlt hmax, AV.belL]
    · exact (keyS_low hlt h).symm
  · have hlow := all_low s fun j hj => hall j (by omega)
    have hp : ((⟨#[32]⟩ : ByteArray) ++ s ++ ⟨#[32]⟩) = padB s := rfl
    have z1 : (⟨#[32]⟩ : ByteArray).size = 1 := rfl
    have z2 : ((⟨#[32]⟩ : ByteArray) ++ s).size = 1 + s.size := by rw [ByteArray.size_append, z1]
    have z3 : (1 + s.size ≤ 9223372036854775807) = True := by simp only [eq_iff_iff, iff_true]; omega
    have z4 : (1 + s.size + 1 ≤ 9223372036854775807) = True := by simp only [eq_iff_iff, iff_true]; omega
    simp only [↓upd_eq, ↓envL_cons, WZ, reduceIte, reduceEqDiff, reduceAdd, reduceLT, reduceLeDiff, reduceCtorEq, reduceMul, reducePow, W1, hp, z1, z2, z3, z4]
    refine aloop_trim [5, 0, 4] ?_
    simp only [List.map_cons, List.map_nil, ↓upd_eq, ↓envL_cons, WZ, reduceIte, reduceEqDiff, reduceAdd, reduceLT, reduceLeDiff, reduceCtorEq, reduceMul, reducePow, W1]
    refine goLoopS 1 (fun i : Nat => [(5, .int .i64 i)]) (fun _ => _) (fun i => i ≤ 82 ∧ ∀ j, j < i → foundB s j = false) (fun i => 82 - i) C_ok 0 rfl rfl ⟨by omega, fun j hj => by omega⟩ (by decide) ?_
    rintro i ⟨hi, hno⟩
    simp only [List.drop_succ_cons, List.drop_zero, List.cons_append, List.nil_append]
    have w1 : IntKind.wrap .i64 ((i : Int) + ((padB s).size : Int)) = ((i + (s.size + 2) : Nat) : Int) := by
      rw [padB_size]
      have e1 : IntKind.i64.min = -9223372036854775808 := by decide
      have e2 : IntKind.i64.max = 9223372036854775807 := by decide
      rw [wrap_id .i64 _ (by omega) (by omega)]; omega
    have hWs : wordsB.size = 81 := rfl
    simp only [↓upd_eq, ↓envL_cons, WZ, reduceIte, reduceEqDiff, reduceAdd, reduceLT, reduceLeDiff, reduceCtorEq, reduceMul, reducePow, W1, w1]
    refine goIf_d (fun hlt => ?_) (fun hlt => ?_)
    · have hi2 : i + (s.size + 2) ≤ 81 := by omega
      have c1 : ((0 : Int) ≤ (i : Int)) = True := by simp
      have c2 : ((i : Int) ≤ ((i + (s.size + 2) : Nat) : Int)) = True := by simp only [eq_iff_iff, iff_true]; omega
      have c3 : (((i + (s.size + 2) : Nat) : Int) ≤ ((81 : Nat) : Int)) = True := by simp only [eq_iff_iff, iff_true]; omega
      have c4 : ((s.size : Int) > 0) = (0 < s.size) := by simp
      have hat : ((wordsB.extract i (i + (s.size + 2))).toList == (padB s).toList) = atB s i := rfl
      have c5 : ((i : Int) + 1 : Int) = ((i + 1 : Nat) : Int) := by omega
      have c6 : IntKind.wrap .i64 ((i + 1 : Nat) : Int) = ((i + 1 : Nat) : Int) := by
        have e1 : IntKind.i64.min = -9223372036854775808 := by decide
        have e2 : IntKind.i64.max = 9223372036854775807 := by decide
        rw [wrap_id .i64 _ (by omega) (by omega)]
      repeat' first
       | (apply goGb_op (fun _ _ => rfl); (· intro hb; (try simp only [Bool.and_eq_true, Bool.not_eq_true', Bool.or_eq_false_iff, Bool.not_eq_false'] at hb); simp only [hb, ↓upd_eq, ↓envL_cons, WZ, reduceIte, reduceEqDiff, reduceAdd, reduceLT, reduceLeDiff, reduceCtorEq, reduceMul, reducePow, W1, W5, hlt, w1, hW, hWs, c1, c2, c3, c4, hat, Int.toNat_natCast]; exact ⟨rfl, trivial⟩))
       | (apply goDGb_op (fun _ _ => rfl); (· intro hb; (try simp only [Bool.and_eq_true, Bool.not_eq_true', Bool.or_eq_false_iff, Bool.not_eq_false'] at hb); simp only [hb, ↓upd_eq, ↓envL_cons, WZ, reduceIte, reduceEqDiff, reduceAdd, reduceLT, reduceLeDiff, reduceCtorEq, reduceMul, reducePow, W1, W5, hlt, w1, hW, hWs, c1, c2, c3, c4, hat, Int.toNat_natCast]; exact ⟨rfl, trivial⟩))
       | (with_reducible first | apply bA | apply bB | apply bC | apply bD | apply bE | apply bF) <;> intro h <;> try simp only [h, ↓upd_eq, ↓envL_cons, WZ, reduceIte, reduceEqDiff, reduceAdd, reduceLT, reduceLeDiff, reduceCtorEq, reduceMul, reducePow, W1, W5, hlt, w1, hW, hWs, c1, c2, c3, c4, hat, Int.toNat_natCast]
       | simp only [↓upd_eq, ↓envL_cons, WZ, reduceIte, reduceEqDiff, reduceAdd, reduceLT, reduceLeDiff, reduceCtorEq, reduceMul, reducePow, W1, W5, hlt, w1, hW, hWs, c1, c2, c3, c4, hat, Int.toNat_natCast]
      · rw [Bool.and_eq_true, decide_eq_true_eq] at h
        have hl : s.data.toList.length = s.size := by rw [Array.length_toList]; rfl
        exact ((keyAt_iff hlow).1 ⟨i, by omega, by omega, by rw [← atB_eq]; exact h.2⟩).symm
      · refine ⟨i + 1, ⟨by omega, fun j hj => ?_⟩, by omega, weak_drop rfl rfl rfl rfl ?_ ?_ ?_⟩
        · rcases Nat.lt_succ_iff_lt_or_eq.1 hj with hj | rfl
          · exact hno j hj
          · exact h
        all_goals simp only [List.forall_mem_cons, mem_nil_all, frz_app, ↓upd_eq, ↓envL_cons, Nat.reduceEqDiff, if_true, if_false, reduceIte, true_and, and_true, and_self, true_or, or_true, implies_true, List.not_mem_nil, false_implies, AV.bel, AV.belL, AObj.bel, AV.norm, AV.normL, Bool.and_true, Bool.true_and, decide_true, decide_eq_true_eq, List.length_cons, List.length_nil, Nat.zero_add, Nat.reduceAdd, Nat.lt_add_one, Nat.lt_add_right_iff_pos, Nat.zero_lt_succ, Nat.zero_lt_one, Nat.reduceLT, List.take_succ_cons, List.take_zero, c5, c6, AV.belL]
    · have hnk : keyS s = false := by
        cases hk : keyS s with
        | false => rfl
        | true =>
          obtain ⟨j, hj, hp', hat⟩ := (keyAt_iff hlow).2 hk
          have hl : s.data.toList.length = s.size := by rw [Array.length_toList]; rfl
          rw [hl] at hj hp'
          rw [← atB_eq] at hat
          have := hno j (by omega)
          simp [foundB, hp', hat] at this
      simp only [↓upd_eq, ↓envL_cons, WZ, reduceIte, reduceEqDiff, reduceAdd, reduceLT, reduceLeDiff, reduceCtorEq, reduceMul, reducePow, W1]
      exact hnk.symm

theorem rname_ok (s : ByteArray) : PCalls Try.prog 93 [.str s] (.bool (nameS s)) := by
  by_cases h1 : 1 ≤ s.size ∧ s.size ≤ 32 ∧ lowerB (byteAt s 0) = true
  · have e1 : decide ((s.size : Int) < 1) = false := by simp; omega
    have e2 : decide ((s.size : Int) > 32) = false := by simp; omega
    have e0 : ((0 : Int) < (s.size : Int)) = True := by simp; omega
    have hmax : s.size ≤ maxLen := by rw [maxLen_val]; omega
    have q1 := rlower_ok (byteAt s 0)
    rw [h1.2.2] at q1
    refine pcalls_text C_ok Try.func93 rfl (by decide) (Nat.le_of_ble_eq_true rfl) (by decide) rfl fun ok H => ?_
    rw [Try.results93]
    repeat' first
     | ((first | apply goGb_op (fun _ _ => rfl) | apply goDGb_op (fun _ _ => rfl)); (· intro hb; (try simp only [Bool.and_eq_true, Bool.not_eq_true', Bool.or_eq_false_iff, Bool.not_eq_false'] at hb); simp only [hb, ↓upd_eq, ↓envL_cons, WZ, reduceIte, reduceEqDiff, reduceAdd, reduceLT, reduceLeDiff, reduceCtorEq, reduceMul, reducePow, W1, W5, e1, e2, e0, Int.le_refl, Int.toNat_zero]; exact ⟨rfl, trivial⟩))
     | ((first | apply goGb_call (q1) | apply goDGb_call (q1)); (· intro hb; (try simp only [Bool.and_eq_true, Bool.not_eq_true', Bool.or_eq_false_iff, Bool.not_eq_false'] at hb); simp only [hb, AV.norm, AV.normL, W2, ↓upd_eq, ↓envL_cons, WZ, reduceIte, reduceEqDiff, reduceAdd, reduceLT, reduceLeDiff, reduceCtorEq, reduceMul, reducePow, W1, W5, e1, e2, e0, Int.le_refl, Int.toNat_zero]; rfl))
     | (with_reducible first | apply bA | apply bB | apply bC | apply bD | apply bE | apply bF) <;> intro h <;> try simp only [h, ↓upd_eq, ↓envL_cons, WZ, reduceIte, reduceEqDiff, reduceAdd, reduceLT, reduceLeDiff, reduceCtorEq, reduceMul, reducePow, W1, W5, e1, e2, e0, Int.le_refl, Int.toNat_zero]
     | ((first | refine goCall_norm ?_ | refine goDCall_norm ?_); simp only [AV.norm, AV.normL, W2, e1, e2, e0, Int.le_refl, Int.toNat_zero]; first | refine goCall_p (q1) (.inl rfl) ?_ | refine goDCall_p (q1) (.inl rfl) ?_)
     | simp only [↓upd_eq, ↓envL_cons, WZ, reduceIte, reduceEqDiff, reduceAdd, reduceLT, reduceLeDiff, reduceCtorEq, reduceMul, reducePow, W1, W5, e1, e2, e0, Int.le_refl, Int.toNat_zero]
    refine aloop_trim [3, 0] ?_
    simp only [List.map_cons, List.map_nil, ↓upd_eq, ↓envL_cons, WZ, reduceIte, reduceEqDiff, reduceAdd, reduceLT, reduceLeDiff, reduceCtorEq, reduceMul, reducePow, W1]
    refine goLoopS 1 (fun i : Nat => [(3, .int .i64 i)]) (fun _ => _) (fun i => i ≤ s.size ∧ ∀ j, j < i → (j == 0 || innerB (byteAt s j)) = true) (fun i => s.size - i) C_ok 0 rfl rfl ⟨Nat.zero_le _, fun j hj => by omega⟩ (by decide) ?_
    rintro i ⟨hi, hall⟩
    simp only [List.drop_succ_cons, List.drop_zero, List.cons_append, List.nil_append]
    simp only [↓upd_eq, ↓envL_cons, WZ, reduceIte, reduceEqDiff, reduceAdd, reduceLT, reduceLeDiff, reduceCtorEq, reduceMul, reducePow, W1]
    refine goIf_d (fun hlt => ?_) (fun hlt => ?_)
    · have h := True.intro
      repeat' (first
       | (with_reducible first | apply bA | apply bB | apply bC | apply bD | apply bE | apply bF) <;> intro h
       | ((first | refine goCall_norm ?_ | refine goDCall_norm ?_); simp only [AV.norm, AV.normL, W2, hlt]; first | refine goCall_p (rpart_ok _) (.inl rfl) ?_ | refine goDCall_p (rpart_ok _) (.inl rfl) ?_)
       | skip) <;> simp only [h, ↓upd_eq, ↓envL_cons, WZ, reduceIte, reduceEqDiff, reduceAdd, reduceLT, reduceLeDiff, reduceCtorEq, reduceMul, reducePow, W1, hlt]
      · refine ⟨i + 1, ⟨hlt, fun j hj => ?_⟩, by omega, weak_drop rfl rfl rfl rfl ?_ ?_ ?_⟩
        · rcases Nat.lt_succ_iff_lt_or_eq.1 hj with hj | rfl
          · exact hall j hj
          · simp [h]
        all_goals simp only [List.forall_mem_cons, mem_nil_all, frz_app, ↓upd_eq, ↓envL_cons, Nat.reduceEqDiff, if_true, if_false, reduceIte, true_and, and_true, and_self, true_or, or_true, implies_true, List.not_mem_nil, false_implies, AV.bel, AV.belL, AObj.bel, AV.norm, AV.normL, Bool.and_true, Bool.true_and, decide_true, decide_eq_true_eq, List.length_cons, List.length_nil, Nat.zero_add, Nat.reduceAdd, Nat.lt_add_one, Nat.lt_add_right_iff_pos, Nat.zero_lt_succ, Nat.zero_lt_one, Nat.reduceLT, List.take_succ_cons, List.take_zero, wrap_succ hlt hmax, AV.belL]
      · have hi0 : 1 ≤ i := by
          rcases Nat.eq_zero_or_pos i with rfl | hp
          · have h2 := h1.2.2
            simp only [innerB, h2, Bool.true_or] at h; cases h
          · exact hp
        exact (nameS_false hi0 hlt h).symm
    · have : (allN s.size fun i => i == 0 || innerB (byteAt s i)) = true := allN_true fun j hj => hall j (by omega)
      have hn : nameS s = !keyS s := by simp [nameS, this, h1]
      rw [hn]
      have h := True.intro
      repeat' (first
       | (with_reducible first | apply bA | apply bB | apply bC | apply bD | apply bE | apply bF) <;> intro h
       | ((first | refine goCall_norm ?_ | refine goDCall_norm ?_); simp only [AV.norm, AV.normL, W2]; first | refine goCall_p (rkey_ok s (by omega)) (.inl rfl) ?_ | refine goDCall_p (rkey_ok s (by omega)) (.inl rfl) ?_)
       | skip) <;> simp only [h, ↓upd_eq, ↓envL_cons, WZ, reduceIte, reduceEqDiff, reduceAdd, reduceLT, reduceLeDiff, reduceCtorEq, reduceMul, reducePow, W1]
  · have hn : nameS s = false := by
      cases h : nameS s with
      | false => rfl
      | true =>
        simp only [nameS, Bool.and_eq_true, decide_eq_true_eq] at h
        exact absurd ⟨h.1.1.1.1, h.1.1.1.2, h.1.1.2⟩ h1
    rw [hn]
    by_cases h2 : 1 ≤ s.size
    · have e1 : decide ((s.size : Int) < 1) = false := by simp; omega
      have e0 : ((0 : Int) < (s.size : Int)) = True := by simp; omega
      by_cases h3 : s.size ≤ 32
      · have e2 : decide ((s.size : Int) > 32) = false := by simp; omega
        have q1 := rlower_ok (byteAt s 0)
        have : lowerB (byteAt s 0) = false := by simpa [h2, h3] using h1
        rw [this] at q1
        refine pcalls_text C_ok Try.func93 rfl (by decide) (Nat.le_of_ble_eq_true rfl) (by decide) rfl fun ok H => ?_
        rw [Try.results93]
        repeat' first
         | ((first | apply goGb_op (fun _ _ => rfl) | apply goDGb_op (fun _ _ => rfl)); (· intro hb; (try simp only [Bool.and_eq_true, Bool.not_eq_true', Bool.or_eq_false_iff, Bool.not_eq_false'] at hb); simp only [hb, ↓upd_eq, ↓envL_cons, WZ, reduceIte, reduceEqDiff, reduceAdd, reduceLT, reduceLeDiff, reduceCtorEq, reduceMul, reducePow, W1, W5, e1, e2, e0, Int.le_refl, Int.toNat_zero]; exact ⟨rfl, trivial⟩))
         | ((first | apply goGb_call (q1) | apply goDGb_call (q1)); (· intro hb; (try simp only [Bool.and_eq_true, Bool.not_eq_true', Bool.or_eq_false_iff, Bool.not_eq_false'] at hb); simp only [hb, AV.norm, AV.normL, W2, ↓upd_eq, ↓envL_cons, WZ, reduceIte, reduceEqDiff, reduceAdd, reduceLT, reduceLeDiff, reduceCtorEq, reduceMul, reducePow, W1, W5, e1, e2, e0, Int.le_refl, Int.toNat_zero]; rfl))
         | (with_reducible first | apply bA | apply bB | apply bC | apply bD | apply bE | apply bF) <;> intro h <;> try simp only [h, ↓upd_eq, ↓envL_cons, WZ, reduceIte, reduceEqDiff, reduceAdd, reduceLT, reduceLeDiff, reduceCtorEq, reduceMul, reducePow, W1, W5, e1, e2, e0, Int.le_refl, Int.toNat_zero]
         | ((first | refine goCall_norm ?_ | refine goDCall_norm ?_); simp only [AV.norm, AV.normL, W2, e1, e2, e0, Int.le_refl, Int.toNat_zero]; first | refine goCall_p (q1) (.inl rfl) ?_ | refine goDCall_p (q1) (.inl rfl) ?_)
         | simp only [↓upd_eq, ↓envL_cons, WZ, reduceIte, reduceEqDiff, reduceAdd, reduceLT, reduceLeDiff, reduceCtorEq, reduceMul, reducePow, W1, W5, e1, e2, e0, Int.le_refl, Int.toNat_zero]
      · have e2 : decide ((s.size : Int) > 32) = true := by simp; omega
        refine pcalls_text C_ok Try.func93 rfl (by decide) (Nat.le_of_ble_eq_true rfl) (by decide) rfl fun ok H => ?_
        rw [Try.results93]
        repeat' first
         | (apply goGb_op (fun _ _ => rfl); (· intro hb; (try simp only [Bool.and_eq_true, Bool.not_eq_true', Bool.or_eq_false_iff, Bool.not_eq_false'] at hb); simp only [hb, ↓upd_eq, ↓envL_cons, WZ, reduceIte, reduceEqDiff, reduceAdd, reduceLT, reduceLeDiff, reduceCtorEq, reduceMul, reducePow, W1, W5, e1, e2, e0, Int.le_refl, Int.toNat_zero]; exact ⟨rfl, trivial⟩))
         | (apply goDGb_op (fun _ _ => rfl); (· intro hb; (try simp only [Bool.and_eq_true, Bool.not_eq_true', Bool.or_eq_false_iff, Bool.not_eq_false'] at hb); simp only [hb, ↓upd_eq, ↓envL_cons, WZ, reduceIte, reduceEqDiff, reduceAdd, reduceLT, reduceLeDiff, reduceCtorEq, reduceMul, reducePow, W1, W5, e1, e2, e0, Int.le_refl, Int.toNat_zero]; exact ⟨rfl, trivial⟩))
         | (with_reducible first | apply bA | apply bB | apply bC | apply bD | apply bE | apply bF) <;> intro h <;> try simp only [h, ↓upd_eq, ↓envL_cons, WZ, reduceIte, reduceEqDiff, reduceAdd, reduceLT, reduceLeDiff, reduceCtorEq, reduceMul, reducePow, W1, W5, e1, e2, e0, Int.le_refl, Int.toNat_zero]
         | simp only [↓upd_eq, ↓envL_cons, WZ, reduceIte, reduceEqDiff, reduceAdd, reduceLT, reduceLeDiff, reduceCtorEq, reduceMul, reducePow, W1, W5, e1, e2, e0, Int.le_refl, Int.toNat_zero]
    · have e1 : decide ((s.size : Int) < 1) = true := by simp; omega
      refine pcalls_text C_ok Try.func93 rfl (by decide) (Nat.le_of_ble_eq_true rfl) (by decide) rfl fun ok H => ?_
      rw [Try.results93]
      repeat' first
       | (apply goGb_op (fun _ _ => rfl); (· intro hb; (try simp only [Bool.and_eq_true, Bool.not_eq_true', Bool.or_eq_false_iff, Bool.not_eq_false'] at hb); simp only [hb, ↓upd_eq, ↓envL_cons, WZ, reduceIte, reduceEqDiff, reduceAdd, reduceLT, reduceLeDiff, reduceCtorEq, reduceMul, reducePow, W1, W5, e1]; exact ⟨rfl, trivial⟩))
       | (apply goDGb_op (fun _ _ => rfl); (· intro hb; (try simp only [Bool.and_eq_true, Bool.not_eq_true', Bool.or_eq_false_iff, Bool.not_eq_false'] at hb); simp only [hb, ↓upd_eq, ↓envL_cons, WZ, reduceIte, reduceEqDiff, reduceAdd, reduceLT, reduceLeDiff, reduceCtorEq, reduceMul, reducePow, W1, W5, e1]; exact ⟨rfl, trivial⟩))
       | (with_reducible first | apply bA | apply bB | apply bC | apply bD | apply bE | apply bF) <;> intro h <;> try simp only [h, ↓upd_eq, ↓envL_cons, WZ, reduceIte, reduceEqDiff, reduceAdd, reduceLT, reduceLeDiff, reduceCtorEq, reduceMul, reducePow, W1, W5, e1]
       | simp only [↓upd_eq, ↓envL_cons, WZ, reduceIte, reduceEqDiff, reduceAdd, reduceLT, reduceLeDiff, reduceCtorEq, reduceMul, reducePow, W1, W5, e1]

end Go.Proofs.Ytofogicgnldfhaa
