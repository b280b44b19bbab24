/- Walks: a pattern that is right, as the page has it. No condition. -/
import Derived.Test.YtofogicgnldfhaaZ2
import Derived.Test.YtofogicgnldfhaaZ4
import Derived.Test.YtofogicgnldfhaaPYh
set_option linter.unusedSimpArgs false
set_option linter.unusedVariables false
set_option maxHeartbeats 4000000
set_option maxRecDepth 100000
namespace Go.Proofs.Ytofogicgnldfhaa
open Go Go.Ab
open Nat (reduceEqDiff reduceAdd reduceLT reduceLeDiff reduceMul reducePow)
attribute [local irreducible] PCalls ACalls CallK GoCall GoDCall GoIf GoGb GoDGb GoO GoD GoX GoDX GoG GoDG GoGv GoDGv Go ALoop

theorem okAL_eq : ∀ l : List Pt, okAL l = allN l.length fun i => okA (l.getD i default)
  | [] => rfl
  | t :: l => by rw [okAL, List.length_cons, allN_succ, okAL_eq l]; rfl
theorem okA_full (p : Pt) : okA p = (okP p && allN p.kids.length fun i => okA (p.kid i)) := by
  cases p with | mk k f t m n s l => rw [okA, okAL_eq]; rfl
theorem okA_leaf {p : Pt} (h : p.kids.length = 0) : okA p = okP p := by rw [okA_full, h]; simp [allN]
theorem okA_two {p : Pt} (h : p.kids.length = 2) : okA p = (okP p && (okA (p.kid 0) && okA (p.kid 1))) := by rw [okA_full, h]; simp [allN, List.range_succ]
theorem okA_P {p : Pt} (h : okP p = false) : okA p = false := by rw [okA_full, h]; rfl
theorem nil_neP (l : List UInt8) : (!(l == ByteArray.empty.data.toList)) = decide (l ≠ []) := by cases l <;> rfl
theorem okP_nokids {p : Pt} (h7 : p.kind ≠ 7) (h9 : p.kind ≠ 9) (h : okP p = true) : p.kids.length = 0 := by
  simp only [okP, Bool.and_eq_true, decide_eq_true_eq] at h
  have := h.1.1.2
  rw [if_neg (by omega)] at this; omega
theorem pat_1 (p : Pt) (hk : p.kind = 1) : PCalls Try.prog 61 [embP p] (.bool (okA p)) := by
  have hBE : ∀ j : Int, (p.kind == j) = ((1 : Int) == j) := fun j => by rw [hk]
  have hz : p.str.data = #[] → p.str.size = 0 := fun h => by rw [ByteArray.size, h]; rfl
  refine pcalls_text C_ok Try.func61 rfl (by decide) (Nat.le_of_ble_eq_true rfl) (by decide) rfl fun ok H => ?_
  rw [Try.results61]
  repeat' first
   | (apply goGb_op (fun _ _ => rfl); (· intro hb; (try simp only [Bool.and_eq_true, Bool.not_eq_true', Bool.or_eq_false_iff, Bool.not_eq_false'] at hb); simp only [hb, ↓upd_eq, ↓envL_cons, WZ, reduceIte, reduceEqDiff, reduceAdd, reduceLT, reduceLeDiff, reduceCtorEq, reduceMul, reducePow, W1, W1P, W5, hBE, Int.reduceBEq]; exact ⟨rfl, trivial⟩))
   | (apply goGb_call (rname_ok _); (· intro hb; (try simp only [Bool.and_eq_true, Bool.not_eq_true', Bool.or_eq_false_iff, Bool.not_eq_false'] at hb); simp only [hb, AV.norm, AV.normL, W2, W2P, ↓upd_eq, ↓envL_cons, WZ, reduceIte, reduceEqDiff, reduceAdd, reduceLT, reduceLeDiff, reduceCtorEq, reduceMul, reducePow, W1, W1P, W5, hBE, Int.reduceBEq]; rfl))
   | (apply goDGb_op (fun _ _ => rfl); (· intro hb; (try simp only [Bool.and_eq_true, Bool.not_eq_true', Bool.or_eq_false_iff, Bool.not_eq_false'] at hb); simp only [hb, ↓upd_eq, ↓envL_cons, WZ, reduceIte, reduceEqDiff, reduceAdd, reduceLT, reduceLeDiff, reduceCtorEq, reduceMul, reducePow, W1, W1P, W5, hBE, Int.reduceBEq]; exact ⟨rfl, trivial⟩))
   | (apply goDGb_call (rname_ok _); (· intro hb; (try simp only [Bool.and_eq_true, Bool.not_eq_true', Bool.or_eq_false_iff, Bool.not_eq_false'] at hb); simp only [hb, AV.norm, AV.normL, W2, W2P, ↓upd_eq, ↓envL_cons, WZ, reduceIte, reduceEqDiff, reduceAdd, reduceLT, reduceLeDiff, reduceCtorEq, reduceMul, reducePow, W1, W1P, W5, hBE, Int.reduceBEq]; rfl))
   | (with_reducible first | apply bA | apply bB | apply bC | apply bD | apply bE | apply bF) <;> intro h <;> try simp only [h, ↓upd_eq, ↓envL_cons, WZ, reduceIte, reduceEqDiff, reduceAdd, reduceLT, reduceLeDiff, reduceCtorEq, reduceMul, reducePow, W1, W1P, W5, hBE, Int.reduceBEq]
   | ((first | refine goCall_norm ?_ | refine goDCall_norm ?_); simp only [AV.norm, AV.normL, W2, W2P, hBE, Int.reduceBEq]; first | refine goCall_p (rname_ok _) (.inl rfl) ?_ | refine goDCall_p (rname_ok _) (.inl rfl) ?_)
   | simp only [↓upd_eq, ↓envL_cons, WZ, reduceIte, reduceEqDiff, reduceAdd, reduceLT, reduceLeDiff, reduceCtorEq, reduceMul, reducePow, W1, W1P, W5, hBE, Int.reduceBEq]
  all_goals have h := True.intro
  repeat' (first
   | (with_reducible first | apply bA | apply bB | apply bC | apply bD | apply bE | apply bF) <;> intro h
   | refine goRound ?_ C_ok Try.f61.ntmps rfl (by decide)
   | skip) <;> simp only [h, ↓upd_eq, ↓envL_cons, WZ, reduceIte, reduceEqDiff, reduceAdd, reduceLT, reduceLeDiff, reduceCtorEq, reduceMul, reducePow, W1, W1P, Go.Ab.W3, Int.reduceAdd, Int.reduceLT, Int.reduceToNat, Int.reduceBEq, Int.reduceBNe, Int.reduceLE, cutNormal_normal]
  all_goals clear hBE
  all_goals try simp only [ByteArray.toList_eq, nil_neP, Bool.or_eq_true, Bool.and_eq_true, Bool.or_eq_false_iff, Bool.and_eq_false_iff, decide_eq_true_eq, decide_eq_false_iff_not, beq_iff_eq, beq_eq_false_iff_ne, ne_eq, bne_iff_ne, bne_eq_false_iff_eq, Int.natCast_eq_zero] at *
  all_goals
    by_cases hl : p.kids.length = 0
    · rw [okA_leaf hl]; simp_all [okP] <;> first | omega | (intros; simp_all; done) | (intros; omega) | trace_state
    · rw [okA_P (by cases e : okP p with | false => rfl | true => exact absurd (okP_nokids (by omega) (by omega) e) hl)] <;> simp_all <;> omega
theorem pat_2 (p : Pt) (hk : p.kind = 2) : PCalls Try.prog 61 [embP p] (.bool (okA p)) := by
  have hBE : ∀ j : Int, (p.kind == j) = ((2 : Int) == j) := fun j => by rw [hk]
  have hz : p.str.data = #[] → p.str.size = 0 := fun h => by rw [ByteArray.size, h]; rfl
  refine pcalls_text C_ok Try.func61 rfl (by decide) (Nat.le_of_ble_eq_true rfl) (by decide) rfl fun ok H => ?_
  rw [Try.results61]
  repeat' first
   | (apply goGb_op (fun _ _ => rfl); (· intro hb; (try simp only [Bool.and_eq_true, Bool.not_eq_true', Bool.or_eq_false_iff, Bool.not_eq_false'] at hb); simp only [hb, ↓upd_eq, ↓envL_cons, WZ, reduceIte, reduceEqDiff, reduceAdd, reduceLT, reduceLeDiff, reduceCtorEq, reduceMul, reducePow, W1, W1P, W5, hBE, Int.reduceBEq]; exact ⟨rfl, trivial⟩))
   | (apply goGb_call (rname_ok _); (· intro hb; (try simp only [Bool.and_eq_true, Bool.not_eq_true', Bool.or_eq_false_iff, Bool.not_eq_false'] at hb); simp only [hb, AV.norm, AV.normL, W2, W2P, ↓upd_eq, ↓envL_cons, WZ, reduceIte, reduceEqDiff, reduceAdd, reduceLT, reduceLeDiff, reduceCtorEq, reduceMul, reducePow, W1, W1P, W5, hBE, Int.reduceBEq]; rfl))
   | (apply goDGb_op (fun _ _ => rfl); (· intro hb; (try simp only [Bool.and_eq_true, Bool.not_eq_true', Bool.or_eq_false_iff, Bool.not_eq_false'] at hb); simp only [hb, ↓upd_eq, ↓envL_cons, WZ, reduceIte, reduceEqDiff, reduceAdd, reduceLT, reduceLeDiff, reduceCtorEq, reduceMul, reducePow, W1, W1P, W5, hBE, Int.reduceBEq]; exact ⟨rfl, trivial⟩))
   | (apply goDGb_call (rname_ok _); (· intro hb; (try simp only [Bool.and_eq_true, Bool.not_eq_true', Bool.or_eq_false_iff, Bool.not_eq_false'] at hb); simp only [hb, AV.norm, AV.normL, W2, W2P, ↓upd_eq, ↓envL_cons, WZ, reduceIte, reduceEqDiff, reduceAdd, reduceLT, reduceLeDiff, reduceCtorEq, reduceMul, reducePow, W1, W1P, W5, hBE, Int.reduceBEq]; rfl))
   | (with_reducible first | apply bA | apply bB | apply bC | apply bD | apply bE | apply bF) <;> intro h <;> try simp only [h, ↓upd_eq, ↓envL_cons, WZ, reduceIte, reduceEqDiff, reduceAdd, reduceLT, reduceLeDiff, reduceCtorEq, reduceMul, reducePow, W1, W1P, W5, hBE, Int.reduceBEq]
   | ((first | refine goCall_norm ?_ | refine goDCall_norm ?_); simp only [AV.norm, AV.normL, W2, W2P, hBE, Int.reduceBEq]; first | refine goCall_p (rname_ok _) (.inl rfl) ?_ | refine goDCall_p (rname_ok _) (.inl rfl) ?_)
   | simp only [↓upd_eq, ↓envL_cons, WZ, reduceIte, reduceEqDiff, reduceAdd, reduceLT, reduceLeDiff, reduceCtorEq, reduceMul, reducePow, W1, W1P, W5, hBE, Int.reduceBEq]
  all_goals have h := True.intro
  repeat' (first
   | (with_reducible first | apply bA | apply bB | apply bC | apply bD | apply bE | apply bF) <;> intro h
   | refine goRound ?_ C_ok Try.f61.ntmps rfl (by decide)
   | skip) <;> simp only [h, ↓upd_eq, ↓envL_cons, WZ, reduceIte, reduceEqDiff, reduceAdd, reduceLT, reduceLeDiff, reduceCtorEq, reduceMul, reducePow, W1, W1P, Go.Ab.W3, Int.reduceAdd, Int.reduceLT, Int.reduceToNat, Int.reduceBEq, Int.reduceBNe, Int.reduceLE, cutNormal_normal]
  all_goals clear hBE
  all_goals try simp only [ByteArray.toList_eq, nil_neP, Bool.or_eq_true, Bool.and_eq_true, Bool.or_eq_false_iff, Bool.and_eq_false_iff, decide_eq_true_eq, decide_eq_false_iff_not, beq_iff_eq, beq_eq_false_iff_ne, ne_eq, bne_iff_ne, bne_eq_false_iff_eq, Int.natCast_eq_zero] at *
  all_goals
    by_cases hl : p.kids.length = 0
    · rw [okA_leaf hl]; simp_all [okP] <;> first | omega | (intros; simp_all; done) | (intros; omega) | trace_state
    · rw [okA_P (by cases e : okP p with | false => rfl | true => exact absurd (okP_nokids (by omega) (by omega) e) hl)] <;> simp_all <;> omega
theorem pat_3 (p : Pt) (hk : p.kind = 3) : PCalls Try.prog 61 [embP p] (.bool (okA p)) := by
  have hBE : ∀ j : Int, (p.kind == j) = ((3 : Int) == j) := fun j => by rw [hk]
  have hz : p.str.data = #[] → p.str.size = 0 := fun h => by rw [ByteArray.size, h]; rfl
  refine pcalls_text C_ok Try.func61 rfl (by decide) (Nat.le_of_ble_eq_true rfl) (by decide) rfl fun ok H => ?_
  rw [Try.results61]
  repeat' first
   | (apply goGb_op (fun _ _ => rfl); (· intro hb; (try simp only [Bool.and_eq_true, Bool.not_eq_true', Bool.or_eq_false_iff, Bool.not_eq_false'] at hb); simp only [hb, ↓upd_eq, ↓envL_cons, WZ, reduceIte, reduceEqDiff, reduceAdd, reduceLT, reduceLeDiff, reduceCtorEq, reduceMul, reducePow, W1, W1P, W5, hBE, Int.reduceBEq]; exact ⟨rfl, trivial⟩))
   | (apply goGb_call (rname_ok _); (· intro hb; (try simp only [Bool.and_eq_true, Bool.not_eq_true', Bool.or_eq_false_iff, Bool.not_eq_false'] at hb); simp only [hb, AV.norm, AV.normL, W2, W2P, ↓upd_eq, ↓envL_cons, WZ, reduceIte, reduceEqDiff, reduceAdd, reduceLT, reduceLeDiff, reduceCtorEq, reduceMul, reducePow, W1, W1P, W5, hBE, Int.reduceBEq]; rfl))
   | (apply goDGb_op (fun _ _ => rfl); (· intro hb; (try simp only [Bool.and_eq_true, Bool.not_eq_true', Bool.or_eq_false_iff, Bool.not_eq_false'] at hb); simp only [hb, ↓upd_eq, ↓envL_cons, WZ, reduceIte, reduceEqDiff, reduceAdd, reduceLT, reduceLeDiff, reduceCtorEq, reduceMul, reducePow, W1, W1P, W5, hBE, Int.reduceBEq]; exact ⟨rfl, trivial⟩))
   | (apply goDGb_call (rname_ok _); (· intro hb; (try simp only [Bool.and_eq_true, Bool.not_eq_true', Bool.or_eq_false_iff, Bool.not_eq_false'] at hb); simp only [hb, AV.norm, AV.normL, W2, W2P, ↓upd_eq, ↓envL_cons, WZ, reduceIte, reduceEqDiff, reduceAdd, reduceLT, reduceLeDiff, reduceCtorEq, reduceMul, reducePow, W1, W1P, W5, hBE, Int.reduceBEq]; rfl))
   | (with_reducible first | apply bA | apply bB | apply bC | apply bD | apply bE | apply bF) <;> intro h <;> try simp only [h, ↓upd_eq, ↓envL_cons, WZ, reduceIte, reduceEqDiff, reduceAdd, reduceLT, reduceLeDiff, reduceCtorEq, reduceMul, reducePow, W1, W1P, W5, hBE, Int.reduceBEq]
   | ((first | refine goCall_norm ?_ | refine goDCall_norm ?_); simp only [AV.norm, AV.normL, W2, W2P, hBE, Int.reduceBEq]; first | refine goCall_p (rname_ok _) (.inl rfl) ?_ | refine goDCall_p (rname_ok _) (.inl rfl) ?_)
   | simp only [↓upd_eq, ↓envL_cons, WZ, reduceIte, reduceEqDiff, reduceAdd, reduceLT, reduceLeDiff, reduceCtorEq, reduceMul, reducePow, W1, W1P, W5, hBE, Int.reduceBEq]
  all_goals have h := True.intro
  repeat' (first
   | (with_reducible first | apply bA | apply bB | apply bC | apply bD | apply bE | apply bF) <;> intro h
   | refine goRound ?_ C_ok Try.f61.ntmps rfl (by decide)
   | skip) <;> simp only [h, ↓upd_eq, ↓envL_cons, WZ, reduceIte, reduceEqDiff, reduceAdd, reduceLT, reduceLeDiff, reduceCtorEq, reduceMul, reducePow, W1, W1P, Go.Ab.W3, Int.reduceAdd, Int.reduceLT, Int.reduceToNat, Int.reduceBEq, Int.reduceBNe, Int.reduceLE, cutNormal_normal]
  all_goals clear hBE
  all_goals try simp only [ByteArray.toList_eq, nil_neP, Bool.or_eq_true, Bool.and_eq_true, Bool.or_eq_false_iff, Bool.and_eq_false_iff, decide_eq_true_eq, decide_eq_false_iff_not, beq_iff_eq, beq_eq_false_iff_ne, ne_eq, bne_iff_ne, bne_eq_false_iff_eq, Int.natCast_eq_zero] at *
  all_goals
    by_cases hl : p.kids.length = 0
    · rw [okA_leaf hl]; simp_all [okP] <;> first | omega | (intros; simp_all; done) | (intros; omega) | trace_state
    · rw [okA_P (by cases e : okP p with | false => rfl | true => exact absurd (okP_nokids (by omega) (by omega) e) hl)] <;> simp_all <;> omega
theorem pat_4 (p : Pt) (hk : p.kind = 4) : PCalls Try.prog 61 [embP p] (.bool (okA p)) := by
  have hBE : ∀ j : Int, (p.kind == j) = ((4 : Int) == j) := fun j => by rw [hk]
  have hz : p.str.data = #[] → p.str.size = 0 := fun h => by rw [ByteArray.size, h]; rfl
  refine pcalls_text C_ok Try.func61 rfl (by decide) (Nat.le_of_ble_eq_true rfl) (by decide) rfl fun ok H => ?_
  rw [Try.results61]
  repeat' first
   | (apply goGb_op (fun _ _ => rfl); (· intro hb; (try simp only [Bool.and_eq_true, Bool.not_eq_true', Bool.or_eq_false_iff, Bool.not_eq_false'] at hb); simp only [hb, ↓upd_eq, ↓envL_cons, WZ, reduceIte, reduceEqDiff, reduceAdd, reduceLT, reduceLeDiff, reduceCtorEq, reduceMul, reducePow, W1, W1P, W5, hBE, Int.reduceBEq]; exact ⟨rfl, trivial⟩))
   | (apply goGb_call (rname_ok _); (· intro hb; (try simp only [Bool.and_eq_true, Bool.not_eq_true', Bool.or_eq_false_iff, Bool.not_eq_false'] at hb); simp only [hb, AV.norm, AV.normL, W2, W2P, ↓upd_eq, ↓envL_cons, WZ, reduceIte, reduceEqDiff, reduceAdd, reduceLT, reduceLeDiff, reduceCtorEq, reduceMul, reducePow, W1, W1P, W5, hBE, Int.reduceBEq]; rfl))
   | (apply goDGb_op (fun _ _ => rfl); (· intro hb; (try simp only [Bool.and_eq_true, Bool.not_eq_true', Bool.or_eq_false_iff, Bool.not_eq_false'] at hb); simp only [hb, ↓upd_eq, ↓envL_cons, WZ, reduceIte, reduceEqDiff, reduceAdd, reduceLT, reduceLeDiff, reduceCtorEq, reduceMul, reducePow, W1, W1P, W5, hBE, Int.reduceBEq]; exact ⟨rfl, trivial⟩))
   | (apply goDGb_call (rname_ok _); (· intro hb; (try simp only [Bool.and_eq_true, Bool.not_eq_true', Bool.or_eq_false_iff, Bool.not_eq_false'] at hb); simp only [hb, AV.norm, AV.normL, W2, W2P, ↓upd_eq, ↓envL_cons, WZ, reduceIte, reduceEqDiff, reduceAdd, reduceLT, reduceLeDiff, reduceCtorEq, reduceMul, reducePow, W1, W1P, W5, hBE, Int.reduceBEq]; rfl))
   | (with_reducible first | apply bA | apply bB | apply bC | apply bD | apply bE | apply bF) <;> intro h <;> try simp only [h, ↓upd_eq, ↓envL_cons, WZ, reduceIte, reduceEqDiff, reduceAdd, reduceLT, reduceLeDiff, reduceCtorEq, reduceMul, reducePow, W1, W1P, W5, hBE, Int.reduceBEq]
   | ((first | refine goCall_norm ?_ | refine goDCall_norm ?_); simp only [AV.norm, AV.normL, W2, W2P, hBE, Int.reduceBEq]; first | refine goCall_p (rname_ok _) (.inl rfl) ?_ | refine goDCall_p (rname_ok _) (.inl rfl) ?_)
   | simp only [↓upd_eq, ↓envL_cons, WZ, reduceIte, reduceEqDiff, reduceAdd, reduceLT, reduceLeDiff, reduceCtorEq, reduceMul, reducePow, W1, W1P, W5, hBE, Int.reduceBEq]
  all_goals have h := True.intro
  repeat' (first
   | (with_reducible first | apply bA | apply bB | apply bC | apply bD | apply bE | apply bF) <;> intro h
   | refine goRound ?_ C_ok Try.f61.ntmps rfl (by decide)
   | skip) <;> simp only [h, ↓upd_eq, ↓envL_cons, WZ, reduceIte, reduceEqDiff, reduceAdd, reduceLT, reduceLeDiff, reduceCtorEq, reduceMul, reducePow, W1, W1P, Go.Ab.W3, Int.reduceAdd, Int.reduceLT, Int.reduceToNat, Int.reduceBEq, Int.reduceBNe, Int.reduceLE, cutNormal_normal]
  all_goals clear hBE
  all_goals try simp only [ByteArray.toList_eq, nil_neP, Bool.or_eq_true, Bool.and_eq_true, Bool.or_eq_false_iff, Bool.and_eq_false_iff, decide_eq_true_eq, decide_eq_false_iff_not, beq_iff_eq, beq_eq_false_iff_ne, ne_eq, bne_iff_ne, bne_eq_false_iff_eq, Int.natCast_eq_zero] at *
  all_goals
    by_cases hl : p.kids.length = 0
    · rw [okA_leaf hl]; simp_all [okP] <;> first | omega | (intros; simp_all; done) | (intros; omega) | trace_state
    · rw [okA_P (by cases e : okP p with | false => rfl | true => exact absurd (okP_nokids (by omega) (by omega) e) hl)] <;> simp_all <;> omega
theorem pat_5 (p : Pt) (hk : p.kind = 5) : PCalls Try.prog 61 [embP p] (.bool (okA p)) := by
  have hBE : ∀ j : Int, (p.kind == j) = ((5 : Int) == j) := fun j => by rw [hk]
  have hz : p.str.data = #[] → p.str.size = 0 := fun h => by rw [ByteArray.size, h]; rfl
  refine pcalls_text C_ok Try.func61 rfl (by decide) (Nat.le_of_ble_eq_true rfl) (by decide) rfl fun ok H => ?_
  rw [Try.results61]
  repeat' first
   | (apply goGb_op (fun _ _ => rfl); (· intro hb; (try simp only [Bool.and_eq_true, Bool.not_eq_true', Bool.or_eq_false_iff, Bool.not_eq_false'] at hb); simp only [hb, ↓upd_eq, ↓envL_cons, WZ, reduceIte, reduceEqDiff, reduceAdd, reduceLT, reduceLeDiff, reduceCtorEq, reduceMul, reducePow, W1, W1P, W5, hBE, Int.reduceBEq]; exact ⟨rfl, trivial⟩))
   | (apply goGb_call (rname_ok _); (· intro hb; (try simp only [Bool.and_eq_true, Bool.not_eq_true', Bool.or_eq_false_iff, Bool.not_eq_false'] at hb); simp only [hb, AV.norm, AV.normL, W2, W2P, ↓upd_eq, ↓envL_cons, WZ, reduceIte, reduceEqDiff, reduceAdd, reduceLT, reduceLeDiff, reduceCtorEq, reduceMul, reducePow, W1, W1P, W5, hBE, Int.reduceBEq]; rfl))
   | (apply goDGb_op (fun _ _ => rfl); (· intro hb; (try simp only [Bool.and_eq_true, Bool.not_eq_true', Bool.or_eq_false_iff, Bool.not_eq_false'] at hb); simp only [hb, ↓upd_eq, ↓envL_cons, WZ, reduceIte, reduceEqDiff, reduceAdd, reduceLT, reduceLeDiff, reduceCtorEq, reduceMul, reducePow, W1, W1P, W5, hBE, Int.reduceBEq]; exact ⟨rfl, trivial⟩))
   | (apply goDGb_call (rname_ok _); (· intro hb; (try simp only [Bool.and_eq_true, Bool.not_eq_true', Bool.or_eq_false_iff, Bool.not_eq_false'] at hb); simp only [hb, AV.norm, AV.normL, W2, W2P, ↓upd_eq, ↓envL_cons, WZ, reduceIte, reduceEqDiff, reduceAdd, reduceLT, reduceLeDiff, reduceCtorEq, reduceMul, reducePow, W1, W1P, W5, hBE, Int.reduceBEq]; rfl))
   | (with_reducible first | apply bA | apply bB | apply bC | apply bD | apply bE | apply bF) <;> intro h <;> try simp only [h, ↓upd_eq, ↓envL_cons, WZ, reduceIte, reduceEqDiff, reduceAdd, reduceLT, reduceLeDiff, reduceCtorEq, reduceMul, reducePow, W1, W1P, W5, hBE, Int.reduceBEq]
   | ((first | refine goCall_norm ?_ | refine goDCall_norm ?_); simp only [AV.norm, AV.normL, W2, W2P, hBE, Int.reduceBEq]; first | refine goCall_p (rname_ok _) (.inl rfl) ?_ | refine goDCall_p (rname_ok _) (.inl rfl) ?_)
   | simp only [↓upd_eq, ↓envL_cons, WZ, reduceIte, reduceEqDiff, reduceAdd, reduceLT, reduceLeDiff, reduceCtorEq, reduceMul, reducePow, W1, W1P, W5, hBE, Int.reduceBEq]
  all_goals have h := True.intro
  repeat' (first
   | (with_reducible first | apply bA | apply bB | apply bC | apply bD | apply bE | apply bF) <;> intro h
   | refine goRound ?_ C_ok Try.f61.ntmps rfl (by decide)
   | skip) <;> simp only [h, ↓upd_eq, ↓envL_cons, WZ, reduceIte, reduceEqDiff, reduceAdd, reduceLT, reduceLeDiff, reduceCtorEq, reduceMul, reducePow, W1, W1P, Go.Ab.W3, Int.reduceAdd, Int.reduceLT, Int.reduceToNat, Int.reduceBEq, Int.reduceBNe, Int.reduceLE, cutNormal_normal]
  all_goals clear hBE
  all_goals try simp only [ByteArray.toList_eq, nil_neP, Bool.or_eq_true, Bool.and_eq_true, Bool.or_eq_false_iff, Bool.and_eq_false_iff, decide_eq_true_eq, decide_eq_false_iff_not, beq_iff_eq, beq_eq_false_iff_ne, ne_eq, bne_iff_ne, bne_eq_false_iff_eq, Int.natCast_eq_zero] at *
  all_goals
    by_cases hl : p.kids.length = 0
    · rw [okA_leaf hl]; simp_all [okP] <;> first | omega | (intros; simp_all; done) | (intros; omega) | trace_state
    · rw [okA_P (by cases e : okP p with | false => rfl | true => exact absurd (okP_nokids (by omega) (by omega) e) hl)] <;> simp_all <;> omega
theorem pat_6 (p : Pt) (hk : p.kind = 6) : PCalls Try.prog 61 [embP p] (.bool (okA p)) := by
  have hBE : ∀ j : Int, (p.kind == j) = ((6 : Int) == j) := fun j => by rw [hk]
  have hz : p.str.data = #[] → p.str.size = 0 := fun h => by rw [ByteArray.size, h]; rfl
  refine pcalls_text C_ok Try.func61 rfl (by decide) (Nat.le_of_ble_eq_true rfl) (by decide) rfl fun ok H => ?_
  rw [Try.results61]
  repeat' first
   | (apply goGb_op (fun _ _ => rfl); (· intro hb; (try simp only [Bool.and_eq_true, Bool.not_eq_true', Bool.or_eq_false_iff, Bool.not_eq_false'] at hb); simp only [hb, ↓upd_eq, ↓envL_cons, WZ, reduceIte, reduceEqDiff, reduceAdd, reduceLT, reduceLeDiff, reduceCtorEq, reduceMul, reducePow, W1, W1P, W5, hBE, Int.reduceBEq]; exact ⟨rfl, trivial⟩))
   | (apply goGb_call (rname_ok _); (· intro hb; (try simp only [Bool.and_eq_true, Bool.not_eq_true', Bool.or_eq_false_iff, Bool.not_eq_false'] at hb); simp only [hb, AV.norm, AV.normL, W2, W2P, ↓upd_eq, ↓envL_cons, WZ, reduceIte, reduceEqDiff, reduceAdd, reduceLT, reduceLeDiff, reduceCtorEq, reduceMul, reducePow, W1, W1P, W5, hBE, Int.reduceBEq]; rfl))
   | (apply goDGb_op (fun _ _ => rfl); (· intro hb; (try simp only [Bool.and_eq_true, Bool.not_eq_true', Bool.or_eq_false_iff, Bool.not_eq_false'] at hb); simp only [hb, ↓upd_eq, ↓envL_cons, WZ, reduceIte, reduceEqDiff, reduceAdd, reduceLT, reduceLeDiff, reduceCtorEq, reduceMul, reducePow, W1, W1P, W5, hBE, Int.reduceBEq]; exact ⟨rfl, trivial⟩))
   | (apply goDGb_call (rname_ok _); (· intro hb; (try simp only [Bool.and_eq_true, Bool.not_eq_true', Bool.or_eq_false_iff, Bool.not_eq_false'] at hb); simp only [hb, AV.norm, AV.normL, W2, W2P, ↓upd_eq, ↓envL_cons, WZ, reduceIte, reduceEqDiff, reduceAdd, reduceLT, reduceLeDiff, reduceCtorEq, reduceMul, reducePow, W1, W1P, W5, hBE, Int.reduceBEq]; rfl))
   | (with_reducible first | apply bA | apply bB | apply bC | apply bD | apply bE | apply bF) <;> intro h <;> try simp only [h, ↓upd_eq, ↓envL_cons, WZ, reduceIte, reduceEqDiff, reduceAdd, reduceLT, reduceLeDiff, reduceCtorEq, reduceMul, reducePow, W1, W1P, W5, hBE, Int.reduceBEq]
   | ((first | refine goCall_norm ?_ | refine goDCall_norm ?_); simp only [AV.norm, AV.normL, W2, W2P, hBE, Int.reduceBEq]; first | refine goCall_p (rname_ok _) (.inl rfl) ?_ | refine goDCall_p (rname_ok _) (.inl rfl) ?_)
   | simp only [↓upd_eq, ↓envL_cons, WZ, reduceIte, reduceEqDiff, reduceAdd, reduceLT, reduceLeDiff, reduceCtorEq, reduceMul, reducePow, W1, W1P, W5, hBE, Int.reduceBEq]
  all_goals have h := True.intro
  repeat' (first
   | (with_reducible first | apply bA | apply bB | apply bC | apply bD | apply bE | apply bF) <;> intro h
   | refine goRound ?_ C_ok Try.f61.ntmps rfl (by decide)
   | skip) <;> simp only [h, ↓upd_eq, ↓envL_cons, WZ, reduceIte, reduceEqDiff, reduceAdd, reduceLT, reduceLeDiff, reduceCtorEq, reduceMul, reducePow, W1, W1P, Go.Ab.W3, Int.reduceAdd, Int.reduceLT, Int.reduceToNat, Int.reduceBEq, Int.reduceBNe, Int.reduceLE, cutNormal_normal]
  all_goals clear hBE
  all_goals try simp only [ByteArray.toList_eq, nil_neP, Bool.or_eq_true, Bool.and_eq_true, Bool.or_eq_false_iff, Bool.and_eq_false_iff, decide_eq_true_eq, decide_eq_false_iff_not, beq_iff_eq, beq_eq_false_iff_ne, ne_eq, bne_iff_ne, bne_eq_false_iff_eq, Int.natCast_eq_zero] at *
  all_goals
    by_cases hl : p.kids.length = 0
    · rw [okA_leaf hl]; simp_all [okP] <;> first | omega | (intros; simp_all; done) | (intros; omega) | trace_state
    · rw [okA_P (by cases e : okP p with | false => rfl | true => exact absurd (okP_nokids (by omega) (by omega) e) hl)] <;> simp_all <;> omega
theorem pat_8 (p : Pt) (hk : p.kind = 8) : PCalls Try.prog 61 [embP p] (.bool (okA p)) := by
  have hBE : ∀ j : Int, (p.kind == j) = ((8 : Int) == j) := fun j => by rw [hk]
  have hz : p.str.data = #[] → p.str.size = 0 := fun h => by rw [ByteArray.size, h]; rfl
  refine pcalls_text C_ok Try.func61 rfl (by decide) (Nat.le_of_ble_eq_true rfl) (by decide) rfl fun ok H => ?_
  rw [Try.results61]
  repeat' first
   | (apply goGb_op (fun _ _ => rfl); (· intro hb; (try simp only [Bool.and_eq_true, Bool.not_eq_true', Bool.or_eq_false_iff, Bool.not_eq_false'] at hb); simp only [hb, ↓upd_eq, ↓envL_cons, WZ, reduceIte, reduceEqDiff, reduceAdd, reduceLT, reduceLeDiff, reduceCtorEq, reduceMul, reducePow, W1, W1P, W5, hBE, Int.reduceBEq]; exact ⟨rfl, trivial⟩))
   | (apply goGb_call (rname_ok _); (· intro hb; (try simp only [Bool.and_eq_true, Bool.not_eq_true', Bool.or_eq_false_iff, Bool.not_eq_false'] at hb); simp only [hb, AV.norm, AV.normL, W2, W2P, ↓upd_eq, ↓envL_cons, WZ, reduceIte, reduceEqDiff, reduceAdd, reduceLT, reduceLeDiff, reduceCtorEq, reduceMul, reducePow, W1, W1P, W5, hBE, Int.reduceBEq]; rfl))
   | (apply goDGb_op (fun _ _ => rfl); (· intro hb; (try simp only [Bool.and_eq_true, Bool.not_eq_true', Bool.or_eq_false_iff, Bool.not_eq_false'] at hb); simp only [hb, ↓upd_eq, ↓envL_cons, WZ, reduceIte, reduceEqDiff, reduceAdd, reduceLT, reduceLeDiff, reduceCtorEq, reduceMul, reducePow, W1, W1P, W5, hBE, Int.reduceBEq]; exact ⟨rfl, trivial⟩))
   | (apply goDGb_call (rname_ok _); (· intro hb; (try simp only [Bool.and_eq_true, Bool.not_eq_true', Bool.or_eq_false_iff, Bool.not_eq_false'] at hb); simp only [hb, AV.norm, AV.normL, W2, W2P, ↓upd_eq, ↓envL_cons, WZ, reduceIte, reduceEqDiff, reduceAdd, reduceLT, reduceLeDiff, reduceCtorEq, reduceMul, reducePow, W1, W1P, W5, hBE, Int.reduceBEq]; rfl))
   | (with_reducible first | apply bA | apply bB | apply bC | apply bD | apply bE | apply bF) <;> intro h <;> try simp only [h, ↓upd_eq, ↓envL_cons, WZ, reduceIte, reduceEqDiff, reduceAdd, reduceLT, reduceLeDiff, reduceCtorEq, reduceMul, reducePow, W1, W1P, W5, hBE, Int.reduceBEq]
   | ((first | refine goCall_norm ?_ | refine goDCall_norm ?_); simp only [AV.norm, AV.normL, W2, W2P, hBE, Int.reduceBEq]; first | refine goCall_p (rname_ok _) (.inl rfl) ?_ | refine goDCall_p (rname_ok _) (.inl rfl) ?_)
   | simp only [↓upd_eq, ↓envL_cons, WZ, reduceIte, reduceEqDiff, reduceAdd, reduceLT, reduceLeDiff, reduceCtorEq, reduceMul, reducePow, W1, W1P, W5, hBE, Int.reduceBEq]
  all_goals have h := True.intro
  repeat' (first
   | (with_reducible first | apply bA | apply bB | apply bC | apply bD | apply bE | apply bF) <;> intro h
   | refine goRound ?_ C_ok Try.f61.ntmps rfl (by decide)
   | skip) <;> simp only [h, ↓upd_eq, ↓envL_cons, WZ, reduceIte, reduceEqDiff, reduceAdd, reduceLT, reduceLeDiff, reduceCtorEq, reduceMul, reducePow, W1, W1P, Go.Ab.W3, Int.reduceAdd, Int.reduceLT, Int.reduceToNat, Int.reduceBEq, Int.reduceBNe, Int.reduceLE, cutNormal_normal]
  all_goals clear hBE
  all_goals try simp only [ByteArray.toList_eq, nil_neP, Bool.or_eq_true, Bool.and_eq_true, Bool.or_eq_false_iff, Bool.and_eq_false_iff, decide_eq_true_eq, decide_eq_false_iff_not, beq_iff_eq, beq_eq_false_iff_ne, ne_eq, bne_iff_ne, bne_eq_false_iff_eq, Int.natCast_eq_zero] at *
  all_goals
    by_cases hl : p.kids.length = 0
    · rw [okA_leaf hl]; simp_all [okP] <;> first | omega | (intros; simp_all; done) | (intros; omega) | trace_state
    · rw [okA_P (by cases e : okP p with | false => rfl | true => exact absurd (okP_nokids (by omega) (by omega) e) hl)] <;> simp_all <;> omega
theorem pat_0 (p : Pt) (hk : ¬ (1 ≤ p.kind ∧ p.kind ≤ 9)) : PCalls Try.prog 61 [embP p] (.bool (okA p)) := by
  have hBE : ∀ j : Int, 1 ≤ j → j ≤ 9 → (p.kind == j) = false := fun j h1 h2 => by
    rw [beq_eq_false_iff_ne]; rintro rfl; exact hk ⟨h1, h2⟩
  have : okA p = false := by
    refine okA_P ?_
    cases e : okP p with
    | false => rfl
    | true => simp only [okP, Bool.and_eq_true, decide_eq_true_eq] at e; exact absurd ⟨e.1.2, e.2⟩ hk
  rw [this]
  refine pcalls_text C_ok Try.func61 rfl (by decide) (Nat.le_of_ble_eq_true rfl) (by decide) rfl fun ok H => ?_
  rw [Try.results61]
  repeat' first
   | (apply goGb_op (fun _ _ => rfl); (· intro hb; (try simp only [Bool.and_eq_true, Bool.not_eq_true', Bool.or_eq_false_iff, Bool.not_eq_false'] at hb); simp only [hb, ↓upd_eq, ↓envL_cons, WZ, reduceIte, reduceEqDiff, reduceAdd, reduceLT, reduceLeDiff, reduceCtorEq, reduceMul, reducePow, W1, W1P, W5, hBE 1 (by omega) (by omega), hBE 2 (by omega) (by omega), hBE 3 (by omega) (by omega), hBE 4 (by omega) (by omega), hBE 5 (by omega) (by omega), hBE 6 (by omega) (by omega), hBE 7 (by omega) (by omega), hBE 8 (by omega) (by omega), hBE 9 (by omega) (by omega)]; exact ⟨rfl, trivial⟩))
   | (apply goDGb_op (fun _ _ => rfl); (· intro hb; (try simp only [Bool.and_eq_true, Bool.not_eq_true', Bool.or_eq_false_iff, Bool.not_eq_false'] at hb); simp only [hb, ↓upd_eq, ↓envL_cons, WZ, reduceIte, reduceEqDiff, reduceAdd, reduceLT, reduceLeDiff, reduceCtorEq, reduceMul, reducePow, W1, W1P, W5, hBE 1 (by omega) (by omega), hBE 2 (by omega) (by omega), hBE 3 (by omega) (by omega), hBE 4 (by omega) (by omega), hBE 5 (by omega) (by omega), hBE 6 (by omega) (by omega), hBE 7 (by omega) (by omega), hBE 8 (by omega) (by omega), hBE 9 (by omega) (by omega)]; exact ⟨rfl, trivial⟩))
   | (with_reducible first | apply bA | apply bB | apply bC | apply bD | apply bE | apply bF) <;> intro h <;> try simp only [h, ↓upd_eq, ↓envL_cons, WZ, reduceIte, reduceEqDiff, reduceAdd, reduceLT, reduceLeDiff, reduceCtorEq, reduceMul, reducePow, W1, W1P, W5, hBE 1 (by omega) (by omega), hBE 2 (by omega) (by omega), hBE 3 (by omega) (by omega), hBE 4 (by omega) (by omega), hBE 5 (by omega) (by omega), hBE 6 (by omega) (by omega), hBE 7 (by omega) (by omega), hBE 8 (by omega) (by omega), hBE 9 (by omega) (by omega)]
   | simp only [↓upd_eq, ↓envL_cons, WZ, reduceIte, reduceEqDiff, reduceAdd, reduceLT, reduceLeDiff, reduceCtorEq, reduceMul, reducePow, W1, W1P, W5, hBE 1 (by omega) (by omega), hBE 2 (by omega) (by omega), hBE 3 (by omega) (by omega), hBE 4 (by omega) (by omega), hBE 5 (by omega) (by omega), hBE 6 (by omega) (by omega), hBE 7 (by omega) (by omega), hBE 8 (by omega) (by omega), hBE 9 (by omega) (by omega)]
theorem pat_7 (p : Pt) (hk : p.kind = 7) (ih : ∀ x ∈ p.kids, PCalls Try.prog 61 [embP x] (.bool (okA x))) : PCalls Try.prog 61 [embP p] (.bool (okA p)) := by
  have hBE : ∀ j : Int, (p.kind == j) = ((7 : Int) == j) := fun j => by rw [hk]
  by_cases hl : p.kids.length = 2
  · have g0 : (p.kids.map embP).getD 0 .any = embP (p.kid 0) := mapP_kid (by omega)
    have g1 : (p.kids.map embP).getD 1 .any = embP (p.kid 1) := mapP_kid (by omega)
    have c0 : ((0 : Int) < (2 : Nat)) = True := by simp
    have c1 : ((1 : Int) < (2 : Nat)) = True := by simp
    have t0 : Int.toNat 0 = 0 := rfl
    have t1 : Int.toNat 1 = 1 := rfl
    have z1 : ((0 : Int) ≤ 1) = True := by simp
    have n2 : (((2 : Nat) : Int) != 2) = false := rfl
    have q1 := ih _ (ptkid_mem (p := p) (i := 0) (by omega))
    have q2 := ih _ (ptkid_mem (p := p) (i := 1) (by omega))
    rw [okA_two hl]
    generalize okA (p.kid 0) = o1 at *
    generalize okA (p.kid 1) = o2 at *
    refine pcalls_text C_ok Try.func61 rfl (by decide) (Nat.le_of_ble_eq_true rfl) (by decide) rfl fun ok H => ?_
    rw [Try.results61]
    repeat' first
     | (apply goGb_op (fun _ _ => rfl); (· intro hb; (try simp only [Bool.and_eq_true, Bool.not_eq_true', Bool.or_eq_false_iff, Bool.not_eq_false'] at hb); simp only [hb, ↓upd_eq, ↓envL_cons, WZ, reduceIte, reduceEqDiff, reduceAdd, reduceLT, reduceLeDiff, reduceCtorEq, reduceMul, reducePow, W1, W1P, W5, hBE, Int.reduceBEq, hl, n2]; exact ⟨rfl, trivial⟩))
     | (apply goDGb_op (fun _ _ => rfl); (· intro hb; (try simp only [Bool.and_eq_true, Bool.not_eq_true', Bool.or_eq_false_iff, Bool.not_eq_false'] at hb); simp only [hb, ↓upd_eq, ↓envL_cons, WZ, reduceIte, reduceEqDiff, reduceAdd, reduceLT, reduceLeDiff, reduceCtorEq, reduceMul, reducePow, W1, W1P, W5, hBE, Int.reduceBEq, hl, n2]; exact ⟨rfl, trivial⟩))
     | (with_reducible first | apply bA | apply bB | apply bC | apply bD | apply bE | apply bF) <;> intro h <;> try simp only [h, ↓upd_eq, ↓envL_cons, WZ, reduceIte, reduceEqDiff, reduceAdd, reduceLT, reduceLeDiff, reduceCtorEq, reduceMul, reducePow, W1, W1P, W5, hBE, Int.reduceBEq, hl, n2]
     | simp only [↓upd_eq, ↓envL_cons, WZ, reduceIte, reduceEqDiff, reduceAdd, reduceLT, reduceLeDiff, reduceCtorEq, reduceMul, reducePow, W1, W1P, W5, hBE, Int.reduceBEq, hl, n2]
    all_goals have h := True.intro
    repeat' (first
     | (with_reducible first | apply bA | apply bB | apply bC | apply bD | apply bE | apply bF) <;> intro h
     | ((first | refine goCall_norm ?_ | refine goDCall_norm ?_); simp only [AV.norm, AV.normL, W2, W2P, Go.Ab.W3, Int.reduceAdd, Int.reduceLT, Int.reduceToNat, Int.reduceBEq, Int.reduceBNe, Int.reduceLE, hl, g0, g1, c0, c1, t0, t1, z1, Int.le_refl, List.length_map]; first | refine goCall_p (q1) (.inl rfl) ?_ | refine goCall_p (q2) (.inl rfl) ?_ | refine goDCall_p (q1) (.inl rfl) ?_ | refine goDCall_p (q2) (.inl rfl) ?_)
     | refine goRound ?_ C_ok Try.f61.ntmps rfl (by decide)
     | skip) <;> simp only [h, ↓upd_eq, ↓envL_cons, WZ, reduceIte, reduceEqDiff, reduceAdd, reduceLT, reduceLeDiff, reduceCtorEq, reduceMul, reducePow, W1, W1P, Go.Ab.W3, Int.reduceAdd, Int.reduceLT, Int.reduceToNat, Int.reduceBEq, Int.reduceBNe, Int.reduceLE, hl, g0, g1, c0, c1, t0, t1, z1, Int.le_refl, List.length_map, cutNormal_normal]
    all_goals clear hBE
    all_goals try simp only [ByteArray.toList_eq, nil_neP, Bool.or_eq_true, Bool.and_eq_true, Bool.or_eq_false_iff, Bool.and_eq_false_iff, decide_eq_true_eq, decide_eq_false_iff_not, beq_iff_eq, beq_eq_false_iff_ne, ne_eq, bne_iff_ne, bne_eq_false_iff_eq, Int.natCast_eq_zero] at *
    all_goals (simp_all [okP] <;> (intros; simp_all))
  · have hn : ((p.kids.length : Int) != 2) = true := by simp; omega
    have : okA p = false := by
      refine okA_P ?_
      cases e : okP p with
      | false => rfl
      | true => exact absurd (okP_two e (by omega)) hl
    rw [this]
    refine pcalls_text C_ok Try.func61 rfl (by decide) (Nat.le_of_ble_eq_true rfl) (by decide) rfl fun ok H => ?_
    rw [Try.results61]
    repeat' first
     | (apply goGb_op (fun _ _ => rfl); (· intro hb; (try simp only [Bool.and_eq_true, Bool.not_eq_true', Bool.or_eq_false_iff, Bool.not_eq_false'] at hb); simp only [hb, ↓upd_eq, ↓envL_cons, WZ, reduceIte, reduceEqDiff, reduceAdd, reduceLT, reduceLeDiff, reduceCtorEq, reduceMul, reducePow, W1, W1P, W5, hBE, Int.reduceBEq, hn]; exact ⟨rfl, trivial⟩))
     | (apply goDGb_op (fun _ _ => rfl); (· intro hb; (try simp only [Bool.and_eq_true, Bool.not_eq_true', Bool.or_eq_false_iff, Bool.not_eq_false'] at hb); simp only [hb, ↓upd_eq, ↓envL_cons, WZ, reduceIte, reduceEqDiff, reduceAdd, reduceLT, reduceLeDiff, reduceCtorEq, reduceMul, reducePow, W1, W1P, W5, hBE, Int.reduceBEq, hn]; exact ⟨rfl, trivial⟩))
     | (with_reducible first | apply bA | apply bB | apply bC | apply bD | apply bE | apply bF) <;> intro h <;> try simp only [h, ↓upd_eq, ↓envL_cons, WZ, reduceIte, reduceEqDiff, reduceAdd, reduceLT, reduceLeDiff, reduceCtorEq, reduceMul, reducePow, W1, W1P, W5, hBE, Int.reduceBEq, hn]
     | simp only [↓upd_eq, ↓envL_cons, WZ, reduceIte, reduceEqDiff, reduceAdd, reduceLT, reduceLeDiff, reduceCtorEq, reduceMul, reducePow, W1, W1P, W5, hBE, Int.reduceBEq, hn]
theorem pat_9 (p : Pt) (hk : p.kind = 9) (ih : ∀ x ∈ p.kids, PCalls Try.prog 61 [embP x] (.bool (okA x))) : PCalls Try.prog 61 [embP p] (.bool (okA p)) := by
  have hBE : ∀ j : Int, (p.kind == j) = ((9 : Int) == j) := fun j => by rw [hk]
  by_cases hl : p.kids.length = 2
  · have g0 : (p.kids.map embP).getD 0 .any = embP (p.kid 0) := mapP_kid (by omega)
    have g1 : (p.kids.map embP).getD 1 .any = embP (p.kid 1) := mapP_kid (by omega)
    have c0 : ((0 : Int) < (2 : Nat)) = True := by simp
    have c1 : ((1 : Int) < (2 : Nat)) = True := by simp
    have t0 : Int.toNat 0 = 0 := rfl
    have t1 : Int.toNat 1 = 1 := rfl
    have z1 : ((0 : Int) ≤ 1) = True := by simp
    have n2 : (((2 : Nat) : Int) != 2) = false := rfl
    have q1 := ih _ (ptkid_mem (p := p) (i := 0) (by omega))
    have q2 := ih _ (ptkid_mem (p := p) (i := 1) (by omega))
    rw [okA_two hl]
    generalize okA (p.kid 0) = o1 at *
    generalize okA (p.kid 1) = o2 at *
    refine pcalls_text C_ok Try.func61 rfl (by decide) (Nat.le_of_ble_eq_true rfl) (by decide) rfl fun ok H => ?_
    rw [Try.results61]
    repeat' first
     | (apply goGb_op (fun _ _ => rfl); (· intro hb; (try simp only [Bool.and_eq_true, Bool.not_eq_true', Bool.or_eq_false_iff, Bool.not_eq_false'] at hb); simp only [hb, ↓upd_eq, ↓envL_cons, WZ, reduceIte, reduceEqDiff, reduceAdd, reduceLT, reduceLeDiff, reduceCtorEq, reduceMul, reducePow, W1, W1P, W5, hBE, Int.reduceBEq, hl, n2]; exact ⟨rfl, trivial⟩))
     | (apply goDGb_op (fun _ _ => rfl); (· intro hb; (try simp only [Bool.and_eq_true, Bool.not_eq_true', Bool.or_eq_false_iff, Bool.not_eq_false'] at hb); simp only [hb, ↓upd_eq, ↓envL_cons, WZ, reduceIte, reduceEqDiff, reduceAdd, reduceLT, reduceLeDiff, reduceCtorEq, reduceMul, reducePow, W1, W1P, W5, hBE, Int.reduceBEq, hl, n2]; exact ⟨rfl, trivial⟩))
     | (with_reducible first | apply bA | apply bB | apply bC | apply bD | apply bE | apply bF) <;> intro h <;> try simp only [h, ↓upd_eq, ↓envL_cons, WZ, reduceIte, reduceEqDiff, reduceAdd, reduceLT, reduceLeDiff, reduceCtorEq, reduceMul, reducePow, W1, W1P, W5, hBE, Int.reduceBEq, hl, n2]
     | simp only [↓upd_eq, ↓envL_cons, WZ, reduceIte, reduceEqDiff, reduceAdd, reduceLT, reduceLeDiff, reduceCtorEq, reduceMul, reducePow, W1, W1P, W5, hBE, Int.reduceBEq, hl, n2]
    all_goals have h := True.intro
    repeat' (first
     | (with_reducible first | apply bA | apply bB | apply bC | apply bD | apply bE | apply bF) <;> intro h
     | ((first | refine goCall_norm ?_ | refine goDCall_norm ?_); simp only [AV.norm, AV.normL, W2, W2P, Go.Ab.W3, Int.reduceAdd, Int.reduceLT, Int.reduceToNat, Int.reduceBEq, Int.reduceBNe, Int.reduceLE, hl, g0, g1, c0, c1, t0, t1, z1, Int.le_refl, List.length_map]; first | refine goCall_p (q1) (.inl rfl) ?_ | refine goCall_p (q2) (.inl rfl) ?_ | refine goDCall_p (q1) (.inl rfl) ?_ | refine goDCall_p (q2) (.inl rfl) ?_)
     | refine goRound ?_ C_ok Try.f61.ntmps rfl (by decide)
     | skip) <;> simp only [h, ↓upd_eq, ↓envL_cons, WZ, reduceIte, reduceEqDiff, reduceAdd, reduceLT, reduceLeDiff, reduceCtorEq, reduceMul, reducePow, W1, W1P, Go.Ab.W3, Int.reduceAdd, Int.reduceLT, Int.reduceToNat, Int.reduceBEq, Int.reduceBNe, Int.reduceLE, hl, g0, g1, c0, c1, t0, t1, z1, Int.le_refl, List.length_map, cutNormal_normal]
    all_goals clear hBE
    all_goals try simp only [ByteArray.toList_eq, nil_neP, Bool.or_eq_true, Bool.and_eq_true, Bool.or_eq_false_iff, Bool.and_eq_false_iff, decide_eq_true_eq, decide_eq_false_iff_not, beq_iff_eq, beq_eq_false_iff_ne, ne_eq, bne_iff_ne, bne_eq_false_iff_eq, Int.natCast_eq_zero] at *
    all_goals (simp_all [okP] <;> (intros; simp_all))
  · have hn : ((p.kids.length : Int) != 2) = true := by simp; omega
    have : okA p = false := by
      refine okA_P ?_
      cases e : okP p with
      | false => rfl
      | true => exact absurd (okP_two e (by omega)) hl
    rw [this]
    refine pcalls_text C_ok Try.func61 rfl (by decide) (Nat.le_of_ble_eq_true rfl) (by decide) rfl fun ok H => ?_
    rw [Try.results61]
    repeat' first
     | (apply goGb_op (fun _ _ => rfl); (· intro hb; (try simp only [Bool.and_eq_true, Bool.not_eq_true', Bool.or_eq_false_iff, Bool.not_eq_false'] at hb); simp only [hb, ↓upd_eq, ↓envL_cons, WZ, reduceIte, reduceEqDiff, reduceAdd, reduceLT, reduceLeDiff, reduceCtorEq, reduceMul, reducePow, W1, W1P, W5, hBE, Int.reduceBEq, hn]; exact ⟨rfl, trivial⟩))
     | (apply goDGb_op (fun _ _ => rfl); (· intro hb; (try simp only [Bool.and_eq_true, Bool.not_eq_true', Bool.or_eq_false_iff, Bool.not_eq_false'] at hb); simp only [hb, ↓upd_eq, ↓envL_cons, WZ, reduceIte, reduceEqDiff, reduceAdd, reduceLT, reduceLeDiff, reduceCtorEq, reduceMul, reducePow, W1, W1P, W5, hBE, Int.reduceBEq, hn]; exact ⟨rfl, trivial⟩))
     | (with_reducible first | apply bA | apply bB | apply bC | apply bD | apply bE | apply bF) <;> intro h <;> try simp only [h, ↓upd_eq, ↓envL_cons, WZ, reduceIte, reduceEqDiff, reduceAdd, reduceLT, reduceLeDiff, reduceCtorEq, reduceMul, reducePow, W1, W1P, W5, hBE, Int.reduceBEq, hn]
     | simp only [↓upd_eq, ↓envL_cons, WZ, reduceIte, reduceEqDiff, reduceAdd, reduceLT, reduceLeDiff, reduceCtorEq, reduceMul, reducePow, W1, W1P, W5, hBE, Int.reduceBEq, hn]
theorem rpat_ok : ∀ p : Pt, PCalls Try.prog 61 [embP p] (.bool (okA p)) := by
  refine Pt.ind fun p ih => ?_
  by_cases hk : 1 ≤ p.kind ∧ p.kind ≤ 9
  · have : p.kind = 1 ∨ p.kind = 2 ∨ p.kind = 3 ∨ p.kind = 4 ∨ p.kind = 5 ∨ p.kind = 6 ∨ p.kind = 7 ∨ p.kind = 8 ∨ p.kind = 9 := by omega
    rcases this with h | h | h | h | h | h | h | h | h
    · exact pat_1 p h
    · exact pat_2 p h
    · exact pat_3 p h
    · exact pat_4 p h
    · exact pat_5 p h
    · exact pat_6 p h
    · exact pat_7 p h ih
    · exact pat_8 p h
    · exact pat_9 p h ih
  · exact pat_0 p hk

end Go.Proofs.Ytofogicgnldfhaa
