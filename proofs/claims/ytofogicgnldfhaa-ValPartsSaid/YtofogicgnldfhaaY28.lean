/- ValParts answers true, whatever the input. No condition. -/
import Derived.Test.YtofogicgnldfhaaY27
set_option linter.unusedSimpArgs false
set_option linter.unusedVariables false
set_option maxHeartbeats 4000000
set_option maxRecDepth 100000
namespace Go.Proofs.Ytofogicgnldfhaa
open Go Go.Ab
attribute [local irreducible] PCalls ACalls CallK GoCall GoDCall GoIf GoGb GoDGb GoO GoD GoX GoDX GoG GoDG GoGv GoDGv Go ALoop

abbrev pairW (a b : Vl) : Vl := .mk 5 0 ByteArray.empty noneC [a, b]
abbrev coPair (c d : Co) : Co := .mk 3 0 0 false [c, d]
abbrev yS : ByteArray := ⟨#[121]⟩
abbrev patY : Pt := .mk 2 0 0 yS 0 ByteArray.empty []
abbrev bothP : Pt := .mk 7 0 0 ByteArray.empty 0 ByteArray.empty [patX, patY]
noncomputable def twoW (a b : Vl) (c d : Co) : PR := match wrapA a c with
  | .err => .err
  | .blame l n => .blame l n
  | .ok x => match wrapA b d with
    | .err => .err
    | .blame l n => .blame l n
    | .ok y => .ok x y
theorem rightV_pairW {a b : Vl} (ha : rightV a = true) (hb : rightV b = true) : rightV (pairW a b) = true := by
  rw [rightV_eq, Bool.and_eq_true, allN_iff]
  refine ⟨by simp [ownV, oneV, aroundV, noneB, Vl.kind, Vl.num, Vl.str, Vl.co, Vl.kids, Co.kind, Co.head, Co.label, Co.neg, Co.kids], fun i hi => ?_⟩
  simp only [Vl.kids, List.length_cons, List.length_nil] at hi
  have : i = 0 ∨ i = 1 := by omega
  rcases this with rfl | rfl
  · exact ha
  · exact hb
theorem pair_wrap {a b : Vl} {c d : Co} (ha : rightV a = true) (hb : rightV b = true) (hc : rightC c = true) (hd : rightC d = true) (h : ¬ (c.kind = 1 ∧ d.kind = 1)) :
    rightC (coPair c d) = true ∧ wrapA (pairW a b) (coPair c d) = .ok (setC (pairW a b) (coPair c d)) ∧ rightV (setC (pairW a b) (coPair c d)) = true ∧ twoV (setC (pairW a b) (coPair c d)) = twoW a b c d := by
  have hp := rightV_pairW ha hb
  obtain ⟨C', rfl, oc⟩ := K.of_right' hc
  obtain ⟨D, rfl, od⟩ := K.of_right' hd
  have hid : ∀ k : K, k.isId = true → k.co.kind = 1 := by intro k hk; rw [isId_iff] at hk; subst hk; rfl
  have hok : (K.pair C' D).ok = true := by
    simp only [K.ok, oc, od, Bool.true_and, Bool.not_eq_true', Bool.and_eq_false_iff]
    by_cases h1 : C'.isId = true
    · right; by_cases h2 : D.isId = true
      · exact absurd ⟨hid _ h1, hid _ h2⟩ h
      · simpa using h2
    · left; simpa using h1
  have hco : coPair C'.co D.co = (K.pair C' D).co := rfl
  have hr : rightC (coPair C'.co D.co) = true := by rw [hco, K.right_co]; exact hok
  have har : aroundV (setC (pairW a b) (coPair C'.co D.co)) = true := by
    unfold aroundV
    have : (setC (pairW a b) (coPair C'.co D.co)).co = coPair C'.co D.co := rfl
    rw [this, hr]
    have : (setC (pairW a b) (coPair C'.co D.co)).kind = 5 := rfl
    rw [this]
    simp [Co.kind]
  refine ⟨hr, ?_, rightV_setC hp har, rfl⟩
  have hd0 : dOf (pairW a b) = K.id.co := rfl
  obtain ⟨e1, e2⟩ := joinC_co (c := .id) (d := K.pair C' D) rfl hok (joinR_some.2 ⟨joinK_id _, hok⟩)
  rw [wrapA_J (by rw [hd0, hco]; exact e2), hd0, hco, e1, ← hco]
  unfold wrapJ
  have k3 : (coPair C'.co D.co).kind = 3 := rfl
  rw [k3, if_neg (by decide), if_neg (by decide), if_pos har]
theorem match_both {w : Vl} (h : rightV w = true) (h5 : w.kind = 5) (hc : w.co.kind ≠ 5) : matchA bothP w = match twoV w with
    | .err => .tup [.sl [] .no, .bool false, embR 0 0 false, .int .i64 8]
    | .blame l n => .tup [.sl [] .no, .bool false, embR 2 l n, .int .i64 0]
    | .ok x y => .tup [.sl [embL2 (xS, x), embL2 (yS, y)] .no, .bool true, embR 0 0 false, .int .i64 0] := by
  have hm : matP bothP w [] = match twoV w with
      | .err => ⟨[], false, .err⟩
      | .blame l n => ⟨[], false, .blame l n⟩
      | .ok a b => ⟨[(xS, a), (yS, b)], true, .none⟩ := by
    rw [matP_eq _ _ _ (by decide), if_neg (by decide), if_neg (by decide), if_neg hc, if_neg (by decide), if_neg (by simp [Pt.kind, h5])]
    cases twoV w with
    | err => rfl
    | blame l n => rfl
    | ok x y =>
      have e1 : matP (bothP.kid 0) x [] = ⟨[(xS, x)], true, .none⟩ := by
        show matP patX x [] = _
        rw [matP_eq _ _ _ (by decide), if_neg (by decide), if_pos (by decide)]; rfl
      have e2 : matP (bothP.kid 1) y [(xS, x)] = ⟨[(xS, x), (yS, y)], true, .none⟩ := by
        show matP patY y _ = _
        rw [matP_eq _ _ _ (by decide), if_neg (by decide), if_pos (by decide)]; rfl
      simp only [e1, e2, if_true]
  unfold matchA fitV
  rw [if_pos ⟨by decide, h⟩, hm]
  cases twoV w <;> rfl

theorem valParts_ok (a b : Vl) (c d : Co) : PCalls Try.prog 9 [embV a, embV b, embC c, embC d] (.bool true) := by
  have q1 := heavyV2_ok a b
  have q2 := heavyC2_ok c d
  have q3 := rrightV_ok a
  have q4 := rrightV_ok b
  have q5 := rrightC_ok c
  have q6 := rrightC_ok d
  have qw := wakes_ok
  cases hv : heavyV [a, b] with
  | true =>
    rw [hv] at q1
    refine pcalls_text C_ok Try.func9 rfl (by decide) (Nat.le_of_ble_eq_true rfl) (by decide) rfl fun ok H => ?_
    rw [Try.results9]
    repeat' first
     | ((first | apply goGb_op (fun _ _ => rfl) | apply goDGb_op (fun _ _ => rfl)); (· intro hb; (try simp only [Bool.and_eq_true, Bool.not_eq_true', Bool.or_eq_false_iff, Bool.not_eq_false'] at hb); simp only [hb, ↓upd_eq, ↓envL_cons, WZ, if_true, if_false, reduceIte, Nat.reduceEqDiff, Nat.reduceAdd, Nat.reduceLT, Nat.reduceLeDiff, reduceCtorEq, Nat.reduceMul, implies_true, forall_eq_or_imp, forall_eq, Nat.reducePow, W1, W1C, W1P, W1V, W1L, W5]; exact ⟨rfl, trivial⟩))
     | ((first | apply goGb_call (q1) | apply goDGb_call (q1)); (· intro hb; (try simp only [Bool.and_eq_true, Bool.not_eq_true', Bool.or_eq_false_iff, Bool.not_eq_false'] at hb); simp only [hb, AV.norm, AV.normL, W2, W2C, W2P, W2V, W2L, ↓upd_eq, ↓envL_cons, WZ, if_true, if_false, reduceIte, Nat.reduceEqDiff, Nat.reduceAdd, Nat.reduceLT, Nat.reduceLeDiff, reduceCtorEq, Nat.reduceMul, implies_true, forall_eq_or_imp, forall_eq, Nat.reducePow, W1, W1C, W1P, W1V, W1L, W5]; rfl))
     | (with_reducible first | apply bA | apply bB | apply bC | apply bD | apply bE | apply bF | apply bG | apply bH | apply bI | apply bJ | apply bK | apply bL) <;> intro h <;> try simp only [h, ↓upd_eq, ↓envL_cons, WZ, if_true, if_false, reduceIte, Nat.reduceEqDiff, Nat.reduceAdd, Nat.reduceLT, Nat.reduceLeDiff, reduceCtorEq, Nat.reduceMul, implies_true, forall_eq_or_imp, forall_eq, Nat.reducePow, W1, W1C, W1P, W1V, W1L, W5]
     | ((first | refine goCall_norm ?_ | refine goDCall_norm ?_); simp only [AV.norm, AV.normL, W2, W2C, W2P, W2V, W2L]; first | refine goCall_p (q1) (.inl rfl) ?_ | refine goDCall_p (q1) (.inl rfl) ?_)
     | refine go_draw (id := 22) C_ok (fun _ => trivial) mixed 0 Try.f9.ntmps rfl (by kernel_rfl) (by decide) ?_
     | simp only [↓upd_eq, ↓envL_cons, WZ, if_true, if_false, reduceIte, Nat.reduceEqDiff, Nat.reduceAdd, Nat.reduceLT, Nat.reduceLeDiff, reduceCtorEq, Nat.reduceMul, implies_true, forall_eq_or_imp, forall_eq, Nat.reducePow, W1, W1C, W1P, W1V, W1L, W5]
  | false =>
  rw [hv] at q1
  cases hh : heavyC [c, d] with
  | true =>
    rw [hh] at q2
    refine pcalls_text C_ok Try.func9 rfl (by decide) (Nat.le_of_ble_eq_true rfl) (by decide) rfl fun ok H => ?_
    rw [Try.results9]
    repeat' first
     | ((first | apply goGb_op (fun _ _ => rfl) | apply goDGb_op (fun _ _ => rfl)); (· intro hb; (try simp only [Bool.and_eq_true, Bool.not_eq_true', Bool.or_eq_false_iff, Bool.not_eq_false'] at hb); simp only [hb, ↓upd_eq, ↓envL_cons, WZ, if_true, if_false, reduceIte, Nat.reduceEqDiff, Nat.reduceAdd, Nat.reduceLT, Nat.reduceLeDiff, reduceCtorEq, Nat.reduceMul, implies_true, forall_eq_or_imp, forall_eq, Nat.reducePow, W1, W1C, W1P, W1V, W1L, W5]; exact ⟨rfl, trivial⟩))
     | ((first | apply goGb_call (q1) | apply goDGb_call (q1) | apply goGb_call (q2) | apply goDGb_call (q2)); (· intro hb; (try simp only [Bool.and_eq_true, Bool.not_eq_true', Bool.or_eq_false_iff, Bool.not_eq_false'] at hb); simp only [hb, AV.norm, AV.normL, W2, W2C, W2P, W2V, W2L, ↓upd_eq, ↓envL_cons, WZ, if_true, if_false, reduceIte, Nat.reduceEqDiff, Nat.reduceAdd, Nat.reduceLT, Nat.reduceLeDiff, reduceCtorEq, Nat.reduceMul, implies_true, forall_eq_or_imp, forall_eq, Nat.reducePow, W1, W1C, W1P, W1V, W1L, W5]; rfl))
     | (with_reducible first | apply bA | apply bB | apply bC | apply bD | apply bE | apply bF | apply bG | apply bH | apply bI | apply bJ | apply bK | apply bL) <;> intro h <;> try simp only [h, ↓upd_eq, ↓envL_cons, WZ, if_true, if_false, reduceIte, Nat.reduceEqDiff, Nat.reduceAdd, Nat.reduceLT, Nat.reduceLeDiff, reduceCtorEq, Nat.reduceMul, implies_true, forall_eq_or_imp, forall_eq, Nat.reducePow, W1, W1C, W1P, W1V, W1L, W5]
     | ((first | refine goCall_norm ?_ | refine goDCall_norm ?_); simp only [AV.norm, AV.normL, W2, W2C, W2P, W2V, W2L]; first | refine goCall_p (q1) (.inl rfl) ?_ | refine goCall_p (q2) (.inl rfl) ?_ | refine goDCall_p (q1) (.inl rfl) ?_ | refine goDCall_p (q2) (.inl rfl) ?_)
     | refine go_draw (id := 22) C_ok (fun _ => trivial) mixed 0 Try.f9.ntmps rfl (by kernel_rfl) (by decide) ?_
     | simp only [↓upd_eq, ↓envL_cons, WZ, if_true, if_false, reduceIte, Nat.reduceEqDiff, Nat.reduceAdd, Nat.reduceLT, Nat.reduceLeDiff, reduceCtorEq, Nat.reduceMul, implies_true, forall_eq_or_imp, forall_eq, Nat.reducePow, W1, W1C, W1P, W1V, W1L, W5]
  | false =>
  rw [hh] at q2
  cases ha : rightV a with
  | false =>
    rw [ha] at q3
    refine pcalls_text C_ok Try.func9 rfl (by decide) (Nat.le_of_ble_eq_true rfl) (by decide) rfl fun ok H => ?_
    rw [Try.results9]
    repeat' first
     | ((first | apply goGb_op (fun _ _ => rfl) | apply goDGb_op (fun _ _ => rfl)); (· intro hb; (try simp only [Bool.and_eq_true, Bool.not_eq_true', Bool.or_eq_false_iff, Bool.not_eq_false'] at hb); simp only [hb, ↓upd_eq, ↓envL_cons, WZ, if_true, if_false, reduceIte, Nat.reduceEqDiff, Nat.reduceAdd, Nat.reduceLT, Nat.reduceLeDiff, reduceCtorEq, Nat.reduceMul, implies_true, forall_eq_or_imp, forall_eq, Nat.reducePow, W1, W1C, W1P, W1V, W1L, W5]; exact ⟨rfl, trivial⟩))
     | ((first | apply goGb_call (q1) | apply goDGb_call (q1) | apply goGb_call (q2) | apply goDGb_call (q2) | apply goGb_call (q3) | apply goDGb_call (q3)); (· intro hb; (try simp only [Bool.and_eq_true, Bool.not_eq_true', Bool.or_eq_false_iff, Bool.not_eq_false'] at hb); simp only [hb, AV.norm, AV.normL, W2, W2C, W2P, W2V, W2L, ↓upd_eq, ↓envL_cons, WZ, if_true, if_false, reduceIte, Nat.reduceEqDiff, Nat.reduceAdd, Nat.reduceLT, Nat.reduceLeDiff, reduceCtorEq, Nat.reduceMul, implies_true, forall_eq_or_imp, forall_eq, Nat.reducePow, W1, W1C, W1P, W1V, W1L, W5]; rfl))
     | (with_reducible first | apply bA | apply bB | apply bC | apply bD | apply bE | apply bF | apply bG | apply bH | apply bI | apply bJ | apply bK | apply bL) <;> intro h <;> try simp only [h, ↓upd_eq, ↓envL_cons, WZ, if_true, if_false, reduceIte, Nat.reduceEqDiff, Nat.reduceAdd, Nat.reduceLT, Nat.reduceLeDiff, reduceCtorEq, Nat.reduceMul, implies_true, forall_eq_or_imp, forall_eq, Nat.reducePow, W1, W1C, W1P, W1V, W1L, W5]
     | ((first | refine goCall_norm ?_ | refine goDCall_norm ?_); simp only [AV.norm, AV.normL, W2, W2C, W2P, W2V, W2L]; first | refine goCall_p (q1) (.inl rfl) ?_ | refine goCall_p (q2) (.inl rfl) ?_ | refine goCall_p (q3) (.inl rfl) ?_ | refine goDCall_p (q1) (.inl rfl) ?_ | refine goDCall_p (q2) (.inl rfl) ?_ | refine goDCall_p (q3) (.inl rfl) ?_)
     | refine go_draw (id := 22) C_ok (fun _ => trivial) mixed 0 Try.f9.ntmps rfl (by kernel_rfl) (by decide) ?_
     | simp only [↓upd_eq, ↓envL_cons, WZ, if_true, if_false, reduceIte, Nat.reduceEqDiff, Nat.reduceAdd, Nat.reduceLT, Nat.reduceLeDiff, reduceCtorEq, Nat.reduceMul, implies_true, forall_eq_or_imp, forall_eq, Nat.reducePow, W1, W1C, W1P, W1V, W1L, W5]
  | true =>
  rw [ha] at q3
  cases hb : rightV b with
  | false =>
    rw [hb] at q4
    refine pcalls_text C_ok Try.func9 rfl (by decide) (Nat.le_of_ble_eq_true rfl) (by decide) rfl fun ok H => ?_
    rw [Try.results9]
    repeat' first
     | ((first | apply goGb_op (fun _ _ => rfl) | apply goDGb_op (fun _ _ => rfl)); (· intro hb; (try simp only [Bool.and_eq_true, Bool.not_eq_true', Bool.or_eq_false_iff, Bool.not_eq_false'] at hb); simp only [hb, ↓upd_eq, ↓envL_cons, WZ, if_true, if_false, reduceIte, Nat.reduceEqDiff, Nat.reduceAdd, Nat.reduceLT, Nat.reduceLeDiff, reduceCtorEq, Nat.reduceMul, implies_true, forall_eq_or_imp, forall_eq, Nat.reducePow, W1, W1C, W1P, W1V, W1L, W5]; exact ⟨rfl, trivial⟩))
     | ((first | apply goGb_call (q1) | apply goDGb_call (q1) | apply goGb_call (q2) | apply goDGb_call (q2) | apply goGb_call (q3) | apply goDGb_call (q3) | apply goGb_call (q4) | apply goDGb_call (q4)); (· intro hb; (try simp only [Bool.and_eq_true, Bool.not_eq_true', Bool.or_eq_false_iff, Bool.not_eq_false'] at hb); simp only [hb, AV.norm, AV.normL, W2, W2C, W2P, W2V, W2L, ↓upd_eq, ↓envL_cons, WZ, if_true, if_false, reduceIte, Nat.reduceEqDiff, Nat.reduceAdd, Nat.reduceLT, Nat.reduceLeDiff, reduceCtorEq, Nat.reduceMul, implies_true, forall_eq_or_imp, forall_eq, Nat.reducePow, W1, W1C, W1P, W1V, W1L, W5]; rfl))
     | (with_reducible first | apply bA | apply bB | apply bC | apply bD | apply bE | apply bF | apply bG | apply bH | apply bI | apply bJ | apply bK | apply bL) <;> intro h <;> try simp only [h, ↓upd_eq, ↓envL_cons, WZ, if_true, if_false, reduceIte, Nat.reduceEqDiff, Nat.reduceAdd, Nat.reduceLT, Nat.reduceLeDiff, reduceCtorEq, Nat.reduceMul, implies_true, forall_eq_or_imp, forall_eq, Nat.reducePow, W1, W1C, W1P, W1V, W1L, W5]
     | ((first | refine goCall_norm ?_ | refine goDCall_norm ?_); simp only [AV.norm, AV.normL, W2, W2C, W2P, W2V, W2L]; first | refine goCall_p (q1) (.inl rfl) ?_ | refine goCall_p (q2) (.inl rfl) ?_ | refine goCall_p (q3) (.inl rfl) ?_ | refine goCall_p (q4) (.inl rfl) ?_ | refine goDCall_p (q1) (.inl rfl) ?_ | refine goDCall_p (q2) (.inl rfl) ?_ | refine goDCall_p (q3) (.inl rfl) ?_ | refine goDCall_p (q4) (.inl rfl) ?_)
     | refine go_draw (id := 22) C_ok (fun _ => trivial) mixed 0 Try.f9.ntmps rfl (by kernel_rfl) (by decide) ?_
     | simp only [↓upd_eq, ↓envL_cons, WZ, if_true, if_false, reduceIte, Nat.reduceEqDiff, Nat.reduceAdd, Nat.reduceLT, Nat.reduceLeDiff, reduceCtorEq, Nat.reduceMul, implies_true, forall_eq_or_imp, forall_eq, Nat.reducePow, W1, W1C, W1P, W1V, W1L, W5]
  | true =>
  rw [hb] at q4
  cases hc : rightC c with
  | false =>
    rw [hc] at q5
    refine pcalls_text C_ok Try.func9 rfl (by decide) (Nat.le_of_ble_eq_true rfl) (by decide) rfl fun ok H => ?_
    rw [Try.results9]
    repeat' first
     | ((first | apply goGb_op (fun _ _ => rfl) | apply goDGb_op (fun _ _ => rfl)); (· intro hb; (try simp only [Bool.and_eq_true, Bool.not_eq_true', Bool.or_eq_false_iff, Bool.not_eq_false'] at hb); simp only [hb, ↓upd_eq, ↓envL_cons, WZ, if_true, if_false, reduceIte, Nat.reduceEqDiff, Nat.reduceAdd, Nat.reduceLT, Nat.reduceLeDiff, reduceCtorEq, Nat.reduceMul, implies_true, forall_eq_or_imp, forall_eq, Nat.reducePow, W1, W1C, W1P, W1V, W1L, W5]; exact ⟨rfl, trivial⟩))
     | ((first | apply goGb_call (q1) | apply goDGb_call (q1) | apply goGb_call (q2) | apply goDGb_call (q2) | apply goGb_call (q3) | apply goDGb_call (q3) | apply goGb_call (q4) | apply goDGb_call (q4) | apply goGb_call (q5) | apply goDGb_call (q5)); (· intro hb; (try simp only [Bool.and_eq_true, Bool.not_eq_true', Bool.or_eq_false_iff, Bool.not_eq_false'] at hb); simp only [hb, AV.norm, AV.normL, W2, W2C, W2P, W2V, W2L, ↓upd_eq, ↓envL_cons, WZ, if_true, if_false, reduceIte, Nat.reduceEqDiff, Nat.reduceAdd, Nat.reduceLT, Nat.reduceLeDiff, reduceCtorEq, Nat.reduceMul, implies_true, forall_eq_or_imp, forall_eq, Nat.reducePow, W1, W1C, W1P, W1V, W1L, W5]; rfl))
     | (with_reducible first | apply bA | apply bB | apply bC | apply bD | apply bE | apply bF | apply bG | apply bH | apply bI | apply bJ | apply bK | apply bL) <;> intro h <;> try simp only [h, ↓upd_eq, ↓envL_cons, WZ, if_true, if_false, reduceIte, Nat.reduceEqDiff, Nat.reduceAdd, Nat.reduceLT, Nat.reduceLeDiff, reduceCtorEq, Nat.reduceMul, implies_true, forall_eq_or_imp, forall_eq, Nat.reducePow, W1, W1C, W1P, W1V, W1L, W5]
     | ((first | refine goCall_norm ?_ | refine goDCall_norm ?_); simp only [AV.norm, AV.normL, W2, W2C, W2P, W2V, W2L]; first | refine goCall_p (q1) (.inl rfl) ?_ | refine goCall_p (q2) (.inl rfl) ?_ | refine goCall_p (q3) (.inl rfl) ?_ | refine goCall_p (q4) (.inl rfl) ?_ | refine goCall_p (q5) (.inl rfl) ?_ | refine goDCall_p (q1) (.inl rfl) ?_ | refine goDCall_p (q2) (.inl rfl) ?_ | refine goDCall_p (q3) (.inl rfl) ?_ | refine goDCall_p (q4) (.inl rfl) ?_ | refine goDCall_p (q5) (.inl rfl) ?_)
     | refine go_draw (id := 22) C_ok (fun _ => trivial) mixed 0 Try.f9.ntmps rfl (by kernel_rfl) (by decide) ?_
     | simp only [↓upd_eq, ↓envL_cons, WZ, if_true, if_false, reduceIte, Nat.reduceEqDiff, Nat.reduceAdd, Nat.reduceLT, Nat.reduceLeDiff, reduceCtorEq, Nat.reduceMul, implies_true, forall_eq_or_imp, forall_eq, Nat.reducePow, W1, W1C, W1P, W1V, W1L, W5]
  | true =>
  rw [hc] at q5
  cases hd : rightC d with
  | false =>
    rw [hd] at q6
    refine pcalls_text C_ok Try.func9 rfl (by decide) (Nat.le_of_ble_eq_true rfl) (by decide) rfl fun ok H => ?_
    rw [Try.results9]
    repeat' first
     | ((first | apply goGb_op (fun _ _ => rfl) | apply goDGb_op (fun _ _ => rfl)); (· intro hb; (try simp only [Bool.and_eq_true, Bool.not_eq_true', Bool.or_eq_false_iff, Bool.not_eq_false'] at hb); simp only [hb, ↓upd_eq, ↓envL_cons, WZ, if_true, if_false, reduceIte, Nat.reduceEqDiff, Nat.reduceAdd, Nat.reduceLT, Nat.reduceLeDiff, reduceCtorEq, Nat.reduceMul, implies_true, forall_eq_or_imp, forall_eq, Nat.reducePow, W1, W1C, W1P, W1V, W1L, W5]; exact ⟨rfl, trivial⟩))
     | ((first | apply goGb_call (q1) | apply goDGb_call (q1) | apply goGb_call (q2) | apply goDGb_call (q2) | apply goGb_call (q3) | apply goDGb_call (q3) | apply goGb_call (q4) | apply goDGb_call (q4) | apply goGb_call (q5) | apply goDGb_call (q5) | apply goGb_call (q6) | apply goDGb_call (q6)); (· intro hb; (try simp only [Bool.and_eq_true, Bool.not_eq_true', Bool.or_eq_false_iff, Bool.not_eq_false'] at hb); simp only [hb, AV.norm, AV.normL, W2, W2C, W2P, W2V, W2L, ↓upd_eq, ↓envL_cons, WZ, if_true, if_false, reduceIte, Nat.reduceEqDiff, Nat.reduceAdd, Nat.reduceLT, Nat.reduceLeDiff, reduceCtorEq, Nat.reduceMul, implies_true, forall_eq_or_imp, forall_eq, Nat.reducePow, W1, W1C, W1P, W1V, W1L, W5]; rfl))
     | (with_reducible first | apply bA | apply bB | apply bC | apply bD | apply bE | apply bF | apply bG | apply bH | apply bI | apply bJ | apply bK | apply bL) <;> intro h <;> try simp only [h, ↓upd_eq, ↓envL_cons, WZ, if_true, if_false, reduceIte, Nat.reduceEqDiff, Nat.reduceAdd, Nat.reduceLT, Nat.reduceLeDiff, reduceCtorEq, Nat.reduceMul, implies_true, forall_eq_or_imp, forall_eq, Nat.reducePow, W1, W1C, W1P, W1V, W1L, W5]
     | ((first | refine goCall_norm ?_ | refine goDCall_norm ?_); simp only [AV.norm, AV.normL, W2, W2C, W2P, W2V, W2L]; first | refine goCall_p (q1) (.inl rfl) ?_ | refine goCall_p (q2) (.inl rfl) ?_ | refine goCall_p (q3) (.inl rfl) ?_ | refine goCall_p (q4) (.inl rfl) ?_ | refine goCall_p (q5) (.inl rfl) ?_ | refine goCall_p (q6) (.inl rfl) ?_ | refine goDCall_p (q1) (.inl rfl) ?_ | refine goDCall_p (q2) (.inl rfl) ?_ | refine goDCall_p (q3) (.inl rfl) ?_ | refine goDCall_p (q4) (.inl rfl) ?_ | refine goDCall_p (q5) (.inl rfl) ?_ | refine goDCall_p (q6) (.inl rfl) ?_)
     | refine go_draw (id := 22) C_ok (fun _ => trivial) mixed 0 Try.f9.ntmps rfl (by kernel_rfl) (by decide) ?_
     | simp only [↓upd_eq, ↓envL_cons, WZ, if_true, if_false, reduceIte, Nat.reduceEqDiff, Nat.reduceAdd, Nat.reduceLT, Nat.reduceLeDiff, reduceCtorEq, Nat.reduceMul, implies_true, forall_eq_or_imp, forall_eq, Nat.reducePow, W1, W1C, W1P, W1V, W1L, W5]
  | true =>
  rw [hd] at q6
  cases k1 : (c.kind == 1 && d.kind == 1) with
  | true =>
    refine pcalls_text C_ok Try.func9 rfl (by decide) (Nat.le_of_ble_eq_true rfl) (by decide) rfl fun ok H => ?_
    rw [Try.results9]
    repeat' first
     | ((first | apply goGb_op (fun _ _ => rfl) | apply goDGb_op (fun _ _ => rfl)); (· intro hb; (try simp only [Bool.and_eq_true, Bool.not_eq_true', Bool.or_eq_false_iff, Bool.not_eq_false'] at hb); simp only [hb, ↓upd_eq, ↓envL_cons, WZ, if_true, if_false, reduceIte, Nat.reduceEqDiff, Nat.reduceAdd, Nat.reduceLT, Nat.reduceLeDiff, reduceCtorEq, Nat.reduceMul, implies_true, forall_eq_or_imp, forall_eq, Nat.reducePow, W1, W1C, W1P, W1V, W1L, W5, k1]; exact ⟨rfl, trivial⟩))
     | ((first | apply goGb_call (q1) | apply goDGb_call (q1) | apply goGb_call (q2) | apply goDGb_call (q2) | apply goGb_call (q3) | apply goDGb_call (q3) | apply goGb_call (q4) | apply goDGb_call (q4) | apply goGb_call (q5) | apply goDGb_call (q5) | apply goGb_call (q6) | apply goDGb_call (q6)); (· intro hb; (try simp only [Bool.and_eq_true, Bool.not_eq_true', Bool.or_eq_false_iff, Bool.not_eq_false'] at hb); simp only [hb, AV.norm, AV.normL, W2, W2C, W2P, W2V, W2L, ↓upd_eq, ↓envL_cons, WZ, if_true, if_false, reduceIte, Nat.reduceEqDiff, Nat.reduceAdd, Nat.reduceLT, Nat.reduceLeDiff, reduceCtorEq, Nat.reduceMul, implies_true, forall_eq_or_imp, forall_eq, Nat.reducePow, W1, W1C, W1P, W1V, W1L, W5, k1]; rfl))
     | (with_reducible first | apply bA | apply bB | apply bC | apply bD | apply bE | apply bF | apply bG | apply bH | apply bI | apply bJ | apply bK | apply bL) <;> intro h <;> try simp only [h, ↓upd_eq, ↓envL_cons, WZ, if_true, if_false, reduceIte, Nat.reduceEqDiff, Nat.reduceAdd, Nat.reduceLT, Nat.reduceLeDiff, reduceCtorEq, Nat.reduceMul, implies_true, forall_eq_or_imp, forall_eq, Nat.reducePow, W1, W1C, W1P, W1V, W1L, W5, k1]
     | ((first | refine goCall_norm ?_ | refine goDCall_norm ?_); simp only [AV.norm, AV.normL, W2, W2C, W2P, W2V, W2L, k1]; first | refine goCall_p (q1) (.inl rfl) ?_ | refine goCall_p (q2) (.inl rfl) ?_ | refine goCall_p (q3) (.inl rfl) ?_ | refine goCall_p (q4) (.inl rfl) ?_ | refine goCall_p (q5) (.inl rfl) ?_ | refine goCall_p (q6) (.inl rfl) ?_ | refine goDCall_p (q1) (.inl rfl) ?_ | refine goDCall_p (q2) (.inl rfl) ?_ | refine goDCall_p (q3) (.inl rfl) ?_ | refine goDCall_p (q4) (.inl rfl) ?_ | refine goDCall_p (q5) (.inl rfl) ?_ | refine goDCall_p (q6) (.inl rfl) ?_)
     | refine go_draw (id := 22) C_ok (fun _ => trivial) mixed 0 Try.f9.ntmps rfl (by kernel_rfl) (by decide) ?_
     | simp only [↓upd_eq, ↓envL_cons, WZ, if_true, if_false, reduceIte, Nat.reduceEqDiff, Nat.reduceAdd, Nat.reduceLT, Nat.reduceLeDiff, reduceCtorEq, Nat.reduceMul, implies_true, forall_eq_or_imp, forall_eq, Nat.reducePow, W1, W1C, W1P, W1V, W1L, W5, k1]
    all_goals simp_all
  | false =>
  obtain ⟨hr, hw, hwr, ht⟩ := pair_wrap ha hb hc hd (fun h => by simp [h.1, h.2] at k1)
  have q7 := vWrap_ok (pairW a b) (coPair c d)
  rw [wrapR, if_pos (by rw [rightV_pairW ha hb, hr]; rfl), hw, resW] at q7
  have q8 := vParts_ok (setC (pairW a b) (coPair c d))
  rw [partsR, if_pos hwr, ht] at q8
  have q9 := vWrap_ok a c
  rw [wrapR, if_pos (by rw [ha, hc]; rfl)] at q9
  have qa := vWrap_ok b d
  rw [wrapR, if_pos (by rw [hb, hd]; rfl)] at qa
  have qb := vMatch_ok bothP (setC (pairW a b) (coPair c d)) (by decide)
  rw [match_both hwr rfl (show (3 : Int) ≠ 5 by decide), ht] at qb
  have b0 : ((0 : Int) != 0) = false := rfl
  have b2 : ((2 : Int) != 0) = true := rfl
  have b8 : ((8 : Int) != 0) = true := rfl
  have z0 : ((0 : Int) == 0) = true := rfl
  have z1 : ((8 : Int) == 0) = false := rfl
  have z8 : ((8 : Int) == 8) = true := rfl
  have z2 : ((2 : Int) == 0) = false := rfl
  have n8 : ((8 : Int) != 8) = false := rfl
  have c0 : ((0 : Int) < (2 : Nat)) = True := by simp
  have c1 : ((1 : Int) < (2 : Nat)) = True := by simp
  have t0 : Int.toNat 0 = 0 := rfl
  have t1 : Int.toNat 1 = 1 := rfl
  have y1 : ((0 : Int) ≤ 1) = True := by simp
  have e2 : (((2 : Nat) : Int) == 2) = true := rfl
  obtain ⟨w, hW⟩ : ∃ w, setC (pairW a b) (coPair c d) = w := ⟨_, rfl⟩
  rw [hW] at q7 q8 qb
  have sR := sameR_refl
  have sV := vsame_refl
  cases h1 : wrapA a c with
  | err =>
    obtain ⟨w', k, l, n, e, hq⟩ := resW_shape (wrapA b d)
    rw [hq] at qa
    simp only [twoW, h1, resP, resW] at q8 q9 qb
    have qc := sameR_refl 0 0 false
    unfold embR at q7 q8 q9 qa qb qc
    refine pcalls_text C_ok Try.func9 rfl (by decide) (Nat.le_of_ble_eq_true rfl) (by decide) rfl fun ok H => ?_
    rw [Try.results9]
    repeat' first
     | ((first | apply goGb_op (fun _ _ => rfl) | apply goDGb_op (fun _ _ => rfl)); (· intro hb; (try simp only [Bool.and_eq_true, Bool.not_eq_true', Bool.or_eq_false_iff, Bool.not_eq_false'] at hb); simp only [hb, ↓upd_eq, ↓envL_cons, WZ, if_true, if_false, reduceIte, Nat.reduceEqDiff, Nat.reduceAdd, Nat.reduceLT, Nat.reduceLeDiff, reduceCtorEq, Nat.reduceMul, implies_true, forall_eq_or_imp, forall_eq, Nat.reducePow, W1, W1C, W1P, W1V, W1L, W5, k1, b0, b2, b8, z0, z1, z2, z8, n8]; exact ⟨rfl, trivial⟩))
     | ((first | apply goGb_call (q1) | apply goDGb_call (q1) | apply goGb_call (q2) | apply goDGb_call (q2) | apply goGb_call (q3) | apply goDGb_call (q3) | apply goGb_call (q4) | apply goDGb_call (q4) | apply goGb_call (q5) | apply goDGb_call (q5) | apply goGb_call (q6) | apply goDGb_call (q6) | apply goGb_call (q7) | apply goDGb_call (q7) | apply goGb_call (q8) | apply goDGb_call (q8) | apply goGb_call (q9) | apply goDGb_call (q9) | apply goGb_call (qa) | apply goDGb_call (qa) | apply goGb_call (qb) | apply goDGb_call (qb) | apply goGb_call (qc) | apply goDGb_call (qc) | apply goGb_call (qw) | apply goDGb_call (qw)); (· intro hb; (try simp only [Bool.and_eq_true, Bool.not_eq_true', Bool.or_eq_false_iff, Bool.not_eq_false'] at hb); simp only [hb, AV.norm, AV.normL, W2, W2C, W2P, W2V, W2L, ↓upd_eq, ↓envL_cons, WZ, if_true, if_false, reduceIte, Nat.reduceEqDiff, Nat.reduceAdd, Nat.reduceLT, Nat.reduceLeDiff, reduceCtorEq, Nat.reduceMul, implies_true, forall_eq_or_imp, forall_eq, Nat.reducePow, W1, W1C, W1P, W1V, W1L, W5, k1, b0, b2, b8, z0, z1, z2, z8, n8]; rfl))
     | (with_reducible first | apply bA | apply bB | apply bC | apply bD | apply bE | apply bF | apply bG | apply bH | apply bI | apply bJ | apply bK | apply bL) <;> intro h <;> try simp only [h, ↓upd_eq, ↓envL_cons, WZ, if_true, if_false, reduceIte, Nat.reduceEqDiff, Nat.reduceAdd, Nat.reduceLT, Nat.reduceLeDiff, reduceCtorEq, Nat.reduceMul, implies_true, forall_eq_or_imp, forall_eq, Nat.reducePow, W1, W1C, W1P, W1V, W1L, W5, k1, b0, b2, b8, z0, z1, z2, z8, n8]
     | ((first | refine goCall_norm ?_ | refine goDCall_norm ?_); simp only [AV.norm, AV.normL, W2, W2C, W2P, W2V, W2L, k1, b0, b2, b8, z0, z1, z2, z8, n8]; first | refine goCall_p (q1) (.inl rfl) ?_ | refine goCall_p (q2) (.inl rfl) ?_ | refine goCall_p (q3) (.inl rfl) ?_ | refine goCall_p (q4) (.inl rfl) ?_ | refine goCall_p (q5) (.inl rfl) ?_ | refine goCall_p (q6) (.inl rfl) ?_ | refine goCall_p (q7) (.inl rfl) ?_ | refine goCall_p (q8) (.inl rfl) ?_ | refine goCall_p (q9) (.inl rfl) ?_ | refine goCall_p (qa) (.inl rfl) ?_ | refine goCall_p (qb) (.inl rfl) ?_ | refine goCall_p (qc) (.inl rfl) ?_ | refine goCall_p (qw) (.inl rfl) ?_ | refine goDCall_p (q1) (.inl rfl) ?_ | refine goDCall_p (q2) (.inl rfl) ?_ | refine goDCall_p (q3) (.inl rfl) ?_ | refine goDCall_p (q4) (.inl rfl) ?_ | refine goDCall_p (q5) (.inl rfl) ?_ | refine goDCall_p (q6) (.inl rfl) ?_ | refine goDCall_p (q7) (.inl rfl) ?_ | refine goDCall_p (q8) (.inl rfl) ?_ | refine goDCall_p (q9) (.inl rfl) ?_ | refine goDCall_p (qa) (.inl rfl) ?_ | refine goDCall_p (qb) (.inl rfl) ?_ | refine goDCall_p (qc) (.inl rfl) ?_ | refine goDCall_p (qw) (.inl rfl) ?_)
     | refine go_draw (id := 22) C_ok (fun _ => trivial) mixed 0 Try.f9.ntmps rfl (by kernel_rfl) (by decide) ?_
     | simp only [↓upd_eq, ↓envL_cons, WZ, if_true, if_false, reduceIte, Nat.reduceEqDiff, Nat.reduceAdd, Nat.reduceLT, Nat.reduceLeDiff, reduceCtorEq, Nat.reduceMul, implies_true, forall_eq_or_imp, forall_eq, Nat.reducePow, W1, W1C, W1P, W1V, W1L, W5, k1, b0, b2, b8, z0, z1, z2, z8, n8]
  | blame l n =>
    obtain ⟨w', k, l', n', e, hq⟩ := resW_shape (wrapA b d)
    rw [hq] at qa
    simp only [twoW, h1, resP, resW] at q8 q9 qb
    have qc := sameR_refl 2 l n
    unfold embR at q7 q8 q9 qa qb qc
    refine pcalls_text C_ok Try.func9 rfl (by decide) (Nat.le_of_ble_eq_true rfl) (by decide) rfl fun ok H => ?_
    rw [Try.results9]
    repeat' first
     | ((first | apply goGb_op (fun _ _ => rfl) | apply goDGb_op (fun _ _ => rfl)); (· intro hb; (try simp only [Bool.and_eq_true, Bool.not_eq_true', Bool.or_eq_false_iff, Bool.not_eq_false'] at hb); simp only [hb, ↓upd_eq, ↓envL_cons, WZ, if_true, if_false, reduceIte, Nat.reduceEqDiff, Nat.reduceAdd, Nat.reduceLT, Nat.reduceLeDiff, reduceCtorEq, Nat.reduceMul, implies_true, forall_eq_or_imp, forall_eq, Nat.reducePow, W1, W1C, W1P, W1V, W1L, W5, k1, b0, b2, b8, z0, z1, z2, z8, n8]; exact ⟨rfl, trivial⟩))
     | ((first | apply goGb_call (q1) | apply goDGb_call (q1) | apply goGb_call (q2) | apply goDGb_call (q2) | apply goGb_call (q3) | apply goDGb_call (q3) | apply goGb_call (q4) | apply goDGb_call (q4) | apply goGb_call (q5) | apply goDGb_call (q5) | apply goGb_call (q6) | apply goDGb_call (q6) | apply goGb_call (q7) | apply goDGb_call (q7) | apply goGb_call (q8) | apply goDGb_call (q8) | apply goGb_call (q9) | apply goDGb_call (q9) | apply goGb_call (qa) | apply goDGb_call (qa) | apply goGb_call (qb) | apply goDGb_call (qb) | apply goGb_call (qc) | apply goDGb_call (qc) | apply goGb_call (qw) | apply goDGb_call (qw)); (· intro hb; (try simp only [Bool.and_eq_true, Bool.not_eq_true', Bool.or_eq_false_iff, Bool.not_eq_false'] at hb); simp only [hb, AV.norm, AV.normL, W2, W2C, W2P, W2V, W2L, ↓upd_eq, ↓envL_cons, WZ, if_true, if_false, reduceIte, Nat.reduceEqDiff, Nat.reduceAdd, Nat.reduceLT, Nat.reduceLeDiff, reduceCtorEq, Nat.reduceMul, implies_true, forall_eq_or_imp, forall_eq, Nat.reducePow, W1, W1C, W1P, W1V, W1L, W5, k1, b0, b2, b8, z0, z1, z2, z8, n8]; rfl))
     | (with_reducible first | apply bA | apply bB | apply bC | apply bD | apply bE | apply bF | apply bG | apply bH | apply bI | apply bJ | apply bK | apply bL) <;> intro h <;> try simp only [h, ↓upd_eq, ↓envL_cons, WZ, if_true, if_false, reduceIte, Nat.reduceEqDiff, Nat.reduceAdd, Nat.reduceLT, Nat.reduceLeDiff, reduceCtorEq, Nat.reduceMul, implies_true, forall_eq_or_imp, forall_eq, Nat.reducePow, W1, W1C, W1P, W1V, W1L, W5, k1, b0, b2, b8, z0, z1, z2, z8, n8]
     | ((first | refine goCall_norm ?_ | refine goDCall_norm ?_); simp only [AV.norm, AV.normL, W2, W2C, W2P, W2V, W2L, k1, b0, b2, b8, z0, z1, z2, z8, n8]; first | refine goCall_p (q1) (.inl rfl) ?_ | refine goCall_p (q2) (.inl rfl) ?_ | refine goCall_p (q3) (.inl rfl) ?_ | refine goCall_p (q4) (.inl rfl) ?_ | refine goCall_p (q5) (.inl rfl) ?_ | refine goCall_p (q6) (.inl rfl) ?_ | refine goCall_p (q7) (.inl rfl) ?_ | refine goCall_p (q8) (.inl rfl) ?_ | refine goCall_p (q9) (.inl rfl) ?_ | refine goCall_p (qa) (.inl rfl) ?_ | refine goCall_p (qb) (.inl rfl) ?_ | refine goCall_p (qc) (.inl rfl) ?_ | refine goCall_p (qw) (.inl rfl) ?_ | refine goDCall_p (q1) (.inl rfl) ?_ | refine goDCall_p (q2) (.inl rfl) ?_ | refine goDCall_p (q3) (.inl rfl) ?_ | refine goDCall_p (q4) (.inl rfl) ?_ | refine goDCall_p (q5) (.inl rfl) ?_ | refine goDCall_p (q6) (.inl rfl) ?_ | refine goDCall_p (q7) (.inl rfl) ?_ | refine goDCall_p (q8) (.inl rfl) ?_ | refine goDCall_p (q9) (.inl rfl) ?_ | refine goDCall_p (qa) (.inl rfl) ?_ | refine goDCall_p (qb) (.inl rfl) ?_ | refine goDCall_p (qc) (.inl rfl) ?_ | refine goDCall_p (qw) (.inl rfl) ?_)
     | refine go_draw (id := 22) C_ok (fun _ => trivial) mixed 0 Try.f9.ntmps rfl (by kernel_rfl) (by decide) ?_
     | simp only [↓upd_eq, ↓envL_cons, WZ, if_true, if_false, reduceIte, Nat.reduceEqDiff, Nat.reduceAdd, Nat.reduceLT, Nat.reduceLeDiff, reduceCtorEq, Nat.reduceMul, implies_true, forall_eq_or_imp, forall_eq, Nat.reducePow, W1, W1C, W1P, W1V, W1L, W5, k1, b0, b2, b8, z0, z1, z2, z8, n8]
  | ok x =>
    cases h2 : wrapA b d with
    | err =>
      simp only [twoW, h1, h2, resP, resW] at q8 q9 qa qb
      have qc := sameR_refl 0 0 false
      unfold embR at q7 q8 q9 qa qb qc
      refine pcalls_text C_ok Try.func9 rfl (by decide) (Nat.le_of_ble_eq_true rfl) (by decide) rfl fun ok H => ?_
      rw [Try.results9]
      repeat' first
       | ((first | apply goGb_op (fun _ _ => rfl) | apply goDGb_op (fun _ _ => rfl)); (· intro hb; (try simp only [Bool.and_eq_true, Bool.not_eq_true', Bool.or_eq_false_iff, Bool.not_eq_false'] at hb); simp only [hb, ↓upd_eq, ↓envL_cons, WZ, if_true, if_false, reduceIte, Nat.reduceEqDiff, Nat.reduceAdd, Nat.reduceLT, Nat.reduceLeDiff, reduceCtorEq, Nat.reduceMul, implies_true, forall_eq_or_imp, forall_eq, Nat.reducePow, W1, W1C, W1P, W1V, W1L, W5, k1, b0, b2, b8, z0, z1, z2, z8, n8]; exact ⟨rfl, trivial⟩))
       | ((first | apply goGb_call (q1) | apply goDGb_call (q1) | apply goGb_call (q2) | apply goDGb_call (q2) | apply goGb_call (q3) | apply goDGb_call (q3) | apply goGb_call (q4) | apply goDGb_call (q4) | apply goGb_call (q5) | apply goDGb_call (q5) | apply goGb_call (q6) | apply goDGb_call (q6) | apply goGb_call (q7) | apply goDGb_call (q7) | apply goGb_call (q8) | apply goDGb_call (q8) | apply goGb_call (q9) | apply goDGb_call (q9) | apply goGb_call (qa) | apply goDGb_call (qa) | apply goGb_call (qb) | apply goDGb_call (qb) | apply goGb_call (qc) | apply goDGb_call (qc) | apply goGb_call (qw) | apply goDGb_call (qw)); (· intro hb; (try simp only [Bool.and_eq_true, Bool.not_eq_true', Bool.or_eq_false_iff, Bool.not_eq_false'] at hb); simp only [hb, AV.norm, AV.normL, W2, W2C, W2P, W2V, W2L, ↓upd_eq, ↓envL_cons, WZ, if_true, if_false, reduceIte, Nat.reduceEqDiff, Nat.reduceAdd, Nat.reduceLT, Nat.reduceLeDiff, reduceCtorEq, Nat.reduceMul, implies_true, forall_eq_or_imp, forall_eq, Nat.reducePow, W1, W1C, W1P, W1V, W1L, W5, k1, b0, b2, b8, z0, z1, z2, z8, n8]; rfl))
       | (with_reducible first | apply bA | apply bB | apply bC | apply bD | apply bE | apply bF | apply bG | apply bH | apply bI | apply bJ | apply bK | apply bL) <;> intro h <;> try simp only [h, ↓upd_eq, ↓envL_cons, WZ, if_true, if_false, reduceIte, Nat.reduceEqDiff, Nat.reduceAdd, Nat.reduceLT, Nat.reduceLeDiff, reduceCtorEq, Nat.reduceMul, implies_true, forall_eq_or_imp, forall_eq, Nat.reducePow, W1, W1C, W1P, W1V, W1L, W5, k1, b0, b2, b8, z0, z1, z2, z8, n8]
       | ((first | refine goCall_norm ?_ | refine goDCall_norm ?_); simp only [AV.norm, AV.normL, W2, W2C, W2P, W2V, W2L, k1, b0, b2, b8, z0, z1, z2, z8, n8]; first | refine goCall_p (q1) (.inl rfl) ?_ | refine goCall_p (q2) (.inl rfl) ?_ | refine goCall_p (q3) (.inl rfl) ?_ | refine goCall_p (q4) (.inl rfl) ?_ | refine goCall_p (q5) (.inl rfl) ?_ | refine goCall_p (q6) (.inl rfl) ?_ | refine goCall_p (q7) (.inl rfl) ?_ | refine goCall_p (q8) (.inl rfl) ?_ | refine goCall_p (q9) (.inl rfl) ?_ | refine goCall_p (qa) (.inl rfl) ?_ | refine goCall_p (qb) (.inl rfl) ?_ | refine goCall_p (qc) (.inl rfl) ?_ | refine goCall_p (qw) (.inl rfl) ?_ | refine goDCall_p (q1) (.inl rfl) ?_ | refine goDCall_p (q2) (.inl rfl) ?_ | refine goDCall_p (q3) (.inl rfl) ?_ | refine goDCall_p (q4) (.inl rfl) ?_ | refine goDCall_p (q5) (.inl rfl) ?_ | refine goDCall_p (q6) (.inl rfl) ?_ | refine goDCall_p (q7) (.inl rfl) ?_ | refine goDCall_p (q8) (.inl rfl) ?_ | refine goDCall_p (q9) (.inl rfl) ?_ | refine goDCall_p (qa) (.inl rfl) ?_ | refine goDCall_p (qb) (.inl rfl) ?_ | refine goDCall_p (qc) (.inl rfl) ?_ | refine goDCall_p (qw) (.inl rfl) ?_)
       | refine go_draw (id := 22) C_ok (fun _ => trivial) mixed 0 Try.f9.ntmps rfl (by kernel_rfl) (by decide) ?_
       | simp only [↓upd_eq, ↓envL_cons, WZ, if_true, if_false, reduceIte, Nat.reduceEqDiff, Nat.reduceAdd, Nat.reduceLT, Nat.reduceLeDiff, reduceCtorEq, Nat.reduceMul, implies_true, forall_eq_or_imp, forall_eq, Nat.reducePow, W1, W1C, W1P, W1V, W1L, W5, k1, b0, b2, b8, z0, z1, z2, z8, n8]
    | blame l n =>
      simp only [twoW, h1, h2, resP, resW] at q8 q9 qa qb
      have qc := sameR_refl 2 l n
      unfold embR at q7 q8 q9 qa qb qc
      refine pcalls_text C_ok Try.func9 rfl (by decide) (Nat.le_of_ble_eq_true rfl) (by decide) rfl fun ok H => ?_
      rw [Try.results9]
      repeat' first
       | ((first | apply goGb_op (fun _ _ => rfl) | apply goDGb_op (fun _ _ => rfl)); (· intro hb; (try simp only [Bool.and_eq_true, Bool.not_eq_true', Bool.or_eq_false_iff, Bool.not_eq_false'] at hb); simp only [hb, ↓upd_eq, ↓envL_cons, WZ, if_true, if_false, reduceIte, Nat.reduceEqDiff, Nat.reduceAdd, Nat.reduceLT, Nat.reduceLeDiff, reduceCtorEq, Nat.reduceMul, implies_true, forall_eq_or_imp, forall_eq, Nat.reducePow, W1, W1C, W1P, W1V, W1L, W5, k1, b0, b2, b8, z0, z1, z2, z8, n8]; exact ⟨rfl, trivial⟩))
       | ((first | apply goGb_call (q1) | apply goDGb_call (q1) | apply goGb_call (q2) | apply goDGb_call (q2) | apply goGb_call (q3) | apply goDGb_call (q3) | apply goGb_call (q4) | apply goDGb_call (q4) | apply goGb_call (q5) | apply goDGb_call (q5) | apply goGb_call (q6) | apply goDGb_call (q6) | apply goGb_call (q7) | apply goDGb_call (q7) | apply goGb_call (q8) | apply goDGb_call (q8) | apply goGb_call (q9) | apply goDGb_call (q9) | apply goGb_call (qa) | apply goDGb_call (qa) | apply goGb_call (qb) | apply goDGb_call (qb) | apply goGb_call (qc) | apply goDGb_call (qc) | apply goGb_call (qw) | apply goDGb_call (qw)); (· intro hb; (try simp only [Bool.and_eq_true, Bool.not_eq_true', Bool.or_eq_false_iff, Bool.not_eq_false'] at hb); simp only [hb, AV.norm, AV.normL, W2, W2C, W2P, W2V, W2L, ↓upd_eq, ↓envL_cons, WZ, if_true, if_false, reduceIte, Nat.reduceEqDiff, Nat.reduceAdd, Nat.reduceLT, Nat.reduceLeDiff, reduceCtorEq, Nat.reduceMul, implies_true, forall_eq_or_imp, forall_eq, Nat.reducePow, W1, W1C, W1P, W1V, W1L, W5, k1, b0, b2, b8, z0, z1, z2, z8, n8]; rfl))
       | (with_reducible first | apply bA | apply bB | apply bC | apply bD | apply bE | apply bF | apply bG | apply bH | apply bI | apply bJ | apply bK | apply bL) <;> intro h <;> try simp only [h, ↓upd_eq, ↓envL_cons, WZ, if_true, if_false, reduceIte, Nat.reduceEqDiff, Nat.reduceAdd, Nat.reduceLT, Nat.reduceLeDiff, reduceCtorEq, Nat.reduceMul, implies_true, forall_eq_or_imp, forall_eq, Nat.reducePow, W1, W1C, W1P, W1V, W1L, W5, k1, b0, b2, b8, z0, z1, z2, z8, n8]
       | ((first | refine goCall_norm ?_ | refine goDCall_norm ?_); simp only [AV.norm, AV.normL, W2, W2C, W2P, W2V, W2L, k1, b0, b2, b8, z0, z1, z2, z8, n8]; first | refine goCall_p (q1) (.inl rfl) ?_ | refine goCall_p (q2) (.inl rfl) ?_ | refine goCall_p (q3) (.inl rfl) ?_ | refine goCall_p (q4) (.inl rfl) ?_ | refine goCall_p (q5) (.inl rfl) ?_ | refine goCall_p (q6) (.inl rfl) ?_ | refine goCall_p (q7) (.inl rfl) ?_ | refine goCall_p (q8) (.inl rfl) ?_ | refine goCall_p (q9) (.inl rfl) ?_ | refine goCall_p (qa) (.inl rfl) ?_ | refine goCall_p (qb) (.inl rfl) ?_ | refine goCall_p (qc) (.inl rfl) ?_ | refine goCall_p (qw) (.inl rfl) ?_ | refine goDCall_p (q1) (.inl rfl) ?_ | refine goDCall_p (q2) (.inl rfl) ?_ | refine goDCall_p (q3) (.inl rfl) ?_ | refine goDCall_p (q4) (.inl rfl) ?_ | refine goDCall_p (q5) (.inl rfl) ?_ | refine goDCall_p (q6) (.inl rfl) ?_ | refine goDCall_p (q7) (.inl rfl) ?_ | refine goDCall_p (q8) (.inl rfl) ?_ | refine goDCall_p (q9) (.inl rfl) ?_ | refine goDCall_p (qa) (.inl rfl) ?_ | refine goDCall_p (qb) (.inl rfl) ?_ | refine goDCall_p (qc) (.inl rfl) ?_ | refine goDCall_p (qw) (.inl rfl) ?_)
       | refine go_draw (id := 22) C_ok (fun _ => trivial) mixed 0 Try.f9.ntmps rfl (by kernel_rfl) (by decide) ?_
       | simp only [↓upd_eq, ↓envL_cons, WZ, if_true, if_false, reduceIte, Nat.reduceEqDiff, Nat.reduceAdd, Nat.reduceLT, Nat.reduceLeDiff, reduceCtorEq, Nat.reduceMul, implies_true, forall_eq_or_imp, forall_eq, Nat.reducePow, W1, W1C, W1P, W1V, W1L, W5, k1, b0, b2, b8, z0, z1, z2, z8, n8]
    | ok y =>
      simp only [twoW, h1, h2, resP, resW] at q8 q9 qa qb
      have qc := sameR_refl 0 0 false
      have qd := vsame_refl x
      have qe := vsame_refl y
      unfold embR at q7 q8 q9 qa qb qc
      refine pcalls_text C_ok Try.func9 rfl (by decide) (Nat.le_of_ble_eq_true rfl) (by decide) rfl fun ok H => ?_
      rw [Try.results9]
      repeat' first
       | ((first | apply goGb_op (fun _ _ => rfl) | apply goDGb_op (fun _ _ => rfl)); (· intro hb; (try simp only [Bool.and_eq_true, Bool.not_eq_true', Bool.or_eq_false_iff, Bool.not_eq_false'] at hb); simp only [hb, ↓upd_eq, ↓envL_cons, WZ, if_true, if_false, reduceIte, Nat.reduceEqDiff, Nat.reduceAdd, Nat.reduceLT, Nat.reduceLeDiff, reduceCtorEq, Nat.reduceMul, implies_true, forall_eq_or_imp, forall_eq, Nat.reducePow, W1, W1C, W1P, W1V, W1L, W5, k1, b0, b2, b8, z0, z1, z2, z8, n8, c0, c1, t0, t1, y1, e2, Int.le_refl, List.length_cons, List.length_nil]; exact ⟨rfl, trivial⟩))
       | ((first | apply goGb_call (q1) | apply goDGb_call (q1) | apply goGb_call (q2) | apply goDGb_call (q2) | apply goGb_call (q3) | apply goDGb_call (q3) | apply goGb_call (q4) | apply goDGb_call (q4) | apply goGb_call (q5) | apply goDGb_call (q5) | apply goGb_call (q6) | apply goDGb_call (q6) | apply goGb_call (q7) | apply goDGb_call (q7) | apply goGb_call (q8) | apply goDGb_call (q8) | apply goGb_call (q9) | apply goDGb_call (q9) | apply goGb_call (qa) | apply goDGb_call (qa) | apply goGb_call (qb) | apply goDGb_call (qb) | apply goGb_call (qc) | apply goDGb_call (qc) | apply goGb_call (qd) | apply goDGb_call (qd) | apply goGb_call (qe) | apply goDGb_call (qe) | apply goGb_call (qw) | apply goDGb_call (qw)); (· intro hb; (try simp only [Bool.and_eq_true, Bool.not_eq_true', Bool.or_eq_false_iff, Bool.not_eq_false'] at hb); simp only [hb, AV.norm, AV.normL, W2, W2C, W2P, W2V, W2L, ↓upd_eq, ↓envL_cons, WZ, if_true, if_false, reduceIte, Nat.reduceEqDiff, Nat.reduceAdd, Nat.reduceLT, Nat.reduceLeDiff, reduceCtorEq, Nat.reduceMul, implies_true, forall_eq_or_imp, forall_eq, Nat.reducePow, W1, W1C, W1P, W1V, W1L, W5, k1, b0, b2, b8, z0, z1, z2, z8, n8, c0, c1, t0, t1, y1, e2, Int.le_refl, List.length_cons, List.length_nil]; rfl))
       | (with_reducible first | apply bA | apply bB | apply bC | apply bD | apply bE | apply bF | apply bG | apply bH | apply bI | apply bJ | apply bK | apply bL) <;> intro h <;> try simp only [h, ↓upd_eq, ↓envL_cons, WZ, if_true, if_false, reduceIte, Nat.reduceEqDiff, Nat.reduceAdd, Nat.reduceLT, Nat.reduceLeDiff, reduceCtorEq, Nat.reduceMul, implies_true, forall_eq_or_imp, forall_eq, Nat.reducePow, W1, W1C, W1P, W1V, W1L, W5, k1, b0, b2, b8, z0, z1, z2, z8, n8, c0, c1, t0, t1, y1, e2, Int.le_refl, List.length_cons, List.length_nil]
       | ((first | refine goCall_norm ?_ | refine goDCall_norm ?_); simp only [AV.norm, AV.normL, W2, W2C, W2P, W2V, W2L, k1, b0, b2, b8, z0, z1, z2, z8, n8, c0, c1, t0, t1, y1, e2, Int.le_refl, List.length_cons, List.length_nil]; first | refine goCall_p (q1) (.inl rfl) ?_ | refine goCall_p (q2) (.inl rfl) ?_ | refine goCall_p (q3) (.inl rfl) ?_ | refine goCall_p (q4) (.inl rfl) ?_ | refine goCall_p (q5) (.inl rfl) ?_ | refine goCall_p (q6) (.inl rfl) ?_ | refine goCall_p (q7) (.inl rfl) ?_ | refine goCall_p (q8) (.inl rfl) ?_ | refine goCall_p (q9) (.inl rfl) ?_ | refine goCall_p (qa) (.inl rfl) ?_ | refine goCall_p (qb) (.inl rfl) ?_ | refine goCall_p (qc) (.inl rfl) ?_ | refine goCall_p (qd) (.inl rfl) ?_ | refine goCall_p (qe) (.inl rfl) ?_ | refine goCall_p (qw) (.inl rfl) ?_ | refine goDCall_p (q1) (.inl rfl) ?_ | refine goDCall_p (q2) (.inl rfl) ?_ | refine goDCall_p (q3) (.inl rfl) ?_ | refine goDCall_p (q4) (.inl rfl) ?_ | refine goDCall_p (q5) (.inl rfl) ?_ | refine goDCall_p (q6) (.inl rfl) ?_ | refine goDCall_p (q7) (.inl rfl) ?_ | refine goDCall_p (q8) (.inl rfl) ?_ | refine goDCall_p (q9) (.inl rfl) ?_ | refine goDCall_p (qa) (.inl rfl) ?_ | refine goDCall_p (qb) (.inl rfl) ?_ | refine goDCall_p (qc) (.inl rfl) ?_ | refine goDCall_p (qd) (.inl rfl) ?_ | refine goDCall_p (qe) (.inl rfl) ?_ | refine goDCall_p (qw) (.inl rfl) ?_)
       | refine go_draw (id := 22) C_ok (fun _ => trivial) mixed 0 Try.f9.ntmps rfl (by kernel_rfl) (by decide) ?_
       | simp only [↓upd_eq, ↓envL_cons, WZ, if_true, if_false, reduceIte, Nat.reduceEqDiff, Nat.reduceAdd, Nat.reduceLT, Nat.reduceLeDiff, reduceCtorEq, Nat.reduceMul, implies_true, forall_eq_or_imp, forall_eq, Nat.reducePow, W1, W1C, W1P, W1V, W1L, W5, k1, b0, b2, b8, z0, z1, z2, z8, n8, c0, c1, t0, t1, y1, e2, Int.le_refl, List.length_cons, List.length_nil]

end Go.Proofs.Ytofogicgnldfhaa
