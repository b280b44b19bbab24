/- Lemmas: what the laws of joints share. No condition. -/
import Derived.Test.YtajdipeebpmifaaPHa
import Derived.Test.YtajdipeebpmifaaPCa

section
/- Rows of coercions joined: what a row comes to. No condition. -/
set_option linter.unusedSimpArgs false
set_option linter.unusedVariables false
set_option maxHeartbeats 4000000
set_option maxRecDepth 100000
namespace Go.Proofs.Ytajdipeebpmifaa
open Go Go.Ab

def idC : Co := .mk 1 0 0 false []
theorem joinE_cases (c d : Co) : joinE c d = 0 ∨ joinE c d = 1 ∨ joinE c d = 8 := by
  unfold joinE; split
  · split <;> simp
  · simp
theorem joinE_bad {c d : Co} (h : (rightC c && rightC d) = false) : joinE c d = 1 ∧ joinC c d = coNone := by
  have e : joinO c d = none := by rw [joinO, h]; rfl
  rw [joinC, joinE, h, e]; exact ⟨rfl, rfl⟩
theorem joinE_good {c d : Co} (h : (rightC c && rightC d) = true) : joinE c d = 0 ∨ joinE c d = 8 := by
  rw [joinE, h]; simp only [if_true]; split <;> simp
theorem joinE_one {c d : Co} (h : joinE c d = 1) : (rightC c && rightC d) = false := by
  cases e : (rightC c && rightC d) with
  | false => rfl
  | true => rcases joinE_good e with h' | h' <;> (rw [h'] at h; cases h)
theorem joinC_none {c d : Co} (h : joinE c d ≠ 0) : joinC c d = coNone := by
  cases e : (rightC c && rightC d) with
  | false => exact (joinE_bad e).2
  | true =>
    rw [joinE, e] at h
    rw [joinC]
    cases o : joinO c d with
    | none => rfl
    | some j => rw [o] at h; exact absurd rfl h
theorem joinE_zero {c d : Co} (h : joinE c d = 0) : ∃ k m j : K, c = k.co ∧ k.ok = true ∧ d = m.co ∧ m.ok = true ∧ joinK k m = some j ∧ j.ok = true ∧ joinC c d = j.co := by
  cases e : (rightC c && rightC d) with
  | false => rw [(joinE_bad e).1] at h; cases h
  | true =>
    simp only [Bool.and_eq_true] at e
    obtain ⟨k, rfl, hk⟩ := K.of_right' e.1
    obtain ⟨m, rfl, hm⟩ := K.of_right' e.2
    rw [joinE, e.1, e.2, joinO_co hk hm] at h
    cases o : joinR k m with
    | none => rw [o] at h; cases h
    | some j =>
      have := joinR_some.1 o
      exact ⟨k, m, j, rfl, hk, rfl, hm, this.1, this.2, by rw [joinC, joinO_co hk hm, o]⟩
theorem joinE_of {k m j : K} (hk : k.ok = true) (hm : m.ok = true) (h : joinK k m = some j) (hj : j.ok = true) : joinE k.co m.co = 0 ∧ joinC k.co m.co = j.co := by
  have o : joinR k m = some j := joinR_some.2 ⟨h, hj⟩
  rw [joinE, joinC, joinO_co hk hm, o, K.right_co, K.right_co, hk, hm]
  exact ⟨rfl, rfl⟩
theorem joinC_right {c d : Co} (h : joinE c d = 0) : rightC (joinC c d) = true := by
  obtain ⟨k, m, j, _, _, _, _, _, hj, e⟩ := joinE_zero h
  rw [e, K.right_co]; exact hj
theorem idC_right : rightC idC = true := by decide
theorem joinE_id {c : Co} (h : rightC c = true) : joinE idC c = 0 ∧ joinC idC c = c := by
  obtain ⟨k, rfl, hk⟩ := K.of_right' h
  exact joinE_of (k := .id) (m := k) rfl hk (joinK_id k) hk
theorem joinE_id_r {c : Co} (h : rightC c = true) : joinE c idC = 0 ∧ joinC c idC = c := by
  obtain ⟨k, rfl, hk⟩ := K.of_right' h
  exact joinE_of (k := k) (m := .id) hk rfl (joinK_id_r k) hk
theorem joinE_nodes {c d : Co} (h : joinE c d = 0) : nodesC (joinC c d) ≤ nodesC c + nodesC d := by
  obtain ⟨k, m, j, rfl, _, rfl, _, hj, _, e⟩ := joinE_zero h
  rw [e, K.nodes_co, K.nodes_co, K.nodes_co]; exact joinK_size hj
theorem joinE_height {c d : Co} (h : joinE c d = 0) : heightC (joinC c d) ≤ max (heightC c) (heightC d) := by
  obtain ⟨k, m, j, rfl, _, rfl, _, hj, _, e⟩ := joinE_zero h
  rw [e, K.height_co, K.height_co, K.height_co]; exact joinK_height hj

/-- A row, joined from the left. -/
noncomputable def allF : List Co → Co → Co × Int
  | [], c => (c, 0)
  | d :: l, c => if joinE c d = 0 then allF l (joinC c d) else (coNone, joinE c d)
theorem allF_right : ∀ (l : List Co) (c : Co), rightC c = true → (allF l c).2 = 0 → rightC (allF l c).1 = true
  | [], c, h, _ => h
  | d :: l, c, h, h0 => by
    rw [allF] at h0 ⊢
    split at h0
    · rename_i e; rw [if_pos e]; exact allF_right l _ (joinC_right e) h0
    · rename_i e; exact absurd h0 e
theorem allF_app : ∀ (l m : List Co) (c : Co), allF (l ++ m) c = if (allF l c).2 = 0 then allF m (allF l c).1 else allF l c
  | [], m, c => by rw [allF, if_pos rfl]; rfl
  | d :: l, m, c => by
    show (if joinE c d = 0 then allF (l ++ m) (joinC c d) else (coNone, joinE c d)) = _
    rw [allF]
    split
    · exact allF_app l m _
    · rename_i e; first | rfl | simp [e]
theorem allF_at (l : List Co) (c : Co) (i : Nat) (h : i < l.length) : allF (l.drop i) c = if joinE c (l.getD i default) = 0 then allF (l.drop (i + 1)) (joinC c (l.getD i default)) else (coNone, joinE c (l.getD i default)) := by
  rw [List.drop_eq_getElem_cons h, allF]; simp [h]

/-! A failure in a coercion. -/
mutual
def failsC : Co → Bool
  | .mk k _ _ _ l => decide (k = 7) || failsCL l
def failsCL : List Co → Bool
  | [] => false
  | x :: l => failsC x || failsCL l
end
theorem failsCL_any (l : List Co) : failsCL l = !allN l.length fun i => !failsC (l.getD i default) := by
  have h1 : ∀ l : List Co, failsCL l = true ↔ ∃ x ∈ l, failsC x = true := by
    intro l
    induction l with
    | nil => simp [failsCL]
    | cons a l ih => simp [failsCL, ih]
  cases h : failsCL l with
  | true =>
    obtain ⟨x, hx, hf⟩ := (h1 l).1 h
    obtain ⟨i, hi, rfl⟩ := List.getElem_of_mem hx
    rw [allN_false (i := i) hi (by simp [hi, hf])]; rfl
  | false =>
    have : ∀ i, i < l.length → (!failsC (l.getD i default)) = true := fun i hi => by
      cases e : failsC (l.getD i default) with
      | false => rfl
      | true => rw [(h1 l).2 ⟨l.getD i default, by simp [hi], e⟩] at h; cases h
    rw [allN_true this]; rfl
theorem failsC_eq (c : Co) : failsC c = (decide (c.kind = 7) || !allN c.kids.length fun i => !failsC (c.kid i)) := by
  cases c with
  | mk k h l n kids => rw [failsC, failsCL_any]; rfl
theorem K.fails_co : ∀ k : K, failsC k.co = k.fails := by
  intro k
  induction k <;> simp_all [K.co, failsC, failsCL, K.fails]

/-! A chain of types. -/
def chain1 (t : Ty) : Bool := small [t] && right t && without 6 t && decide (nodes t ≤ 80)
def chainT (l : List Ty) : Bool := allN l.length fun i => chain1 (l.getD i default)
theorem chainT_mem {l : List Ty} (h : chainT l = true) {t : Ty} (ht : t ∈ l) : chain1 t = true := by
  obtain ⟨i, hi, rfl⟩ := List.getElem_of_mem ht
  have := (allN_iff.1 h) i hi
  simpa [hi] using this
theorem chain1_iff {t : Ty} (h : chain1 t = true) : ∃ x : T, t = x.ty ∧ x.ok = true ∧ x.closed = true ∧ x.size ≤ 80 := by
  simp only [chain1, Bool.and_eq_true, decide_eq_true_eq] at h
  obtain ⟨x, rfl, hx⟩ := T.of_right' h.1.1.2
  refine ⟨x, rfl, hx, by rw [← T.closed_ty]; exact h.1.2, by rw [← T.nodes_ty]; exact h.2⟩

end Go.Proofs.Ytajdipeebpmifaa
end

section
/- Walks: the laws of layer 22: rows, chains, joints both ways, failures. No condition. -/
set_option linter.unusedSimpArgs false
set_option linter.unusedVariables false
set_option maxHeartbeats 4000000
set_option maxRecDepth 100000
namespace Go.Proofs.Ytajdipeebpmifaa
open Go Go.Ab
attribute [local irreducible] PCalls ACalls CallK GoCall GoDCall GoIf GoGb GoDGb GoO GoD GoX GoDX GoG GoDG GoGv GoDGv Go ALoop

theorem all_ok (l : List Co) (hl : l.length ≤ 1000000) : PCalls Try.prog 32 [.sl (l.map embC) .no] (.tup [embC (allF l idC).1, .int .i64 (allF l idC).2]) := by
  refine pcalls_text C_ok Try.func32 rfl (by decide) (Nat.le_of_ble_eq_true rfl) (by decide) (by simp only [AV.bel, AV.belL, embC_bel, Bool.and_self]) fun ok H => ?_
  rw [Try.results32]
  have h := True.intro
  repeat' (first
   | (with_reducible first | refine goIf_b ?_ ?_ | refine goIf_n ?_ ?_ | refine goIf_d ?_ ?_ | refine goIf_split ?_ ?_ | refine goGb_b ?_ ?_ | refine goGb_n ?_ ?_ | refine goGb_d ?_ ?_ | refine goGb_split ?_ ?_ | refine goDGb_b ?_ ?_ | refine goDGb_n ?_ ?_ | refine goDGb_d ?_ ?_ | refine goDGb_split ?_ ?_) <;> intro h
   | ((first | refine goCall_norm ?_ | refine goDCall_norm ?_); simp only [AV.norm, AV.normL, W2, W2C]; first | refine goCall_p (cid_ok) (.inl rfl) ?_ | refine goDCall_p (cid_ok) (.inl rfl) ?_)
   | skip) <;> simp only [h, ↓upd_eq, ↓envL_cons, Go.Ab.W0, Go.Ab.WD, Go.Ab.WE, if_true, if_false, reduceIte, Nat.reduceEqDiff, Nat.reduceAdd, Nat.reduceLT, Nat.reduceLeDiff, reduceCtorEq, Nat.reduceMul, implies_true, forall_eq_or_imp, forall_eq, Nat.reducePow, W1, W1C]
  have hmax : l.length ≤ maxLen := by rw [maxLen_val]; omega
  refine aloop_trim [12, 2, 4, 10, 11] ?_
  simp only [List.map_cons, List.map_nil, ↓upd_eq, ↓envL_cons, Go.Ab.W0, Go.Ab.WD, Go.Ab.WE, if_true, if_false, reduceIte, Nat.reduceEqDiff, Nat.reduceAdd, Nat.reduceLT, Nat.reduceLeDiff, reduceCtorEq, Nat.reduceMul, implies_true, forall_eq_or_imp, forall_eq, Nat.reducePow, W1, W1C]
  refine goLoopS 1 (fun x : Nat × Co => [(12, .int .i64 x.1)]) (fun x => [.box [.int .i64 0, .int .i64 0, .int .i64 0, .bool false, .sl [] .full], .box [.int .i64 x.2.kind, .int .i64 x.2.head, .int .i64 x.2.label, .bool x.2.neg, .sl (x.2.kids.map embC) .no]]) (fun x => x.1 ≤ l.length ∧ allF (l.drop x.1) x.2 = allF l idC) (fun x => l.length - x.1) C_ok (0, idC) rfl rfl ⟨Nat.zero_le _, rfl⟩ (by decide) ?_
  rintro ⟨i, c⟩ ⟨hi, hr⟩
  simp only at hi hr
  simp only [List.drop_succ_cons, List.drop_zero, List.cons_append, List.nil_append]
  simp only [↓upd_eq, ↓envL_cons, Go.Ab.W0, Go.Ab.WD, Go.Ab.WE, if_true, if_false, reduceIte, Nat.reduceEqDiff, Nat.reduceAdd, Nat.reduceLT, Nat.reduceLeDiff, reduceCtorEq, Nat.reduceMul, implies_true, forall_eq_or_imp, forall_eq, Nat.reducePow, W1, W1C]
  refine goIf_d (fun hlt => ?_) (fun hlt => ?_)
  · rw [allF_at l c i hlt] at hr
    have q := cJoinC_ok c (l.getD i default)
    by_cases e : joinE c (l.getD i default) = 0
    · rw [if_pos e] at hr
      rw [e] at q
      generalize joinC c (l.getD i default) = j at q hr
      have h := True.intro
      repeat' (first
       | (with_reducible first | refine goIf_b ?_ ?_ | refine goIf_n ?_ ?_ | refine goIf_d ?_ ?_ | refine goIf_split ?_ ?_ | refine goGb_b ?_ ?_ | refine goGb_n ?_ ?_ | refine goGb_d ?_ ?_ | refine goGb_split ?_ ?_ | refine goDGb_b ?_ ?_ | refine goDGb_n ?_ ?_ | refine goDGb_d ?_ ?_ | refine goDGb_split ?_ ?_) <;> intro h
       | ((first | refine goCall_norm ?_ | refine goDCall_norm ?_); simp only [AV.norm, AV.normL, W2, W2C, Go.Ab.W3, Int.reduceAdd, Int.reduceLT, Int.reduceToNat, Int.reduceBEq, Int.reduceBNe, Int.reduceLE, hlt, mapC_get hlt]; first | refine goCall_p (q) (.inl rfl) ?_ | refine goDCall_p (q) (.inl rfl) ?_)
       | refine goRound ?_ C_ok Try.f32.ntmps rfl (by decide)
       | skip) <;> simp only [h, ↓upd_eq, ↓envL_cons, Go.Ab.W0, Go.Ab.WD, Go.Ab.WE, if_true, if_false, reduceIte, Nat.reduceEqDiff, Nat.reduceAdd, Nat.reduceLT, Nat.reduceLeDiff, reduceCtorEq, Nat.reduceMul, implies_true, forall_eq_or_imp, forall_eq, Nat.reducePow, W1, W1C, Go.Ab.W3, Int.reduceAdd, Int.reduceLT, Int.reduceToNat, Int.reduceBEq, Int.reduceBNe, Int.reduceLE, hlt, mapC_get hlt, cutNormal_normal]
      refine ⟨(i + 1, j), ⟨hlt, hr⟩, by simp only; omega, weak_drop rfl rfl rfl rfl ?_ ?_ ?_⟩
      all_goals simp only [List.forall_mem_cons, mem_nil_all, frz_app, ↓upd_eq, ↓envL_cons, Nat.reduceEqDiff, if_true, if_false, reduceIte, true_and, and_true, and_self, true_or, or_true, implies_true, List.not_mem_nil, false_implies, AV.bel, AV.belL, AObj.bel, AV.norm, AV.normL, Bool.and_true, Bool.true_and, decide_true, decide_eq_true_eq, List.length_cons, List.length_nil, Nat.zero_add, Nat.reduceAdd, Nat.lt_add_one, Nat.lt_add_right_iff_pos, Nat.zero_lt_succ, Nat.zero_lt_one, Nat.reduceLT, List.take_succ_cons, List.take_zero, wrap_succ hlt hmax, mapC_bel, AV.belL, List.length_map]
    · rw [if_neg e] at hr
      rw [joinC_none e] at q
      rw [← hr]
      have e' : (joinE c (l.getD i default) != 0) = true := by simpa using e
      generalize joinE c (l.getD i default) = n at q e' ⊢
      unfold coNone at q ⊢
      have h := True.intro
      repeat' (first
       | (with_reducible first | refine goIf_b ?_ ?_ | refine goIf_n ?_ ?_ | refine goIf_d ?_ ?_ | refine goIf_split ?_ ?_ | refine goGb_b ?_ ?_ | refine goGb_n ?_ ?_ | refine goGb_d ?_ ?_ | refine goGb_split ?_ ?_ | refine goDGb_b ?_ ?_ | refine goDGb_n ?_ ?_ | refine goDGb_d ?_ ?_ | refine goDGb_split ?_ ?_) <;> intro h
       | ((first | refine goCall_norm ?_ | refine goDCall_norm ?_); simp only [AV.norm, AV.normL, W2, W2C, Go.Ab.W3, Int.reduceAdd, Int.reduceLT, Int.reduceToNat, Int.reduceBEq, Int.reduceBNe, Int.reduceLE, hlt, mapC_get hlt, e']; first | refine goCall_p (q) (.inl rfl) ?_ | refine goDCall_p (q) (.inl rfl) ?_)
       | refine goRound ?_ C_ok Try.f32.ntmps rfl (by decide)
       | skip) <;> simp only [h, ↓upd_eq, ↓envL_cons, Go.Ab.W0, Go.Ab.WD, Go.Ab.WE, if_true, if_false, reduceIte, Nat.reduceEqDiff, Nat.reduceAdd, Nat.reduceLT, Nat.reduceLeDiff, reduceCtorEq, Nat.reduceMul, implies_true, forall_eq_or_imp, forall_eq, Nat.reducePow, W1, W1C, Go.Ab.W3, Int.reduceAdd, Int.reduceLT, Int.reduceToNat, Int.reduceBEq, Int.reduceBNe, Int.reduceLE, hlt, mapC_get hlt, e', cutNormal_normal]
  · rw [← hr, List.drop_of_length_le (by omega), allF]
    have h := True.intro
    repeat' (first
     | (with_reducible first | refine goIf_b ?_ ?_ | refine goIf_n ?_ ?_ | refine goIf_d ?_ ?_ | refine goIf_split ?_ ?_ | refine goGb_b ?_ ?_ | refine goGb_n ?_ ?_ | refine goGb_d ?_ ?_ | refine goGb_split ?_ ?_ | refine goDGb_b ?_ ?_ | refine goDGb_n ?_ ?_ | refine goDGb_d ?_ ?_ | refine goDGb_split ?_ ?_) <;> intro h
     | refine goRound ?_ C_ok Try.f32.ntmps rfl (by decide)
     | skip) <;> simp only [h, ↓upd_eq, ↓envL_cons, Go.Ab.W0, Go.Ab.WD, Go.Ab.WE, if_true, if_false, reduceIte, Nat.reduceEqDiff, Nat.reduceAdd, Nat.reduceLT, Nat.reduceLeDiff, reduceCtorEq, Nat.reduceMul, implies_true, forall_eq_or_imp, forall_eq, Nat.reducePow, W1, W1C, Go.Ab.W3, Int.reduceAdd, Int.reduceLT, Int.reduceToNat, Int.reduceBEq, Int.reduceBNe, Int.reduceLE, hlt, cutNormal_normal]

theorem fails_step (t : Co) (ih : ∀ x ∈ t.kids, PCalls Try.prog 72 [embC x] (.bool (failsC x))) : PCalls Try.prog 72 [embC t] (.bool (failsC t)) := by
  by_cases h7 : t.kind = 7
  · have e : (t.kind == 7) = true := by simp [h7]
    have hf : failsC t = true := by rw [failsC_eq]; simp [h7]
    rw [hf]
    refine pcalls_text C_ok Try.func72 rfl (by decide) (Nat.le_of_ble_eq_true rfl) (by decide) rfl fun ok H => ?_
    rw [Try.results72]
    have h := True.intro
    repeat' (first
     | (with_reducible first | refine goIf_b ?_ ?_ | refine goIf_n ?_ ?_ | refine goIf_d ?_ ?_ | refine goIf_split ?_ ?_ | refine goGb_b ?_ ?_ | refine goGb_n ?_ ?_ | refine goGb_d ?_ ?_ | refine goGb_split ?_ ?_ | refine goDGb_b ?_ ?_ | refine goDGb_n ?_ ?_ | refine goDGb_d ?_ ?_ | refine goDGb_split ?_ ?_) <;> intro h
     | skip) <;> simp only [h, ↓upd_eq, ↓envL_cons, Go.Ab.W0, Go.Ab.WD, Go.Ab.WE, if_true, if_false, reduceIte, Nat.reduceEqDiff, Nat.reduceAdd, Nat.reduceLT, Nat.reduceLeDiff, reduceCtorEq, Nat.reduceMul, implies_true, forall_eq_or_imp, forall_eq, Nat.reducePow, W1, W1C, e]
  · have e : (t.kind == 7) = false := by simp [h7]
    refine pcalls_text C_ok Try.func72 rfl (by decide) (Nat.le_of_ble_eq_true rfl) (by decide) rfl fun ok H => ?_
    rw [Try.results72]
    have hmax : t.kids.length ≤ maxLen := (embC_okay ok.1).1
    have hfalse : ∀ i, i < t.kids.length → (!failsC (t.kid i)) = false → failsC t = true := fun i h1 h2 => by rw [failsC_eq, allN_false (g := fun i => !failsC (t.kid i)) h1 h2]; simp
    have htrue : (∀ i, i < t.kids.length → (!failsC (t.kid i)) = true) → failsC t = false := fun h => by rw [failsC_eq, allN_true h]; simp [h7]
    have h := True.intro
    repeat' (first
     | (with_reducible first | refine goIf_b ?_ ?_ | refine goIf_n ?_ ?_ | refine goIf_d ?_ ?_ | refine goIf_split ?_ ?_ | refine goGb_b ?_ ?_ | refine goGb_n ?_ ?_ | refine goGb_d ?_ ?_ | refine goGb_split ?_ ?_ | refine goDGb_b ?_ ?_ | refine goDGb_n ?_ ?_ | refine goDGb_d ?_ ?_ | refine goDGb_split ?_ ?_) <;> intro h
     | skip) <;> simp only [h, ↓upd_eq, ↓envL_cons, Go.Ab.W0, Go.Ab.WD, Go.Ab.WE, if_true, if_false, reduceIte, Nat.reduceEqDiff, Nat.reduceAdd, Nat.reduceLT, Nat.reduceLeDiff, reduceCtorEq, Nat.reduceMul, implies_true, forall_eq_or_imp, forall_eq, Nat.reducePow, W1, W1C, e]
    refine aloop_trim [3, 1] ?_
    simp only [List.map_cons, List.map_nil, ↓upd_eq, ↓envL_cons, Go.Ab.W0, Go.Ab.WD, Go.Ab.WE, if_true, if_false, reduceIte, Nat.reduceEqDiff, Nat.reduceAdd, Nat.reduceLT, Nat.reduceLeDiff, reduceCtorEq, Nat.reduceMul, implies_true, forall_eq_or_imp, forall_eq, Nat.reducePow, W1, W1C]
    refine goLoopS 1 (fun i : Nat => [(3, .int .i64 i)]) (fun _ => _) (fun i => i ≤ t.kids.length ∧ ∀ j, j < i → (fun j => !failsC (t.kid j)) j = true) (fun i => t.kids.length - i) C_ok 0 rfl rfl ⟨Nat.zero_le _, by simp⟩ (by decide) ?_
    rintro i ⟨hi, hall⟩
    simp only [List.drop_succ_cons, List.drop_zero, List.cons_append, List.nil_append]
    simp only [↓upd_eq, ↓envL_cons, Go.Ab.W0, Go.Ab.WD, Go.Ab.WE, if_true, if_false, reduceIte, Nat.reduceEqDiff, Nat.reduceAdd, Nat.reduceLT, Nat.reduceLeDiff, reduceCtorEq, Nat.reduceMul, implies_true, forall_eq_or_imp, forall_eq, Nat.reducePow, W1, W1C]
    refine goIf_d (fun hlt => ?_) (fun hlt => ?_)
    · have h := True.intro
      repeat' (first
       | (with_reducible first | refine goIf_b ?_ ?_ | refine goIf_n ?_ ?_ | refine goIf_d ?_ ?_ | refine goIf_split ?_ ?_ | refine goGb_b ?_ ?_ | refine goGb_n ?_ ?_ | refine goGb_d ?_ ?_ | refine goGb_split ?_ ?_ | refine goDGb_b ?_ ?_ | refine goDGb_n ?_ ?_ | refine goDGb_d ?_ ?_ | refine goDGb_split ?_ ?_) <;> intro h
       | ((first | refine goCall_norm ?_ | refine goDCall_norm ?_); simp only [AV.norm, AV.normL, W2, W2C, hlt, mapC_kid hlt, e]; first | refine goCall_p (ih _ (cokid_mem hlt)) (.inl rfl) ?_ | refine goDCall_p (ih _ (cokid_mem hlt)) (.inl rfl) ?_)
       | skip) <;> simp only [h, ↓upd_eq, ↓envL_cons, Go.Ab.W0, Go.Ab.WD, Go.Ab.WE, if_true, if_false, reduceIte, Nat.reduceEqDiff, Nat.reduceAdd, Nat.reduceLT, Nat.reduceLeDiff, reduceCtorEq, Nat.reduceMul, implies_true, forall_eq_or_imp, forall_eq, Nat.reducePow, W1, W1C, hlt, mapC_kid hlt, e]
      all_goals first
        | exact (hfalse i hlt (by first | assumption | (simp [*]; done) | fail)).symm
        | (refine ⟨i + 1, ⟨by omega, fun j hj => ?_⟩, by omega, weak_drop rfl rfl rfl rfl ?_ ?_ ?_⟩
           · rcases Nat.lt_succ_iff_lt_or_eq.1 hj with hj | rfl
             · exact hall j hj
             · first | assumption | (simp [*]; done) | fail
           all_goals simp only [List.forall_mem_cons, mem_nil_all, frz_app, ↓upd_eq, ↓envL_cons, Nat.reduceEqDiff, if_true, if_false, reduceIte, true_and, and_true, and_self, true_or, or_true, implies_true, List.not_mem_nil, false_implies, AV.bel, AV.belL, AObj.bel, AV.norm, AV.normL, Bool.and_true, Bool.true_and, decide_true, decide_eq_true_eq, List.length_cons, List.length_nil, Nat.zero_add, Nat.reduceAdd, Nat.lt_add_one, Nat.lt_add_right_iff_pos, Nat.zero_lt_succ, Nat.zero_lt_one, Nat.reduceLT, List.take_succ_cons, List.take_zero, wrap_succ hlt hmax, map_bel, mapC_bel, AV.belL, List.length_map])
    · simp only [↓upd_eq, ↓envL_cons, Go.Ab.W0, Go.Ab.WD, Go.Ab.WE, if_true, if_false, reduceIte, Nat.reduceEqDiff, Nat.reduceAdd, Nat.reduceLT, Nat.reduceLeDiff, reduceCtorEq, Nat.reduceMul, implies_true, forall_eq_or_imp, forall_eq, Nat.reducePow, W1, W1C]
      exact (htrue fun j hj => hall j (by omega)).symm
theorem fails_ok (t : Co) : PCalls Try.prog 72 [embC t] (.bool (failsC t)) := Co.ind fails_step t

theorem size80 {n : Nat} : decide ((n : Int) > 80) = !decide (n ≤ 80) := by
  by_cases h : n ≤ 80
  · simp [h]; omega
  · simp [h]; omega
theorem chain1_1 {t : Ty} (h : (!small [t]) = true) : chain1 t = false := by simp only [Bool.not_eq_true'] at h; simp [chain1, h]
theorem chain1_2 {t : Ty} (h : (!right t) = true) : chain1 t = false := by simp only [Bool.not_eq_true'] at h; simp [chain1, h]
theorem chain1_3 {t : Ty} (h : (!without 6 t) = true) : chain1 t = false := by simp only [Bool.not_eq_true'] at h; simp [chain1, h]
theorem chain1_4 {t : Ty} (h : (nodes t : Int) > 80) : chain1 t = false := by
  have : ¬ nodes t ≤ 80 := by omega
  simp [chain1, this]
theorem chain1_5 {t : Ty} (h1 : (!small [t]) = false) (h2 : (!right t) = false) (h3 : (!without 6 t) = false) (h4 : ¬ (nodes t : Int) > 80) : chain1 t = true := by
  simp only [Bool.not_eq_false'] at h1 h2 h3
  have : nodes t ≤ 80 := by omega
  simp [chain1, h1, h2, h3, this]
theorem chain_ok (l : List Ty) : PCalls Try.prog 69 [.sl (l.map emb) .no] (.bool (chainT l)) := by
  refine pcalls_text C_ok Try.func69 rfl (by decide) (Nat.le_of_ble_eq_true rfl) (by decide) rfl fun ok H => ?_
  rw [Try.results69]
  have hmax : l.length ≤ maxLen := by
    have := ok.1; simp only [AV.okay, List.length_map] at this; exact this.1
  have h := True.intro
  repeat' (first
   | (with_reducible first | refine goIf_b ?_ ?_ | refine goIf_n ?_ ?_ | refine goIf_d ?_ ?_ | refine goIf_split ?_ ?_ | refine goGb_b ?_ ?_ | refine goGb_n ?_ ?_ | refine goGb_d ?_ ?_ | refine goGb_split ?_ ?_ | refine goDGb_b ?_ ?_ | refine goDGb_n ?_ ?_ | refine goDGb_d ?_ ?_ | refine goDGb_split ?_ ?_) <;> intro h
   | skip) <;> simp only [h, ↓upd_eq, ↓envL_cons, Go.Ab.W0, Go.Ab.WD, Go.Ab.WE, if_true, if_false, reduceIte, Nat.reduceEqDiff, Nat.reduceAdd, Nat.reduceLT, Nat.reduceLeDiff, reduceCtorEq, Nat.reduceMul, implies_true, forall_eq_or_imp, forall_eq, Nat.reducePow, W1, W1C]
  have hfalse : ∀ i, i < l.length → chain1 (l.getD i default) = false → chainT l = false := fun i h1 h2 => by rw [chainT, allN_false (g := fun i => chain1 (l.getD i default)) h1 h2]
  have htrue : (∀ i, i < l.length → chain1 (l.getD i default) = true) → chainT l = true := fun h => by rw [chainT, allN_true h]
  have c1 : ∀ t, (!small [t]) = false → PCalls Try.prog 54 [emb t] (.int .i64 (nodes t)) := fun t h => rsize_ok t (Nat.le_trans (small_nodes (by simpa using h) (List.mem_singleton.2 rfl)) (by decide))
  refine aloop_trim [3, 0] ?_
  simp only [List.map_cons, List.map_nil, ↓upd_eq, ↓envL_cons, Go.Ab.W0, Go.Ab.WD, Go.Ab.WE, if_true, if_false, reduceIte, Nat.reduceEqDiff, Nat.reduceAdd, Nat.reduceLT, Nat.reduceLeDiff, reduceCtorEq, Nat.reduceMul, implies_true, forall_eq_or_imp, forall_eq, Nat.reducePow, W1, W1C]
  refine goLoopS 1 (fun i : Nat => [(3, .int .i64 i)]) (fun _ => _) (fun i => i ≤ l.length ∧ ∀ j, j < i → (fun j => chain1 (l.getD j default)) j = true) (fun i => l.length - i) C_ok 0 rfl rfl ⟨Nat.zero_le _, by simp⟩ (by decide) ?_
  rintro i ⟨hi, hall⟩
  simp only [List.drop_succ_cons, List.drop_zero, List.cons_append, List.nil_append]
  simp only [↓upd_eq, ↓envL_cons, Go.Ab.W0, Go.Ab.WD, Go.Ab.WE, if_true, if_false, reduceIte, Nat.reduceEqDiff, Nat.reduceAdd, Nat.reduceLT, Nat.reduceLeDiff, reduceCtorEq, Nat.reduceMul, implies_true, forall_eq_or_imp, forall_eq, Nat.reducePow, W1, W1C]
  refine goIf_d (fun hlt => ?_) (fun hlt => ?_)
  · have h := True.intro
    repeat' (first
     | (with_reducible first | refine goIf_b ?_ ?_ | refine goIf_n ?_ ?_ | refine goIf_d ?_ ?_ | refine goIf_split ?_ ?_ | refine goGb_b ?_ ?_ | refine goGb_n ?_ ?_ | refine goGb_d ?_ ?_ | refine goGb_split ?_ ?_ | refine goDGb_b ?_ ?_ | refine goDGb_n ?_ ?_ | refine goDGb_d ?_ ?_ | refine goDGb_split ?_ ?_) <;> intro h
     | ((first | refine goCall_norm ?_ | refine goDCall_norm ?_); simp only [AV.norm, AV.normL, W2, W2C, hlt, mapT_get hlt, List.length_map]; first | refine goCall_p (small1_ok _) (.inl rfl) ?_ | refine goCall_p (rright_ok _) (.inl rfl) ?_ | refine goCall_p (rwithout_ok _ _) (.inl rfl) ?_ | refine goCall_p (c1 _ (by assumption)) (.inl rfl) ?_ | refine goDCall_p (small1_ok _) (.inl rfl) ?_ | refine goDCall_p (rright_ok _) (.inl rfl) ?_ | refine goDCall_p (rwithout_ok _ _) (.inl rfl) ?_ | refine goDCall_p (c1 _ (by assumption)) (.inl rfl) ?_)
     | skip) <;> simp only [h, ↓upd_eq, ↓envL_cons, Go.Ab.W0, Go.Ab.WD, Go.Ab.WE, if_true, if_false, reduceIte, Nat.reduceEqDiff, Nat.reduceAdd, Nat.reduceLT, Nat.reduceLeDiff, reduceCtorEq, Nat.reduceMul, implies_true, forall_eq_or_imp, forall_eq, Nat.reducePow, W1, W1C, hlt, mapT_get hlt, List.length_map]
    all_goals first
      | exact (hfalse i hlt (by first | assumption | (simp [*]; done) | exact chain1_1 (by assumption) | exact chain1_2 (by assumption) | exact chain1_3 (by assumption) | exact chain1_4 (by assumption) | exact chain1_5 (by assumption) (by assumption) (by assumption) (by assumption))).symm
      | (refine ⟨i + 1, ⟨by omega, fun j hj => ?_⟩, by omega, weak_drop rfl rfl rfl rfl ?_ ?_ ?_⟩
         · rcases Nat.lt_succ_iff_lt_or_eq.1 hj with hj | rfl
           · exact hall j hj
           · first | assumption | (simp [*]; done) | exact chain1_1 (by assumption) | exact chain1_2 (by assumption) | exact chain1_3 (by assumption) | exact chain1_4 (by assumption) | exact chain1_5 (by assumption) (by assumption) (by assumption) (by assumption)
         all_goals simp only [List.forall_mem_cons, mem_nil_all, frz_app, ↓upd_eq, ↓envL_cons, Nat.reduceEqDiff, if_true, if_false, reduceIte, true_and, and_true, and_self, true_or, or_true, implies_true, List.not_mem_nil, false_implies, AV.bel, AV.belL, AObj.bel, AV.norm, AV.normL, Bool.and_true, Bool.true_and, decide_true, decide_eq_true_eq, List.length_cons, List.length_nil, Nat.zero_add, Nat.reduceAdd, Nat.lt_add_one, Nat.lt_add_right_iff_pos, Nat.zero_lt_succ, Nat.zero_lt_one, Nat.reduceLT, List.take_succ_cons, List.take_zero, wrap_succ hlt hmax, map_bel, mapC_bel, AV.belL, List.length_map])
  · simp only [↓upd_eq, ↓envL_cons, Go.Ab.W0, Go.Ab.WD, Go.Ab.WE, if_true, if_false, reduceIte, Nat.reduceEqDiff, Nat.reduceAdd, Nat.reduceLT, Nat.reduceLeDiff, reduceCtorEq, Nat.reduceMul, implies_true, forall_eq_or_imp, forall_eq, Nat.reducePow, W1, W1C]
    exact (htrue fun j hj => hall j (by omega)).symm
theorem chain2_ok (a b : Ty) : PCalls Try.prog 69 [.sl [emb a, emb b] .no] (.bool (chainT [a, b])) := chain_ok [a, b]

noncomputable def bothA (c d e : Co) : Bool := (joinE c d == 0) && (joinE d e == 0) && (joinE (joinC c d) e == 0) && (joinE c (joinC d e) == 0)
theorem both_same {c d e : Co} (h1 : joinE c d = 0) (h2 : joinE d e = 0) (h3 : joinE (joinC c d) e = 0) (h4 : joinE c (joinC d e) = 0) : joinC (joinC c d) e = joinC c (joinC d e) := by
  obtain ⟨k, m, j, rfl, hk, rfl, hm, hj, oj, ej⟩ := joinE_zero h1
  obtain ⟨m', n, i, e2, hm', rfl, hn, hi, oi, ei⟩ := joinE_zero h2
  have e3 := congrArg kOf e2
  rw [kOf_co, kOf_co] at e3
  subst e3
  rw [ej] at h3 ⊢
  rw [ei] at h4 ⊢
  obtain ⟨j', n', p, f1, _, f2, _, hp, op, ep⟩ := joinE_zero h3
  obtain ⟨k', i', q, f3, _, f4, _, hq, oq, eq⟩ := joinE_zero h4
  have f1 := congrArg kOf f1
  have f2 := congrArg kOf f2
  have f3 := congrArg kOf f3
  have f4 := congrArg kOf f4
  rw [kOf_co, kOf_co] at f1 f2 f3 f4
  subst f1; subst f2; subst f3; subst f4
  rw [ep, eq, joinK_assoc _ k m n j i p q (Nat.le_refl _) hk hm hn hj hi hp hq]
theorem both_ok (c d e : Co) : PCalls Try.prog 70 [embC c, embC d, embC e] (.tup [.bool (bothA c d e), .bool true]) := by
  have q1 := cJoinC_ok c d
  have q2 := cJoinC_ok d e
  by_cases e1 : joinE c d = 0
  · by_cases e2 : joinE d e = 0
    · have q3 := cJoinC_ok (joinC c d) e
      have q4 := cJoinC_ok c (joinC d e)
      by_cases e3 : joinE (joinC c d) e = 0
      · by_cases e4 : joinE c (joinC d e) = 0
        · have hs := both_same e1 e2 e3 e4
          have hb : bothA c d e = true := by simp [bothA, e1, e2, e3, e4]
          have hr := sameC_refl (joinC c (joinC d e))
          rw [hb]
          rw [e1] at q1
          rw [e2] at q2
          rw [e3, hs] at q3
          rw [e4] at q4
          clear hb hs e1 e2 e3 e4
          generalize joinC c (joinC d e) = p at *
          generalize joinC c d = x at *
          generalize joinC d e = y at *
          refine pcalls_text C_ok Try.func70 rfl (by decide) (Nat.le_of_ble_eq_true rfl) (by decide) rfl fun ok H => ?_
          rw [Try.results70]
          have h := True.intro
          repeat' (first
           | (with_reducible first | refine goIf_b ?_ ?_ | refine goIf_n ?_ ?_ | refine goIf_d ?_ ?_ | refine goIf_split ?_ ?_ | refine goGb_b ?_ ?_ | refine goGb_n ?_ ?_ | refine goGb_d ?_ ?_ | refine goGb_split ?_ ?_ | refine goDGb_b ?_ ?_ | refine goDGb_n ?_ ?_ | refine goDGb_d ?_ ?_ | refine goDGb_split ?_ ?_) <;> intro h
           | ((first | refine goCall_norm ?_ | refine goDCall_norm ?_); simp only [AV.norm, AV.normL, W2, W2C, Go.Ab.W3, Int.reduceAdd, Int.reduceLT, Int.reduceToNat, Int.reduceBEq, Int.reduceBNe, Int.reduceLE, hr]; first | refine goCall_p (q1) (.inl rfl) ?_ | refine goCall_p (q2) (.inl rfl) ?_ | refine goCall_p (q3) (.inl rfl) ?_ | refine goCall_p (q4) (.inl rfl) ?_ | refine goCall_p (sameC_ok _ _) (.inl rfl) ?_ | refine goDCall_p (q1) (.inl rfl) ?_ | refine goDCall_p (q2) (.inl rfl) ?_ | refine goDCall_p (q3) (.inl rfl) ?_ | refine goDCall_p (q4) (.inl rfl) ?_ | refine goDCall_p (sameC_ok _ _) (.inl rfl) ?_)
           | refine goRound ?_ C_ok Try.f70.ntmps rfl (by decide)
           | skip) <;> simp only [h, ↓upd_eq, ↓envL_cons, Go.Ab.W0, Go.Ab.WD, Go.Ab.WE, if_true, if_false, reduceIte, Nat.reduceEqDiff, Nat.reduceAdd, Nat.reduceLT, Nat.reduceLeDiff, reduceCtorEq, Nat.reduceMul, implies_true, forall_eq_or_imp, forall_eq, Nat.reducePow, W1, W1C, Go.Ab.W3, Int.reduceAdd, Int.reduceLT, Int.reduceToNat, Int.reduceBEq, Int.reduceBNe, Int.reduceLE, hr, cutNormal_normal]
        · have hb : bothA c d e = false := by simp [bothA, e4]
          have e4' : (joinE c (joinC d e) != 0) = true := by simpa using e4
          rw [hb]
          rw [e1] at q1
          rw [e2] at q2
          rw [e3] at q3
          generalize joinE c (joinC d e) = n at q4 e4'
          generalize joinC c (joinC d e) = p at q4
          generalize joinC (joinC c d) e = r at q3
          clear hb e1 e2 e3 e4
          generalize joinC c d = x at *
          generalize joinC d e = y at *
          refine pcalls_text C_ok Try.func70 rfl (by decide) (Nat.le_of_ble_eq_true rfl) (by decide) rfl fun ok H => ?_
          rw [Try.results70]
          have h := True.intro
          repeat' (first
           | (with_reducible first | refine goIf_b ?_ ?_ | refine goIf_n ?_ ?_ | refine goIf_d ?_ ?_ | refine goIf_split ?_ ?_ | refine goGb_b ?_ ?_ | refine goGb_n ?_ ?_ | refine goGb_d ?_ ?_ | refine goGb_split ?_ ?_ | refine goDGb_b ?_ ?_ | refine goDGb_n ?_ ?_ | refine goDGb_d ?_ ?_ | refine goDGb_split ?_ ?_) <;> intro h
           | ((first | refine goCall_norm ?_ | refine goDCall_norm ?_); simp only [AV.norm, AV.normL, W2, W2C, Go.Ab.W3, Int.reduceAdd, Int.reduceLT, Int.reduceToNat, Int.reduceBEq, Int.reduceBNe, Int.reduceLE, e4']; first | refine goCall_p (q1) (.inl rfl) ?_ | refine goCall_p (q2) (.inl rfl) ?_ | refine goCall_p (q3) (.inl rfl) ?_ | refine goCall_p (q4) (.inl rfl) ?_ | refine goCall_p (sameC_ok _ _) (.inl rfl) ?_ | refine goDCall_p (q1) (.inl rfl) ?_ | refine goDCall_p (q2) (.inl rfl) ?_ | refine goDCall_p (q3) (.inl rfl) ?_ | refine goDCall_p (q4) (.inl rfl) ?_ | refine goDCall_p (sameC_ok _ _) (.inl rfl) ?_)
           | refine goRound ?_ C_ok Try.f70.ntmps rfl (by decide)
           | skip) <;> simp only [h, ↓upd_eq, ↓envL_cons, Go.Ab.W0, Go.Ab.WD, Go.Ab.WE, if_true, if_false, reduceIte, Nat.reduceEqDiff, Nat.reduceAdd, Nat.reduceLT, Nat.reduceLeDiff, reduceCtorEq, Nat.reduceMul, implies_true, forall_eq_or_imp, forall_eq, Nat.reducePow, W1, W1C, Go.Ab.W3, Int.reduceAdd, Int.reduceLT, Int.reduceToNat, Int.reduceBEq, Int.reduceBNe, Int.reduceLE, e4', cutNormal_normal]
      · have hb : bothA c d e = false := by simp [bothA, e3]
        have e3' : (joinE (joinC c d) e != 0) = true := by simpa using e3
        rw [hb]
        rw [e1] at q1
        rw [e2] at q2
        generalize joinE c (joinC d e) = m at q4
        generalize joinE (joinC c d) e = n at q3 e3'
        generalize joinC c (joinC d e) = p at q4
        generalize joinC (joinC c d) e = r at q3
        clear hb e1 e2 e3
        generalize joinC c d = x at *
        generalize joinC d e = y at *
        refine pcalls_text C_ok Try.func70 rfl (by decide) (Nat.le_of_ble_eq_true rfl) (by decide) rfl fun ok H => ?_
        rw [Try.results70]
        have h := True.intro
        repeat' (first
         | (with_reducible first | refine goIf_b ?_ ?_ | refine goIf_n ?_ ?_ | refine goIf_d ?_ ?_ | refine goIf_split ?_ ?_ | refine goGb_b ?_ ?_ | refine goGb_n ?_ ?_ | refine goGb_d ?_ ?_ | refine goGb_split ?_ ?_ | refine goDGb_b ?_ ?_ | refine goDGb_n ?_ ?_ | refine goDGb_d ?_ ?_ | refine goDGb_split ?_ ?_) <;> intro h
         | ((first | refine goCall_norm ?_ | refine goDCall_norm ?_); simp only [AV.norm, AV.normL, W2, W2C, Go.Ab.W3, Int.reduceAdd, Int.reduceLT, Int.reduceToNat, Int.reduceBEq, Int.reduceBNe, Int.reduceLE, e3']; first | refine goCall_p (q1) (.inl rfl) ?_ | refine goCall_p (q2) (.inl rfl) ?_ | refine goCall_p (q3) (.inl rfl) ?_ | refine goCall_p (q4) (.inl rfl) ?_ | refine goCall_p (sameC_ok _ _) (.inl rfl) ?_ | refine goDCall_p (q1) (.inl rfl) ?_ | refine goDCall_p (q2) (.inl rfl) ?_ | refine goDCall_p (q3) (.inl rfl) ?_ | refine goDCall_p (q4) (.inl rfl) ?_ | refine goDCall_p (sameC_ok _ _) (.inl rfl) ?_)
         | refine goRound ?_ C_ok Try.f70.ntmps rfl (by decide)
         | skip) <;> simp only [h, ↓upd_eq, ↓envL_cons, Go.Ab.W0, Go.Ab.WD, Go.Ab.WE, if_true, if_false, reduceIte, Nat.reduceEqDiff, Nat.reduceAdd, Nat.reduceLT, Nat.reduceLeDiff, reduceCtorEq, Nat.reduceMul, implies_true, forall_eq_or_imp, forall_eq, Nat.reducePow, W1, W1C, Go.Ab.W3, Int.reduceAdd, Int.reduceLT, Int.reduceToNat, Int.reduceBEq, Int.reduceBNe, Int.reduceLE, e3', cutNormal_normal]
    · have hb : bothA c d e = false := by simp [bothA, e2]
      have e2' : (joinE d e != 0) = true := by simpa using e2
      rw [hb]
      rw [e1] at q1
      generalize joinE d e = n at q2 e2'
      clear hb e1 e2
      generalize joinC c d = x at *
      generalize joinC d e = y at *
      refine pcalls_text C_ok Try.func70 rfl (by decide) (Nat.le_of_ble_eq_true rfl) (by decide) rfl fun ok H => ?_
      rw [Try.results70]
      have h := True.intro
      repeat' (first
       | (with_reducible first | refine goIf_b ?_ ?_ | refine goIf_n ?_ ?_ | refine goIf_d ?_ ?_ | refine goIf_split ?_ ?_ | refine goGb_b ?_ ?_ | refine goGb_n ?_ ?_ | refine goGb_d ?_ ?_ | refine goGb_split ?_ ?_ | refine goDGb_b ?_ ?_ | refine goDGb_n ?_ ?_ | refine goDGb_d ?_ ?_ | refine goDGb_split ?_ ?_) <;> intro h
       | ((first | refine goCall_norm ?_ | refine goDCall_norm ?_); simp only [AV.norm, AV.normL, W2, W2C, Go.Ab.W3, Int.reduceAdd, Int.reduceLT, Int.reduceToNat, Int.reduceBEq, Int.reduceBNe, Int.reduceLE, e2']; first | refine goCall_p (q1) (.inl rfl) ?_ | refine goCall_p (q2) (.inl rfl) ?_ | refine goDCall_p (q1) (.inl rfl) ?_ | refine goDCall_p (q2) (.inl rfl) ?_)
       | refine goRound ?_ C_ok Try.f70.ntmps rfl (by decide)
       | skip) <;> simp only [h, ↓upd_eq, ↓envL_cons, Go.Ab.W0, Go.Ab.WD, Go.Ab.WE, if_true, if_false, reduceIte, Nat.reduceEqDiff, Nat.reduceAdd, Nat.reduceLT, Nat.reduceLeDiff, reduceCtorEq, Nat.reduceMul, implies_true, forall_eq_or_imp, forall_eq, Nat.reducePow, W1, W1C, Go.Ab.W3, Int.reduceAdd, Int.reduceLT, Int.reduceToNat, Int.reduceBEq, Int.reduceBNe, Int.reduceLE, e2', cutNormal_normal]
  · have hb : bothA c d e = false := by simp [bothA, e1]
    have e1' : (joinE c d != 0) = true := by simpa using e1
    rw [hb]
    generalize joinE c d = n at q1 e1'
    generalize joinE d e = m at q2
    clear hb e1
    generalize joinC c d = x at *
    generalize joinC d e = y at *
    refine pcalls_text C_ok Try.func70 rfl (by decide) (Nat.le_of_ble_eq_true rfl) (by decide) rfl fun ok H => ?_
    rw [Try.results70]
    have h := True.intro
    repeat' (first
     | (with_reducible first | refine goIf_b ?_ ?_ | refine goIf_n ?_ ?_ | refine goIf_d ?_ ?_ | refine goIf_split ?_ ?_ | refine goGb_b ?_ ?_ | refine goGb_n ?_ ?_ | refine goGb_d ?_ ?_ | refine goGb_split ?_ ?_ | refine goDGb_b ?_ ?_ | refine goDGb_n ?_ ?_ | refine goDGb_d ?_ ?_ | refine goDGb_split ?_ ?_) <;> intro h
     | ((first | refine goCall_norm ?_ | refine goDCall_norm ?_); simp only [AV.norm, AV.normL, W2, W2C, Go.Ab.W3, Int.reduceAdd, Int.reduceLT, Int.reduceToNat, Int.reduceBEq, Int.reduceBNe, Int.reduceLE, e1']; first | refine goCall_p (q1) (.inl rfl) ?_ | refine goCall_p (q2) (.inl rfl) ?_ | refine goDCall_p (q1) (.inl rfl) ?_ | refine goDCall_p (q2) (.inl rfl) ?_)
     | refine goRound ?_ C_ok Try.f70.ntmps rfl (by decide)
     | skip) <;> simp only [h, ↓upd_eq, ↓envL_cons, Go.Ab.W0, Go.Ab.WD, Go.Ab.WE, if_true, if_false, reduceIte, Nat.reduceEqDiff, Nat.reduceAdd, Nat.reduceLT, Nat.reduceLeDiff, reduceCtorEq, Nat.reduceMul, implies_true, forall_eq_or_imp, forall_eq, Nat.reducePow, W1, W1C, Go.Ab.W3, Int.reduceAdd, Int.reduceLT, Int.reduceToNat, Int.reduceBEq, Int.reduceBNe, Int.reduceLE, e1', cutNormal_normal]

theorem inj22_ok (h : Int) : PCalls Try.prog 105 [.int .i64 h] (embC (injC h)) := by
  unfold injC
  refine pcalls_text C_ok Try.func105 rfl (by decide) (Nat.le_of_ble_eq_true rfl) (by decide) (embC_bel _ _) fun ok H => ?_
  rw [Try.results105]
  have h := True.intro
  repeat' (first
   | (with_reducible first | refine goIf_b ?_ ?_ | refine goIf_n ?_ ?_ | refine goIf_d ?_ ?_ | refine goIf_split ?_ ?_ | refine goGb_b ?_ ?_ | refine goGb_n ?_ ?_ | refine goGb_d ?_ ?_ | refine goGb_split ?_ ?_ | refine goDGb_b ?_ ?_ | refine goDGb_n ?_ ?_ | refine goDGb_d ?_ ?_ | refine goDGb_split ?_ ?_) <;> intro h
   | refine goRound ?_ C_ok Try.f105.ntmps rfl (by decide)
   | skip) <;> simp only [h, ↓upd_eq, ↓envL_cons, Go.Ab.W0, Go.Ab.WD, Go.Ab.WE, if_true, if_false, reduceIte, Nat.reduceEqDiff, Nat.reduceAdd, Nat.reduceLT, Nat.reduceLeDiff, reduceCtorEq, Nat.reduceMul, implies_true, forall_eq_or_imp, forall_eq, Nat.reducePow, W1, W1C, Go.Ab.W3, Int.reduceAdd, Int.reduceLT, Int.reduceToNat, Int.reduceBEq, Int.reduceBNe, Int.reduceLE, cutNormal_normal]
theorem proj22_ok (h l : Int) : PCalls Try.prog 106 [.int .i64 h, .int .i64 l] (embC (projC h l)) := by
  unfold projC
  refine pcalls_text C_ok Try.func106 rfl (by decide) (Nat.le_of_ble_eq_true rfl) (by decide) (embC_bel _ _) fun ok H => ?_
  rw [Try.results106]
  have h := True.intro
  repeat' (first
   | (with_reducible first | refine goIf_b ?_ ?_ | refine goIf_n ?_ ?_ | refine goIf_d ?_ ?_ | refine goIf_split ?_ ?_ | refine goGb_b ?_ ?_ | refine goGb_n ?_ ?_ | refine goGb_d ?_ ?_ | refine goGb_split ?_ ?_ | refine goDGb_b ?_ ?_ | refine goDGb_n ?_ ?_ | refine goDGb_d ?_ ?_ | refine goDGb_split ?_ ?_) <;> intro h
   | refine goRound ?_ C_ok Try.f106.ntmps rfl (by decide)
   | skip) <;> simp only [h, ↓upd_eq, ↓envL_cons, Go.Ab.W0, Go.Ab.WD, Go.Ab.WE, if_true, if_false, reduceIte, Nat.reduceEqDiff, Nat.reduceAdd, Nat.reduceLT, Nat.reduceLeDiff, reduceCtorEq, Nat.reduceMul, implies_true, forall_eq_or_imp, forall_eq, Nat.reducePow, W1, W1C, Go.Ab.W3, Int.reduceAdd, Int.reduceLT, Int.reduceToNat, Int.reduceBEq, Int.reduceBNe, Int.reduceLE, cutNormal_normal]
theorem wakes22_ok : PCalls Try.prog 34 [] (.bool true) := by
  have g1 : joinE (injC 1) (projC 2 4) = 0 ∧ joinC (injC 1) (projC 2 4) = .mk 7 0 4 false [] := joinE_of (k := .inj 1 .id) (m := .proj 2 4 false .id) (j := .fail 4 false) rfl rfl rfl rfl
  have g2 : joinE (injC 1) (projC 1 4) = 0 ∧ joinC (injC 1) (projC 1 4) = .mk 1 0 0 false [] := joinE_of (k := .inj 1 .id) (m := .proj 1 4 false .id) (j := .id) rfl rfl rfl rfl
  have g3 : joinE (projC 1 1) (projC 1 4) = 8 := by
    have o : joinO (projC 1 1) (projC 1 4) = none := by
      rw [show projC 1 1 = (K.proj 1 1 false .id).co from rfl, show projC 1 4 = (K.proj 1 4 false .id).co from rfl, joinO_co (by decide) (by decide)]
      decide
    rw [joinE, if_pos (by decide), o]; rfl
  have g4 : joinE idC (injC 1) = 0 ∧ joinC idC (injC 1) = injC 1 := joinE_id (by decide)
  have g5 : joinE (.mk 7 0 4 false []) (injC 2) = 0 ∧ joinC (.mk 7 0 4 false []) (injC 2) = .mk 7 0 4 false [] := joinE_of (k := .fail 4 false) (m := .inj 2 .id) (j := .fail 4 false) rfl rfl rfl rfl
  have ga : allF [injC 1, projC 2 4, injC 2] idC = (.mk 7 0 4 false [], 0) := by
    simp only [allF, g4.1, g4.2, g1.1, g1.2, g5.1, g5.2, if_true]
  have q1 := cJoinC_ok (injC 1) (projC 2 4)
  have q2 := cJoinC_ok (injC 1) (projC 1 4)
  have q3 := cJoinC_ok (projC 1 1) (projC 1 4)
  have q4 : PCalls Try.prog 32 [.sl [embC (injC 1), embC (projC 2 4), embC (injC 2)] .no] _ := all_ok [injC 1, projC 2 4, injC 2] (by decide)
  rw [g1.1, g1.2] at q1
  rw [g2.1, g2.2] at q2
  rw [g3] at q3
  rw [ga] at q4
  generalize joinC (projC 1 1) (projC 1 4) = z at q3
  refine pcalls_text C_ok Try.func34 rfl (by decide) (Nat.le_of_ble_eq_true rfl) (by decide) rfl fun ok H => ?_
  rw [Try.results34]
  have h := True.intro
  repeat' (first
   | (with_reducible first | refine goIf_b ?_ ?_ | refine goIf_n ?_ ?_ | refine goIf_d ?_ ?_ | refine goIf_split ?_ ?_ | refine goGb_b ?_ ?_ | refine goGb_n ?_ ?_ | refine goGb_d ?_ ?_ | refine goGb_split ?_ ?_ | refine goDGb_b ?_ ?_ | refine goDGb_n ?_ ?_ | refine goDGb_d ?_ ?_ | refine goDGb_split ?_ ?_) <;> intro h
   | ((first | refine goCall_norm ?_ | refine goDCall_norm ?_); simp only [AV.norm, AV.normL, W2, W2C, Go.Ab.W3, Int.reduceAdd, Int.reduceLT, Int.reduceToNat, Int.reduceBEq, Int.reduceBNe, Int.reduceLE]; first | refine goCall_p (inj22_ok _) (.inl rfl) ?_ | refine goCall_p (proj22_ok _ _) (.inl rfl) ?_ | refine goCall_p (q1) (.inl rfl) ?_ | refine goCall_p (q2) (.inl rfl) ?_ | refine goCall_p (q3) (.inl rfl) ?_ | refine goCall_p (q4) (.inl rfl) ?_ | refine goDCall_p (inj22_ok _) (.inl rfl) ?_ | refine goDCall_p (proj22_ok _ _) (.inl rfl) ?_ | refine goDCall_p (q1) (.inl rfl) ?_ | refine goDCall_p (q2) (.inl rfl) ?_ | refine goDCall_p (q3) (.inl rfl) ?_ | refine goDCall_p (q4) (.inl rfl) ?_)
   | refine goRound ?_ C_ok Try.f34.ntmps rfl (by decide)
   | skip) <;> simp only [h, ↓upd_eq, ↓envL_cons, Go.Ab.W0, Go.Ab.WD, Go.Ab.WE, if_true, if_false, reduceIte, Nat.reduceEqDiff, Nat.reduceAdd, Nat.reduceLT, Nat.reduceLeDiff, reduceCtorEq, Nat.reduceMul, implies_true, forall_eq_or_imp, forall_eq, Nat.reducePow, W1, W1C, Go.Ab.W3, Int.reduceAdd, Int.reduceLT, Int.reduceToNat, Int.reduceBEq, Int.reduceBNe, Int.reduceLE, cutNormal_normal]

end Go.Proofs.Ytajdipeebpmifaa
end

