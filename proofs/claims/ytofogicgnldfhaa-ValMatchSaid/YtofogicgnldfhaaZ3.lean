/- Walks: is a pattern too great to be asked of? No condition. -/
import Derived.Test.YtofogicgnldfhaaPYg
import Derived.Test.YtofogicgnldfhaaPMa
set_option linter.unusedSimpArgs false
set_option linter.unusedVariables false
set_option maxHeartbeats 4000000
set_option maxRecDepth 100000
namespace Go.Proofs.Ytofogicgnldfhaa
open Go Go.Ab
open Nat (reduceEqDiff reduceAdd reduceLT reduceLeDiff reduceMul reducePow)
attribute [local irreducible] PCalls ACalls CallK GoCall GoDCall GoIf GoGb GoDGb GoO GoD GoX GoDX GoG GoDG GoGv GoDGv Go ALoop

def bigP (p : Pt) : Bool := decide ((p.str.size : Int) > 300) || decide ((p.name.size : Int) > 300)
mutual
def cntP : Pt → Nat → Nat
  | .mk k f t m n s l, c => if bigP (.mk k f t m n s l) then 401 else cntPL l c
def cntPL : List Pt → Nat → Nat
  | [], c => c
  | x :: l, c => if c ≤ 400 then cntPL l (cntP x (c + 1)) else c
end
theorem cntP_eq (p : Pt) (c : Nat) : cntP p c = if bigP p then 401 else cntPL p.kids c := by cases p; rw [cntP]; rfl
mutual
theorem cntP_le : ∀ (p : Pt) (c : Nat), cntP p c ≤ max c 401
  | .mk k f t m n s l, c => by
    have := cntPL_le l c
    rw [cntP_eq]; simp only [Pt.kids]; split <;> omega
theorem cntPL_le : ∀ (l : List Pt) (c : Nat), cntPL l c ≤ max c 401
  | [], c => by simp [cntPL]; omega
  | x :: l, c => by
    rw [cntPL]
    split
    · have h1 := cntP_le x (c + 1)
      have h2 := cntPL_le l (cntP x (c + 1))
      omega
    · omega
end
theorem cntPL_stop {l : List Pt} {c : Nat} (h : ¬ c ≤ 400) : cntPL l c = c := by cases l <;> simp [cntPL, h]
mutual
theorem cntP_size : ∀ (p : Pt) (c : Nat), cntP p c ≤ 400 → c + sizeP p ≤ cntP p c + 1
  | .mk k f t m n s l, c, h => by
    rw [cntP_eq] at h ⊢
    simp only [Pt.kids] at h ⊢
    split at h
    · omega
    · rename_i hb; rw [if_neg hb]; have := cntPL_size l c h; simp only [sizeP]; omega
theorem cntPL_size : ∀ (l : List Pt) (c : Nat), cntPL l c ≤ 400 → c + sizePL l ≤ cntPL l c
  | [], c, h => by simp [cntPL, sizePL]
  | x :: l, c, h => by
    rw [cntPL] at h ⊢
    split at h
    · rename_i hc
      rw [if_pos hc]
      have h2 := cntPL_size l _ h
      have h1 := cntP_size x (c + 1) (by omega)
      simp only [sizePL]; omega
    · omega
end
theorem dropP_kid {p : Pt} {i : Nat} (h : i < p.kids.length) : p.kids.drop i = p.kid i :: p.kids.drop (i + 1) := by
  rw [List.drop_eq_getElem_cons h]; simp [Pt.kid, h]
theorem wrap_c1 {c : Nat} (h : c ≤ 1000000) : IntKind.wrap .i64 ((c : Int) + 1) = ((c + 1 : Nat) : Int) := wrap_succ (Nat.lt_succ_self c) (by rw [maxLen_val]; omega)
theorem countPat_step (p : Pt) (c : Nat) (hc : c ≤ 401) (ih : ∀ x ∈ p.kids, ∀ c : Nat, c ≤ 401 → PCalls Try.prog 58 [embP x, .int .i64 c] (.int .i64 (cntP x c))) : PCalls Try.prog 58 [embP p, .int .i64 c] (.int .i64 (cntP p c)) := by
  cases hb : bigP p with
  | true =>
    rw [cntP_eq, hb]
    unfold bigP at hb
    refine pcalls_text C_ok Try.func58 rfl (by decide) (Nat.le_of_ble_eq_true rfl) (by decide) rfl fun ok H => ?_
    rw [Try.results58]
    repeat' first
     | (apply goGb_op (fun _ _ => rfl); (· intro hb; (try simp only [Bool.and_eq_true, Bool.not_eq_true', Bool.or_eq_false_iff, Bool.not_eq_false'] at hb); simp only [hb, ↓upd_eq, ↓envL_cons, WZ, reduceIte, reduceEqDiff, reduceAdd, reduceLT, reduceLeDiff, reduceCtorEq, reduceMul, reducePow, W1, W1P, W5, hb]; exact ⟨rfl, trivial⟩))
     | (apply goDGb_op (fun _ _ => rfl); (· intro hb; (try simp only [Bool.and_eq_true, Bool.not_eq_true', Bool.or_eq_false_iff, Bool.not_eq_false'] at hb); simp only [hb, ↓upd_eq, ↓envL_cons, WZ, reduceIte, reduceEqDiff, reduceAdd, reduceLT, reduceLeDiff, reduceCtorEq, reduceMul, reducePow, W1, W1P, W5, hb]; exact ⟨rfl, trivial⟩))
     | (with_reducible first | apply bA | apply bB | apply bC | apply bD | apply bE | apply bF) <;> intro h <;> try simp only [h, ↓upd_eq, ↓envL_cons, WZ, reduceIte, reduceEqDiff, reduceAdd, reduceLT, reduceLeDiff, reduceCtorEq, reduceMul, reducePow, W1, W1P, W5, hb]
     | simp only [↓upd_eq, ↓envL_cons, WZ, reduceIte, reduceEqDiff, reduceAdd, reduceLT, reduceLeDiff, reduceCtorEq, reduceMul, reducePow, W1, W1P, W5, hb]
    all_goals first | rfl | (exfalso; simp_all; done)
  | false =>
    have hcnt : cntP p c = cntPL p.kids c := by rw [cntP_eq, hb]; rfl
    unfold bigP at hb
    refine pcalls_text C_ok Try.func58 rfl (by decide) (Nat.le_of_ble_eq_true rfl) (by decide) rfl fun ok H => ?_
    rw [Try.results58]
    repeat' first
     | (apply goGb_op (fun _ _ => rfl); (· intro hb; (try simp only [Bool.and_eq_true, Bool.not_eq_true', Bool.or_eq_false_iff, Bool.not_eq_false'] at hb); simp only [hb, ↓upd_eq, ↓envL_cons, WZ, reduceIte, reduceEqDiff, reduceAdd, reduceLT, reduceLeDiff, reduceCtorEq, reduceMul, reducePow, W1, W1P, W5, hb]; exact ⟨rfl, trivial⟩))
     | (apply goDGb_op (fun _ _ => rfl); (· intro hb; (try simp only [Bool.and_eq_true, Bool.not_eq_true', Bool.or_eq_false_iff, Bool.not_eq_false'] at hb); simp only [hb, ↓upd_eq, ↓envL_cons, WZ, reduceIte, reduceEqDiff, reduceAdd, reduceLT, reduceLeDiff, reduceCtorEq, reduceMul, reducePow, W1, W1P, W5, hb]; exact ⟨rfl, trivial⟩))
     | (with_reducible first | apply bA | apply bB | apply bC | apply bD | apply bE | apply bF) <;> intro h <;> try simp only [h, ↓upd_eq, ↓envL_cons, WZ, reduceIte, reduceEqDiff, reduceAdd, reduceLT, reduceLeDiff, reduceCtorEq, reduceMul, reducePow, W1, W1P, W5, hb]
     | simp only [↓upd_eq, ↓envL_cons, WZ, reduceIte, reduceEqDiff, reduceAdd, reduceLT, reduceLeDiff, reduceCtorEq, reduceMul, reducePow, W1, W1P, W5, hb]
    have hmax : p.kids.length ≤ maxLen := (embP_okay ok.1).1
    refine aloop_trim [1, 5, 2] ?_
    simp only [List.map_cons, List.map_nil, ↓upd_eq, ↓envL_cons, WZ, reduceIte, reduceEqDiff, reduceAdd, reduceLT, reduceLeDiff, reduceCtorEq, reduceMul, reducePow, W1, W1P]
    refine goLoopS 2 (fun x : Nat × Nat => [(1, .int .i64 x.2), (5, .int .i64 x.1)]) (fun _ => _) (fun x => x.1 ≤ p.kids.length ∧ x.2 ≤ 401 ∧ cntPL (p.kids.drop x.1) x.2 = cntP p c) (fun x => p.kids.length - x.1) C_ok (0, c) rfl rfl ⟨Nat.zero_le _, hc, hcnt.symm⟩ (by decide) ?_
    rintro ⟨i, m⟩ ⟨hi, hm, hr⟩
    simp only at hi hm hr
    simp only [List.drop_succ_cons, List.drop_zero, List.cons_append, List.nil_append]
    simp only [↓upd_eq, ↓envL_cons, WZ, reduceIte, reduceEqDiff, reduceAdd, reduceLT, reduceLeDiff, reduceCtorEq, reduceMul, reducePow, W1, W1P]
    refine goGb_d (fun hlt => ?_) (fun hlt => ?_)
    · simp only [hlt, ↓upd_eq, ↓envL_cons, WZ, reduceIte, reduceEqDiff, reduceAdd, reduceLT, reduceLeDiff, reduceCtorEq, reduceMul, reducePow, W1, W1P]
      refine goIf_d (fun h6 => ?_) (fun h6 => ?_)
      · have h6' : m ≤ 400 := by omega
        have h := True.intro
        repeat' (first
         | (with_reducible first | apply bA | apply bB | apply bC | apply bD | apply bE | apply bF) <;> intro h
         | ((first | refine goCall_norm ?_ | refine goDCall_norm ?_); simp only [AV.norm, AV.normL, W2, W2P, hlt, mapP_kid hlt, wrap_c1 (show m ≤ 1000000 by omega)]; first | refine goCall_p (ih _ (ptkid_mem hlt) (m + 1) (by omega)) (.inl rfl) ?_ | refine goDCall_p (ih _ (ptkid_mem hlt) (m + 1) (by omega)) (.inl rfl) ?_)
         | skip) <;> simp only [h, ↓upd_eq, ↓envL_cons, WZ, reduceIte, reduceEqDiff, reduceAdd, reduceLT, reduceLeDiff, reduceCtorEq, reduceMul, reducePow, W1, W1P, hlt, mapP_kid hlt, wrap_c1 (show m ≤ 1000000 by omega)]
        have hc' := cntP_le (p.kid i) (m + 1)
        refine ⟨(i + 1, cntP (p.kid i) (m + 1)), ⟨hlt, by simp only; omega, ?_⟩, by simp only; omega, weak_drop rfl rfl rfl rfl ?_ ?_ ?_⟩
        · rw [← hr, dropP_kid hlt, cntPL, if_pos h6']
        all_goals simp only [List.forall_mem_cons, mem_nil_all, frz_app, ↓upd_eq, ↓envL_cons, Nat.reduceEqDiff, if_true, if_false, reduceIte, true_and, and_true, and_self, true_or, or_true, implies_true, List.not_mem_nil, false_implies, AV.bel, AV.belL, AObj.bel, AV.norm, AV.normL, Bool.and_true, Bool.true_and, decide_true, decide_eq_true_eq, List.length_cons, List.length_nil, Nat.zero_add, Nat.reduceAdd, Nat.lt_add_one, Nat.lt_add_right_iff_pos, Nat.zero_lt_succ, Nat.zero_lt_one, Nat.reduceLT, List.take_succ_cons, List.take_zero, wrap_succ hlt hmax, mapP_bel, AV.belL, List.length_map]
      · simp only [hlt, ↓upd_eq, ↓envL_cons, WZ, reduceIte, reduceEqDiff, reduceAdd, reduceLT, reduceLeDiff, reduceCtorEq, reduceMul, reducePow, W1, W1P]
        rw [← hr, cntPL_stop (by omega)]
    · simp only [hlt, ↓upd_eq, ↓envL_cons, WZ, reduceIte, reduceEqDiff, reduceAdd, reduceLT, reduceLeDiff, reduceCtorEq, reduceMul, reducePow, W1, W1P]
      rw [← hr, List.drop_of_length_le (by omega)]; rfl
theorem countPat_ok : ∀ (p : Pt) (c : Nat), c ≤ 401 → PCalls Try.prog 58 [embP p, .int .i64 c] (.int .i64 (cntP p c)) :=
  Pt.ind (p := fun p => ∀ c : Nat, c ≤ 401 → PCalls Try.prog 58 [embP p, .int .i64 c] (.int .i64 (cntP p c))) fun p ih c hc => countPat_step p c hc fun x hx c hc => ih x hx c hc
def heavyP (p : Pt) : Bool := decide ((cntP p 0 : Int) > 400)
theorem heavyPat_ok (p : Pt) : PCalls Try.prog 22 [embP p] (.bool (heavyP p)) := by
  have q : PCalls Try.prog 58 [embP p, .int .i64 0] (.int .i64 (cntP p 0)) := countPat_ok p 0 (by omega)
  refine pcalls_text C_ok Try.func22 rfl (by decide) (Nat.le_of_ble_eq_true rfl) (by decide) rfl fun ok H => ?_
  rw [Try.results22]
  have h := True.intro
  repeat' (first
   | (with_reducible first | apply bA | apply bB | apply bC | apply bD | apply bE | apply bF) <;> intro h
   | ((first | refine goCall_norm ?_ | refine goDCall_norm ?_); simp only [AV.norm, AV.normL, W2, W2P]; first | refine goCall_p (q) (.inl rfl) ?_ | refine goDCall_p (q) (.inl rfl) ?_)
   | skip) <;> simp only [h, ↓upd_eq, ↓envL_cons, WZ, reduceIte, reduceEqDiff, reduceAdd, reduceLT, reduceLeDiff, reduceCtorEq, reduceMul, reducePow, W1, W1P]
  all_goals rfl
theorem heavyP_size {p : Pt} (h : heavyP p = false) : sizeP p ≤ 401 := by
  unfold heavyP at h
  simp only [decide_eq_false_iff_not] at h
  have := cntP_size p 0 (by omega)
  omega

end Go.Proofs.Ytofogicgnldfhaa
