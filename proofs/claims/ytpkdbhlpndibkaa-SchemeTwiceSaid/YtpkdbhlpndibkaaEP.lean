/- Layer 11: binds of a law. No condition. -/
import Derived.Test.YtpkdbhlpndibkaaEM
set_option linter.unusedSimpArgs false
set_option linter.unusedVariables false
set_option maxHeartbeats 4000000
set_option maxRecDepth 100000
namespace Go.Proofs.Ytpkdbhlpndibkaa
open Go Go.Ab
attribute [local irreducible] PCalls ACalls CallK GoCall GoDCall GoIf GoGb GoDGb GoO GoD GoX GoDX GoG GoDG GoGv GoDGv Go ALoop

def lightB (p : Bd) : Bool := !(heavyW [p.2] || deepT 60 p.2)
def heavyB (l : List Bd) : Bool := decide (40 < l.length) || !(allN l.length fun i => lightB (l.getD i default))
theorem heavyB_len {l : List Bd} (h : heavyB l = false) : l.length ≤ 40 := by
  simp only [heavyB, Bool.or_eq_false_iff, decide_eq_false_iff_not] at h; omega
theorem light_1 {p : Bd} (h : heavyW [p.2] = true) : lightB p = false := by simp [lightB, h]
theorem light_2 {p : Bd} (h : deepT 60 p.2 = true) : lightB p = false := by simp [lightB, h]
theorem light_3 {p : Bd} (h1 : heavyW [p.2] = false) (h2 : deepT 60 p.2 = false) : lightB p = true := by simp [lightB, h1, h2]
theorem heavyB_ok (l : List Bd) : PCalls Try.prog 11 [.sl (l.map embB) .no] (.bool (heavyB l)) := by
  refine pcalls_text C_ok Try.func11 rfl (by decide) (Nat.le_of_ble_eq_true rfl) (by decide) rfl fun ok H => ?_
  rw [Try.results11]
  have hmax : l.length ≤ maxLen := by
    have := ok.1; simp only [AV.okay, List.length_map] at this; exact this.1
  by_cases h40 : 40 < l.length
  · have h40' : ((l.length : Int) > 40) = True := by simp only [eq_iff_iff, iff_true]; omega
    have e : heavyB l = true := by rw [heavyB]; simp [h40]
    rw [e]
    have h := True.intro
    repeat' (first
     | (with_reducible first | refine goIf_b ?_ ?_ | refine goIf_n ?_ ?_ | refine goIf_d ?_ ?_ | refine goIf_split ?_ ?_ | refine goGb_b ?_ ?_ | refine goGb_n ?_ ?_ | refine goGb_d ?_ ?_ | refine goGb_split ?_ ?_ | refine goDGb_b ?_ ?_ | refine goDGb_n ?_ ?_ | refine goDGb_d ?_ ?_ | refine goDGb_split ?_ ?_) <;> intro h
     | skip) <;> simp only [h, ↓upd_eq, ↓envL_cons, Go.Ab.W0, Go.Ab.WD, Go.Ab.WE, if_true, if_false, reduceIte, Nat.reduceEqDiff, Nat.reduceAdd, Nat.reduceLT, Nat.reduceLeDiff, reduceCtorEq, Nat.reduceMul, implies_true, forall_eq_or_imp, forall_eq, Nat.reducePow, W1, W1B, List.length_map, h40']
  · have h40' : ((l.length : Int) > 40) = False := by simp only [eq_iff_iff, iff_false]; omega
    have h := True.intro
    repeat' (first
     | (with_reducible first | refine goIf_b ?_ ?_ | refine goIf_n ?_ ?_ | refine goIf_d ?_ ?_ | refine goIf_split ?_ ?_ | refine goGb_b ?_ ?_ | refine goGb_n ?_ ?_ | refine goGb_d ?_ ?_ | refine goGb_split ?_ ?_ | refine goDGb_b ?_ ?_ | refine goDGb_n ?_ ?_ | refine goDGb_d ?_ ?_ | refine goDGb_split ?_ ?_) <;> intro h
     | skip) <;> simp only [h, ↓upd_eq, ↓envL_cons, Go.Ab.W0, Go.Ab.WD, Go.Ab.WE, if_true, if_false, reduceIte, Nat.reduceEqDiff, Nat.reduceAdd, Nat.reduceLT, Nat.reduceLeDiff, reduceCtorEq, Nat.reduceMul, implies_true, forall_eq_or_imp, forall_eq, Nat.reducePow, W1, W1B, List.length_map, h40']
    have hfalse : ∀ i, i < l.length → lightB (l.getD i default) = false → heavyB l = true := fun i h1 h2 => by rw [heavyB, allN_false (g := fun i => lightB (l.getD i default)) h1 h2]; simp
    have htrue : (∀ i, i < l.length → lightB (l.getD i default) = true) → heavyB l = false := fun h => by rw [heavyB, allN_true h]; simp [h40]
    have c2 : ∀ t, PCalls Try.prog 35 [emb t, .int .i64 60] (.bool (deepT 60 t)) := fun t => deep_ok 60 t (by decide)
    have c1 : ∀ t, PCalls Try.prog 34 [.sl [emb t] .no] (.bool (heavyW [t])) := fun t => heavyW_ok [t]
    refine aloop_trim [3, 0] ?_
    simp only [List.map_cons, List.map_nil, ↓upd_eq, ↓envL_cons, Go.Ab.W0, Go.Ab.WD, Go.Ab.WE, if_true, if_false, reduceIte, Nat.reduceEqDiff, Nat.reduceAdd, Nat.reduceLT, Nat.reduceLeDiff, reduceCtorEq, Nat.reduceMul, implies_true, forall_eq_or_imp, forall_eq, Nat.reducePow, W1, W1B]
    refine goLoopS 1 (fun i : Nat => [(3, .int .i64 i)]) (fun _ => _) (fun i => i ≤ l.length ∧ ∀ j, j < i → (fun j => lightB (l.getD j default)) j = true) (fun i => l.length - i) C_ok 0 rfl rfl ⟨Nat.zero_le _, by simp⟩ (by decide) ?_
    rintro i ⟨hi, hall⟩
    simp only [List.drop_succ_cons, List.drop_zero, List.cons_append, List.nil_append]
    simp only [↓upd_eq, ↓envL_cons, Go.Ab.W0, Go.Ab.WD, Go.Ab.WE, if_true, if_false, reduceIte, Nat.reduceEqDiff, Nat.reduceAdd, Nat.reduceLT, Nat.reduceLeDiff, reduceCtorEq, Nat.reduceMul, implies_true, forall_eq_or_imp, forall_eq, Nat.reducePow, W1, W1B]
    refine goIf_d (fun hlt => ?_) (fun hlt => ?_)
    · have h := True.intro
      repeat' (first
       | (with_reducible first | refine goIf_b ?_ ?_ | refine goIf_n ?_ ?_ | refine goIf_d ?_ ?_ | refine goIf_split ?_ ?_ | refine goGb_b ?_ ?_ | refine goGb_n ?_ ?_ | refine goGb_d ?_ ?_ | refine goGb_split ?_ ?_ | refine goDGb_b ?_ ?_ | refine goDGb_n ?_ ?_ | refine goDGb_d ?_ ?_ | refine goDGb_split ?_ ?_) <;> intro h
       | ((first | refine goCall_norm ?_ | refine goDCall_norm ?_); simp only [AV.norm, AV.normL, W2, W2B, hlt, mapB_get hlt, embB_cells, List.length_map]; first | refine goCall_p (c1 _) (.inl rfl) ?_ | refine goCall_p (c2 _) (.inl rfl) ?_ | refine goDCall_p (c1 _) (.inl rfl) ?_ | refine goDCall_p (c2 _) (.inl rfl) ?_)
       | skip) <;> simp only [h, ↓upd_eq, ↓envL_cons, Go.Ab.W0, Go.Ab.WD, Go.Ab.WE, if_true, if_false, reduceIte, Nat.reduceEqDiff, Nat.reduceAdd, Nat.reduceLT, Nat.reduceLeDiff, reduceCtorEq, Nat.reduceMul, implies_true, forall_eq_or_imp, forall_eq, Nat.reducePow, W1, W1B, hlt, mapB_get hlt, embB_cells, List.length_map]
      all_goals first
        | exact (hfalse i hlt (by first | assumption | (simp [*]; done) | exact light_1 (by assumption) | exact light_2 (by assumption) | exact light_3 (by assumption) (by assumption))).symm
        | (refine ⟨i + 1, ⟨by omega, fun j hj => ?_⟩, by omega, weak_drop rfl rfl rfl rfl ?_ ?_ ?_⟩
           · rcases Nat.lt_succ_iff_lt_or_eq.1 hj with hj | rfl
             · exact hall j hj
             · first | assumption | (simp [*]; done) | exact light_1 (by assumption) | exact light_2 (by assumption) | exact light_3 (by assumption) (by assumption)
           all_goals simp only [List.forall_mem_cons, mem_nil_all, frz_app, ↓upd_eq, ↓envL_cons, Nat.reduceEqDiff, if_true, if_false, reduceIte, true_and, and_true, and_self, true_or, or_true, implies_true, List.not_mem_nil, false_implies, AV.bel, AV.belL, AObj.bel, AV.norm, AV.normL, Bool.and_true, Bool.true_and, decide_true, decide_eq_true_eq, List.length_cons, List.length_nil, Nat.zero_add, Nat.reduceAdd, Nat.lt_add_one, Nat.lt_add_right_iff_pos, Nat.zero_lt_succ, Nat.zero_lt_one, Nat.reduceLT, List.take_succ_cons, List.take_zero, wrap_succ hlt hmax, map_bel, mapB_bel, AV.belL, List.length_map])
    · simp only [↓upd_eq, ↓envL_cons, Go.Ab.W0, Go.Ab.WD, Go.Ab.WE, if_true, if_false, reduceIte, Nat.reduceEqDiff, Nat.reduceAdd, Nat.reduceLT, Nat.reduceLeDiff, reduceCtorEq, Nat.reduceMul, implies_true, forall_eq_or_imp, forall_eq, Nat.reducePow, W1, W1B]
      exact (htrue fun j hj => hall j (by omega)).symm

theorem okBs_all (l : List Bd) : okBs l = allN l.length fun i => okBd (l.getD i default) := by
  rw [Bool.eq_iff_iff, allN_iff, okBs, List.all_eq_true]
  constructor
  · intro h i hi; have := h l[i] (List.getElem_mem hi); simpa [hi] using this
  · intro h p hp
    obtain ⟨i, hi, rfl⟩ := List.getElem_of_mem hp
    have := h i hi; simpa [hi] using this
theorem okBd_1 {p : Bd} (h : p.1 < 0) : okBd p = false := by
  have : ¬ 0 ≤ p.1 := by omega
  simp [okBd, this]
theorem okBd_2 {p : Bd} (h : p.1 > 1048576) : okBd p = false := by
  have : ¬ p.1 ≤ 1048576 := by omega
  simp [okBd, this]
theorem okBd_3 {p : Bd} (h : right p.2 = false) : okBd p = false := by simp [okBd, h]
theorem okBd_4 {p : Bd} (h1 : ¬ p.1 < 0) (h2 : ¬ p.1 > 1048576) (h : right p.2 = true) : okBd p = true := by
  have k1 : 0 ≤ p.1 := by omega
  have k2 : p.1 ≤ 1048576 := by omega
  simp [okBd, h, k1, k2]
theorem rrightB_ok (l : List Bd) : PCalls Try.prog 19 [.sl (l.map embB) .no] (.bool (okBs l)) := by
  refine pcalls_text C_ok Try.func19 rfl (by decide) (Nat.le_of_ble_eq_true rfl) (by decide) rfl fun ok H => ?_
  rw [Try.results19]
  have hmax : l.length ≤ maxLen := by
    have := ok.1; simp only [AV.okay, List.length_map] at this; exact this.1
  have h := True.intro
  repeat' (first
   | (with_reducible first | refine goIf_b ?_ ?_ | refine goIf_n ?_ ?_ | refine goIf_d ?_ ?_ | refine goIf_split ?_ ?_ | refine goGb_b ?_ ?_ | refine goGb_n ?_ ?_ | refine goGb_d ?_ ?_ | refine goGb_split ?_ ?_ | refine goDGb_b ?_ ?_ | refine goDGb_n ?_ ?_ | refine goDGb_d ?_ ?_ | refine goDGb_split ?_ ?_) <;> intro h
   | skip) <;> simp only [h, ↓upd_eq, ↓envL_cons, Go.Ab.W0, Go.Ab.WD, Go.Ab.WE, if_true, if_false, reduceIte, Nat.reduceEqDiff, Nat.reduceAdd, Nat.reduceLT, Nat.reduceLeDiff, reduceCtorEq, Nat.reduceMul, implies_true, forall_eq_or_imp, forall_eq, Nat.reducePow, W1, W1B, List.length_map]
  have hfalse : ∀ i, i < l.length → okBd (l.getD i default) = false → okBs l = false := fun i h1 h2 => by rw [okBs_all, allN_false (g := fun i => okBd (l.getD i default)) h1 h2]
  have htrue : (∀ i, i < l.length → okBd (l.getD i default) = true) → okBs l = true := fun h => by rw [okBs_all, allN_true h]
  refine aloop_trim [3, 0] ?_
  simp only [List.map_cons, List.map_nil, ↓upd_eq, ↓envL_cons, Go.Ab.W0, Go.Ab.WD, Go.Ab.WE, if_true, if_false, reduceIte, Nat.reduceEqDiff, Nat.reduceAdd, Nat.reduceLT, Nat.reduceLeDiff, reduceCtorEq, Nat.reduceMul, implies_true, forall_eq_or_imp, forall_eq, Nat.reducePow, W1, W1B]
  refine goLoopS 1 (fun i : Nat => [(3, .int .i64 i)]) (fun _ => _) (fun i => i ≤ l.length ∧ ∀ j, j < i → (fun j => okBd (l.getD j default)) j = true) (fun i => l.length - i) C_ok 0 rfl rfl ⟨Nat.zero_le _, by simp⟩ (by decide) ?_
  rintro i ⟨hi, hall⟩
  simp only [List.drop_succ_cons, List.drop_zero, List.cons_append, List.nil_append]
  simp only [↓upd_eq, ↓envL_cons, Go.Ab.W0, Go.Ab.WD, Go.Ab.WE, if_true, if_false, reduceIte, Nat.reduceEqDiff, Nat.reduceAdd, Nat.reduceLT, Nat.reduceLeDiff, reduceCtorEq, Nat.reduceMul, implies_true, forall_eq_or_imp, forall_eq, Nat.reducePow, W1, W1B]
  refine goIf_d (fun hlt => ?_) (fun hlt => ?_)
  · have h := True.intro
    repeat' (first
     | (with_reducible first | refine goIf_b ?_ ?_ | refine goIf_n ?_ ?_ | refine goIf_d ?_ ?_ | refine goIf_split ?_ ?_ | refine goGb_b ?_ ?_ | refine goGb_n ?_ ?_ | refine goGb_d ?_ ?_ | refine goGb_split ?_ ?_ | refine goDGb_b ?_ ?_ | refine goDGb_n ?_ ?_ | refine goDGb_d ?_ ?_ | refine goDGb_split ?_ ?_) <;> intro h
     | ((first | refine goCall_norm ?_ | refine goDCall_norm ?_); simp only [AV.norm, AV.normL, W2, W2B, hlt, mapB_get hlt, embB_cells, List.length_map]; first | refine goCall_p (rright_ok _) (.inl rfl) ?_ | refine goDCall_p (rright_ok _) (.inl rfl) ?_)
     | skip) <;> simp only [h, ↓upd_eq, ↓envL_cons, Go.Ab.W0, Go.Ab.WD, Go.Ab.WE, if_true, if_false, reduceIte, Nat.reduceEqDiff, Nat.reduceAdd, Nat.reduceLT, Nat.reduceLeDiff, reduceCtorEq, Nat.reduceMul, implies_true, forall_eq_or_imp, forall_eq, Nat.reducePow, W1, W1B, hlt, mapB_get hlt, embB_cells, List.length_map]
    all_goals first
      | exact (hfalse i hlt (by first | assumption | (simp [*]; done) | exact okBd_1 (by assumption) | exact okBd_2 (by assumption) | exact okBd_3 (by assumption) | exact okBd_4 (by assumption) (by assumption) (by assumption))).symm
      | (refine ⟨i + 1, ⟨by omega, fun j hj => ?_⟩, by omega, weak_drop rfl rfl rfl rfl ?_ ?_ ?_⟩
         · rcases Nat.lt_succ_iff_lt_or_eq.1 hj with hj | rfl
           · exact hall j hj
           · first | assumption | (simp [*]; done) | exact okBd_1 (by assumption) | exact okBd_2 (by assumption) | exact okBd_3 (by assumption) | exact okBd_4 (by assumption) (by assumption) (by assumption)
         all_goals simp only [List.forall_mem_cons, mem_nil_all, frz_app, ↓upd_eq, ↓envL_cons, Nat.reduceEqDiff, if_true, if_false, reduceIte, true_and, and_true, and_self, true_or, or_true, implies_true, List.not_mem_nil, false_implies, AV.bel, AV.belL, AObj.bel, AV.norm, AV.normL, Bool.and_true, Bool.true_and, decide_true, decide_eq_true_eq, List.length_cons, List.length_nil, Nat.zero_add, Nat.reduceAdd, Nat.lt_add_one, Nat.lt_add_right_iff_pos, Nat.zero_lt_succ, Nat.zero_lt_one, Nat.reduceLT, List.take_succ_cons, List.take_zero, wrap_succ hlt hmax, map_bel, mapB_bel, AV.belL, List.length_map])
  · simp only [↓upd_eq, ↓envL_cons, Go.Ab.W0, Go.Ab.WD, Go.Ab.WE, if_true, if_false, reduceIte, Nat.reduceEqDiff, Nat.reduceAdd, Nat.reduceLT, Nat.reduceLeDiff, reduceCtorEq, Nat.reduceMul, implies_true, forall_eq_or_imp, forall_eq, Nat.reducePow, W1, W1B]
    exact (htrue fun j hj => hall j (by omega)).symm

end Go.Proofs.Ytpkdbhlpndibkaa
