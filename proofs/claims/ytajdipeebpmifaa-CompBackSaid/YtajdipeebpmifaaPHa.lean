/- Lemmas: the functions that the laws of coercions share. No condition. -/
import Derived.Test.YtajdipeebpmifaaPVa
import Derived.Test.YtajdipeebpmifaaPFa
import Derived.Test.YtajdipeebpmifaaPMa
import Derived.Test.YtajdipeebpmifaaPGb
import Derived.Test.YtajdipeebpmifaaPGc
import Derived.Test.YtajdipeebpmifaaPFb

section
/- The guard of the laws of layers 11 and up. No condition. -/
set_option linter.unusedSimpArgs false
set_option linter.unusedVariables false
set_option maxHeartbeats 4000000
set_option maxRecDepth 100000
namespace Go.Proofs.Ytajdipeebpmifaa
open Go Go.Ab
attribute [local irreducible] PCalls ACalls CallK GoCall GoDCall GoIf GoGb GoDGb GoO GoD GoX GoDX GoG GoDG GoGv GoDGv Go ALoop

def deepT : Nat → Ty → Bool
  | 0, _ => true
  | n + 1, t => !allN t.kids.length fun i => !deepT n (t.kid i)
theorem deep_ok : ∀ (n : Nat) (t : Ty), n ≤ 1000 → PCalls Try.prog 111 [emb t, .int .i64 n] (.bool (deepT n t)) := by
  intro n
  induction n with
  | zero =>
    intro t _
    show PCalls _ _ [emb t, .int .i64 0] (.bool true)
    refine pcalls_text C_ok Try.func111 rfl (by decide) (Nat.le_of_ble_eq_true rfl) (by decide) rfl fun ok H => ?_
    rw [Try.results111]
    have h := True.intro
    repeat' (first
     | (with_reducible first | refine goIf_b ?_ ?_ | refine goIf_n ?_ ?_ | refine goIf_d ?_ ?_ | refine goIf_split ?_ ?_ | refine goGb_b ?_ ?_ | refine goGb_n ?_ ?_ | refine goGb_d ?_ ?_ | refine goGb_split ?_ ?_ | refine goDGb_b ?_ ?_ | refine goDGb_n ?_ ?_ | refine goDGb_d ?_ ?_ | refine goDGb_split ?_ ?_) <;> intro h
     | refine goRound ?_ C_ok Try.f111.ntmps rfl (by decide)
     | skip) <;> simp only [h, ↓upd_eq, ↓envL_cons, Go.Ab.W0, Go.Ab.WD, Go.Ab.WE, if_true, if_false, reduceIte, Nat.reduceEqDiff, Nat.reduceAdd, Nat.reduceLT, Nat.reduceLeDiff, reduceCtorEq, Nat.reduceMul, implies_true, forall_eq_or_imp, forall_eq, Nat.reducePow, W1, Go.Ab.W3, Int.reduceAdd, Int.reduceLT, Int.reduceToNat, Int.reduceBEq, Int.reduceBNe, Int.reduceLE, cutNormal_normal]
  | succ n ih =>
    intro t hn
    have hw : IntKind.wrap .i64 (((n + 1 : Nat) : Int) - 1) = (n : Int) := by rw [wrap_i (by omega) (by omega)]; omega
    have h0 : ¬ ((n + 1 : Nat) : Int) ≤ 0 := by omega
    generalize ha : ((n + 1 : Nat) : Int) = m at hw h0 ⊢
    have c : ∀ x, PCalls Try.prog 111 [emb x, .int .i64 n] (.bool (deepT n x)) := fun x => ih x (by omega)
    refine pcalls_text C_ok Try.func111 rfl (by decide) (Nat.le_of_ble_eq_true rfl) (by decide) rfl fun ok H => ?_
    rw [Try.results111]
    have h := True.intro
    repeat' (first
     | (with_reducible first | refine goIf_b ?_ ?_ | refine goIf_n ?_ ?_ | refine goIf_d ?_ ?_ | refine goIf_split ?_ ?_ | refine goGb_b ?_ ?_ | refine goGb_n ?_ ?_ | refine goGb_d ?_ ?_ | refine goGb_split ?_ ?_ | refine goDGb_b ?_ ?_ | refine goDGb_n ?_ ?_ | refine goDGb_d ?_ ?_ | refine goDGb_split ?_ ?_) <;> intro h
     | skip) <;> simp only [h, ↓upd_eq, ↓envL_cons, Go.Ab.W0, Go.Ab.WD, Go.Ab.WE, if_true, if_false, reduceIte, Nat.reduceEqDiff, Nat.reduceAdd, Nat.reduceLT, Nat.reduceLeDiff, reduceCtorEq, Nat.reduceMul, implies_true, forall_eq_or_imp, forall_eq, Nat.reducePow, W1, h0]
    have hmax : t.kids.length ≤ maxLen := (emb_okay ok.1).1
    have hfalse : ∀ i, i < t.kids.length → (!deepT n (t.kid i)) = false → deepT (n + 1) t = true := fun i h1 h2 => by rw [deepT, allN_false (g := fun i => !deepT n (t.kid i)) h1 h2]; rfl
    have htrue : (∀ i, i < t.kids.length → (!deepT n (t.kid i)) = true) → deepT (n + 1) t = false := fun h => by rw [deepT, allN_true h]; rfl
    refine aloop_trim [5, 1, 2] ?_
    simp only [List.map_cons, List.map_nil, ↓upd_eq, ↓envL_cons, Go.Ab.W0, Go.Ab.WD, Go.Ab.WE, if_true, if_false, reduceIte, Nat.reduceEqDiff, Nat.reduceAdd, Nat.reduceLT, Nat.reduceLeDiff, reduceCtorEq, Nat.reduceMul, implies_true, forall_eq_or_imp, forall_eq, Nat.reducePow, W1]
    refine goLoopS 1 (fun i : Nat => [(5, .int .i64 i)]) (fun _ => _) (fun i => i ≤ t.kids.length ∧ ∀ j, j < i → (fun j => !deepT n (t.kid j)) j = true) (fun i => t.kids.length - i) C_ok 0 rfl rfl ⟨Nat.zero_le _, by simp⟩ (by decide) ?_
    rintro i ⟨hi, hall⟩
    simp only [List.drop_succ_cons, List.drop_zero, List.cons_append, List.nil_append]
    simp only [↓upd_eq, ↓envL_cons, Go.Ab.W0, Go.Ab.WD, Go.Ab.WE, if_true, if_false, reduceIte, Nat.reduceEqDiff, Nat.reduceAdd, Nat.reduceLT, Nat.reduceLeDiff, reduceCtorEq, Nat.reduceMul, implies_true, forall_eq_or_imp, forall_eq, Nat.reducePow, W1]
    refine goIf_d (fun hlt => ?_) (fun hlt => ?_)
    · have h := True.intro
      repeat' (first
       | (with_reducible first | refine goIf_b ?_ ?_ | refine goIf_n ?_ ?_ | refine goIf_d ?_ ?_ | refine goIf_split ?_ ?_ | refine goGb_b ?_ ?_ | refine goGb_n ?_ ?_ | refine goGb_d ?_ ?_ | refine goGb_split ?_ ?_ | refine goDGb_b ?_ ?_ | refine goDGb_n ?_ ?_ | refine goDGb_d ?_ ?_ | refine goDGb_split ?_ ?_) <;> intro h
       | ((first | refine goCall_norm ?_ | refine goDCall_norm ?_); simp only [AV.norm, AV.normL, W2, hlt, map_emb_kid hlt, hw, h0]; first | refine goCall_p (c _) (.inl rfl) ?_ | refine goDCall_p (c _) (.inl rfl) ?_)
       | skip) <;> simp only [h, ↓upd_eq, ↓envL_cons, Go.Ab.W0, Go.Ab.WD, Go.Ab.WE, if_true, if_false, reduceIte, Nat.reduceEqDiff, Nat.reduceAdd, Nat.reduceLT, Nat.reduceLeDiff, reduceCtorEq, Nat.reduceMul, implies_true, forall_eq_or_imp, forall_eq, Nat.reducePow, W1, hlt, map_emb_kid hlt, hw, h0]
      all_goals first
        | exact (hfalse i hlt (by first | assumption | (simp [*]; done) | fail)).symm
        | (refine ⟨i + 1, ⟨by omega, fun j hj => ?_⟩, by omega, weak_drop rfl rfl rfl rfl ?_ ?_ ?_⟩
           · rcases Nat.lt_succ_iff_lt_or_eq.1 hj with hj | rfl
             · exact hall j hj
             · first | assumption | (simp [*]; done) | fail
           all_goals simp only [List.forall_mem_cons, mem_nil_all, frz_app, ↓upd_eq, ↓envL_cons, Nat.reduceEqDiff, if_true, if_false, reduceIte, true_and, and_true, and_self, true_or, or_true, implies_true, List.not_mem_nil, false_implies, AV.bel, AV.belL, AObj.bel, AV.norm, AV.normL, Bool.and_true, Bool.true_and, decide_true, decide_eq_true_eq, List.length_cons, List.length_nil, Nat.zero_add, Nat.reduceAdd, Nat.lt_add_one, Nat.lt_add_right_iff_pos, Nat.zero_lt_succ, Nat.zero_lt_one, Nat.reduceLT, List.take_succ_cons, List.take_zero, wrap_succ hlt hmax, map_bel, AV.belL, List.length_map])
    · simp only [↓upd_eq, ↓envL_cons, Go.Ab.W0, Go.Ab.WD, Go.Ab.WE, if_true, if_false, reduceIte, Nat.reduceEqDiff, Nat.reduceAdd, Nat.reduceLT, Nat.reduceLeDiff, reduceCtorEq, Nat.reduceMul, implies_true, forall_eq_or_imp, forall_eq, Nat.reducePow, W1]
      exact (htrue fun j hj => hall j (by omega)).symm

def small1 (t : Ty) : Bool := !(heavy [t] || deepT 60 t || decide (8 < (varsT t).length))
def small (l : List Ty) : Bool := allN l.length fun i => small1 (l.getD i default)
theorem mapT_get {l : List Ty} {i : Nat} (h : i < l.length) : (l.map emb).getD i .any = emb (l.getD i default) := by simp [h]
theorem heavy_n {t : Ty} (h : heavy [t] = false) : nodes t ≤ 600 := heavy_nodes (l := [t]) (by rw [h]; decide) (by simp)
theorem small1_nodes {t : Ty} (h : small1 t = true) : nodes t ≤ 600 := by
  simp only [small1, Bool.not_eq_true', Bool.or_eq_false_iff] at h; exact heavy_n h.1.1
theorem small_mem {l : List Ty} (h : small l = true) {t : Ty} (ht : t ∈ l) : small1 t = true := by
  obtain ⟨i, hi, rfl⟩ := List.getElem_of_mem ht
  have := (allN_iff.1 h) i hi
  simpa [hi] using this
theorem small_nodes {l : List Ty} (h : small l = true) {t : Ty} (ht : t ∈ l) : nodes t ≤ 600 := small1_nodes (small_mem h ht)
theorem len_gt (t : Ty) : decide ((((varsT t).length : Nat) : Int) > 8) = decide (8 < (varsT t).length) := by
  rw [decide_eq_decide]; omega
theorem small1_1 {t : Ty} (h : heavy [t] = true) : small1 t = false := by simp [small1, h]
theorem small1_2 {t : Ty} (h : deepT 60 t = true) : small1 t = false := by simp [small1, h]
theorem small1_3 {t : Ty} (h : (((varsT t).length : Nat) : Int) > 8) : small1 t = false := by
  have : 8 < (varsT t).length := by omega
  simp [small1, this]
theorem small1_4 {t : Ty} (h1 : heavy [t] = false) (h2 : deepT 60 t = false) (h3 : ¬ (((varsT t).length : Nat) : Int) > 8) : small1 t = true := by
  have : ¬ 8 < (varsT t).length := by omega
  simp only [small1, h1, h2, this, Bool.or_false, decide_false, Bool.not_false]
theorem small_ok (l : List Ty) (hl : l.length ≤ 1000000) : PCalls Try.prog 38 [.sl (l.map emb) .no] (.bool (small l)) := by
  refine pcalls_text C_ok Try.func38 rfl (by decide) (Nat.le_of_ble_eq_true rfl) (by decide) rfl fun ok H => ?_
  rw [Try.results38]
  have h := True.intro
  repeat' (first
   | (with_reducible first | refine goIf_b ?_ ?_ | refine goIf_n ?_ ?_ | refine goIf_d ?_ ?_ | refine goIf_split ?_ ?_ | refine goGb_b ?_ ?_ | refine goGb_n ?_ ?_ | refine goGb_d ?_ ?_ | refine goGb_split ?_ ?_ | refine goDGb_b ?_ ?_ | refine goDGb_n ?_ ?_ | refine goDGb_d ?_ ?_ | refine goDGb_split ?_ ?_) <;> intro h
   | skip) <;> simp only [h, ↓upd_eq, ↓envL_cons, Go.Ab.W0, Go.Ab.WD, Go.Ab.WE, if_true, if_false, reduceIte, Nat.reduceEqDiff, Nat.reduceAdd, Nat.reduceLT, Nat.reduceLeDiff, reduceCtorEq, Nat.reduceMul, implies_true, forall_eq_or_imp, forall_eq, Nat.reducePow, W1]
  have hmax : l.length ≤ maxLen := by rw [maxLen_val]; omega
  have hfalse : ∀ i, i < l.length → small1 (l.getD i default) = false → small l = false := fun i h1 h2 => by rw [small, allN_false (g := fun i => small1 (l.getD i default)) h1 h2]
  have htrue : (∀ i, i < l.length → small1 (l.getD i default) = true) → small l = true := fun h => by rw [small, allN_true h]
  have c1 : ∀ t, heavy [t] = false → PCalls Try.prog 112 [emb t] (.sl ((varsT t).map I64) .no) := fun t h => rVars_ok t (Nat.le_trans (heavy_n h) (by decide))
  have c2 : ∀ t, PCalls Try.prog 111 [emb t, .int .i64 60] (.bool (deepT 60 t)) := fun t => deep_ok 60 t (by decide)
  refine aloop_trim [3, 0] ?_
  simp only [List.map_cons, List.map_nil, ↓upd_eq, ↓envL_cons, Go.Ab.W0, Go.Ab.WD, Go.Ab.WE, if_true, if_false, reduceIte, Nat.reduceEqDiff, Nat.reduceAdd, Nat.reduceLT, Nat.reduceLeDiff, reduceCtorEq, Nat.reduceMul, implies_true, forall_eq_or_imp, forall_eq, Nat.reducePow, W1]
  refine goLoopS 1 (fun i : Nat => [(3, .int .i64 i)]) (fun _ => _) (fun i => i ≤ l.length ∧ ∀ j, j < i → (fun j => small1 (l.getD j default)) j = true) (fun i => l.length - i) C_ok 0 rfl rfl ⟨Nat.zero_le _, by simp⟩ (by decide) ?_
  rintro i ⟨hi, hall⟩
  simp only [List.drop_succ_cons, List.drop_zero, List.cons_append, List.nil_append]
  simp only [↓upd_eq, ↓envL_cons, Go.Ab.W0, Go.Ab.WD, Go.Ab.WE, if_true, if_false, reduceIte, Nat.reduceEqDiff, Nat.reduceAdd, Nat.reduceLT, Nat.reduceLeDiff, reduceCtorEq, Nat.reduceMul, implies_true, forall_eq_or_imp, forall_eq, Nat.reducePow, W1]
  refine goIf_d (fun hlt => ?_) (fun hlt => ?_)
  · have h := True.intro
    repeat' (first
     | (with_reducible first | refine goIf_b ?_ ?_ | refine goIf_n ?_ ?_ | refine goIf_d ?_ ?_ | refine goIf_split ?_ ?_ | refine goGb_b ?_ ?_ | refine goGb_n ?_ ?_ | refine goGb_d ?_ ?_ | refine goGb_split ?_ ?_ | refine goDGb_b ?_ ?_ | refine goDGb_n ?_ ?_ | refine goDGb_d ?_ ?_ | refine goDGb_split ?_ ?_) <;> intro h
     | ((first | refine goCall_norm ?_ | refine goDCall_norm ?_); simp only [AV.norm, AV.normL, W2, hlt, mapT_get hlt, List.length_map]; first | refine goCall_p (heavy1_ok _) (.inl rfl) ?_ | refine goCall_p (c1 _ (by assumption)) (.inl rfl) ?_ | refine goCall_p (c2 _) (.inl rfl) ?_ | refine goDCall_p (heavy1_ok _) (.inl rfl) ?_ | refine goDCall_p (c1 _ (by assumption)) (.inl rfl) ?_ | refine goDCall_p (c2 _) (.inl rfl) ?_)
     | skip) <;> simp only [h, ↓upd_eq, ↓envL_cons, Go.Ab.W0, Go.Ab.WD, Go.Ab.WE, if_true, if_false, reduceIte, Nat.reduceEqDiff, Nat.reduceAdd, Nat.reduceLT, Nat.reduceLeDiff, reduceCtorEq, Nat.reduceMul, implies_true, forall_eq_or_imp, forall_eq, Nat.reducePow, W1, hlt, mapT_get hlt, List.length_map]
    all_goals first
      | exact (hfalse i hlt (by first | assumption | (simp [*]; done) | exact small1_1 (by assumption) | exact small1_2 (by assumption) | exact small1_3 (by assumption) | exact small1_4 (by assumption) (by assumption) (by assumption))).symm
      | (refine ⟨i + 1, ⟨by omega, fun j hj => ?_⟩, by omega, weak_drop rfl rfl rfl rfl ?_ ?_ ?_⟩
         · rcases Nat.lt_succ_iff_lt_or_eq.1 hj with hj | rfl
           · exact hall j hj
           · first | assumption | (simp [*]; done) | exact small1_1 (by assumption) | exact small1_2 (by assumption) | exact small1_3 (by assumption) | exact small1_4 (by assumption) (by assumption) (by assumption)
         all_goals simp only [List.forall_mem_cons, mem_nil_all, frz_app, ↓upd_eq, ↓envL_cons, Nat.reduceEqDiff, if_true, if_false, reduceIte, true_and, and_true, and_self, true_or, or_true, implies_true, List.not_mem_nil, false_implies, AV.bel, AV.belL, AObj.bel, AV.norm, AV.normL, Bool.and_true, Bool.true_and, decide_true, decide_eq_true_eq, List.length_cons, List.length_nil, Nat.zero_add, Nat.reduceAdd, Nat.lt_add_one, Nat.lt_add_right_iff_pos, Nat.zero_lt_succ, Nat.zero_lt_one, Nat.reduceLT, List.take_succ_cons, List.take_zero, wrap_succ hlt hmax, map_bel, AV.belL, List.length_map])
  · simp only [↓upd_eq, ↓envL_cons, Go.Ab.W0, Go.Ab.WD, Go.Ab.WE, if_true, if_false, reduceIte, Nat.reduceEqDiff, Nat.reduceAdd, Nat.reduceLT, Nat.reduceLeDiff, reduceCtorEq, Nat.reduceMul, implies_true, forall_eq_or_imp, forall_eq, Nat.reducePow, W1]
    exact (htrue fun j hj => hall j (by omega)).symm

end Go.Proofs.Ytajdipeebpmifaa
end

section
/- What is done of any coercions and types, right or not. No condition. -/
set_option linter.unusedSimpArgs false
set_option linter.unusedVariables false
set_option maxHeartbeats 4000000
set_option maxRecDepth 100000
namespace Go.Proofs.Ytajdipeebpmifaa
open Go Go.Ab
attribute [local irreducible] PCalls ACalls CallK GoCall GoDCall GoIf GoGb GoDGb GoO GoD GoX GoDX GoG GoDG GoGv GoDGv Go ALoop

open Classical in
noncomputable def kOf (c : Co) : K := if h : ∃ k : K, c = k.co then h.choose else .id
open Classical in
noncomputable def tOf (a : Ty) : T := if h : ∃ x : T, a = x.ty then h.choose else .dyn
theorem kOf_co (k : K) : kOf k.co = k := by
  have h : ∃ k' : K, k.co = k'.co := ⟨k, rfl⟩
  unfold kOf; rw [dif_pos h]; exact (K.co_inj h.choose_spec).symm
theorem tOf_ty (x : T) : tOf x.ty = x := by
  have h : ∃ k' : T, x.ty = k'.ty := ⟨x, rfl⟩
  unfold tOf; rw [dif_pos h]; exact (T.ty_inj h.choose_spec).symm
theorem K.of_right' {c : Co} (h : rightC c = true) : ∃ k : K, c = k.co ∧ k.ok = true := by
  obtain ⟨k, rfl⟩ := K.of_right c h
  exact ⟨k, rfl, by rw [← K.right_co]; exact h⟩
theorem T.of_right' {a : Ty} (h : right a = true) : ∃ x : T, a = x.ty ∧ x.ok = true := by
  obtain ⟨x, rfl⟩ := T.of_right a h
  exact ⟨x, rfl, by rw [← T.right_ty]; exact h⟩

noncomputable def fitsC (c : Co) (a b : Ty) : Bool := rightC c && right a && right b && fitsK (kOf c) (tOf a) (tOf b)
theorem fitsC_co {k : K} {x y : T} (hk : k.ok = true) (hx : x.ok = true) (hy : y.ok = true) : fitsC k.co x.ty y.ty = fitsK k x y := by
  simp only [fitsC, kOf_co, tOf_ty, K.right_co, T.right_ty, hk, hx, hy, Bool.true_and]
theorem fitsC_bad {c : Co} {a b : Ty} (h : (rightC c && right a && right b) = false) : fitsC c a b = false := by
  rw [fitsC, h]; rfl
theorem cFitsC_ok (c : Co) (a b : Ty) : PCalls Try.prog 44 [embC c, emb a, emb b] (.bool (fitsC c a b)) := by
  cases h : (rightC c && right a && right b) with
  | false => rw [fitsC_bad h]; exact cFits_bad c a b h
  | true =>
    simp only [Bool.and_eq_true] at h
    obtain ⟨k, rfl, hk⟩ := K.of_right' h.1.1
    obtain ⟨x, rfl, hx⟩ := T.of_right' h.1.2
    obtain ⟨y, rfl, hy⟩ := T.of_right' h.2
    rw [fitsC_co hk hx hy]
    exact cFits_ok k x y hk hx hy
theorem rFitsC_ok (c : Co) (a b : Ty) (hc : rightC c = true) (ha : right a = true) (hb : right b = true) : PCalls Try.prog 41 [embC c, emb a, emb b] (.bool (fitsC c a b)) := by
  obtain ⟨k, rfl, hk⟩ := K.of_right' hc
  obtain ⟨x, rfl, hx⟩ := T.of_right' ha
  obtain ⟨y, rfl, hy⟩ := T.of_right' hb
  rw [fitsC_co hk hx hy]
  exact rFits_ok k x y hk hx hy

/-- Casts. -/
def castE (a b : Ty) (l : Int) : Int := if (right a && right b && labelOK l) = true then if agree a b = true then 0 else 4 else 1
noncomputable def castC (a b : Ty) (l : Int) (n : Bool) : Co := if castE a b l = 0 then (castT l (tOf a) (tOf b) n).co else coNone
theorem castE_co {x y : T} {l : Int} (hx : x.ok = true) (hy : y.ok = true) (hl : labelOK l = true) : castE x.ty y.ty l = if agreeT x y = true then 0 else 4 := by
  simp only [castE, T.right_ty, hx, hy, hl, T.agree_ty, Bool.and_self, if_true]
theorem castC_co {x y : T} {l : Int} {n : Bool} (hx : x.ok = true) (hy : y.ok = true) (hl : labelOK l = true) (h : agreeT x y = true) : castC x.ty y.ty l n = (castT l x y n).co := by
  rw [castC, castE_co hx hy hl, if_pos h, if_pos rfl, tOf_ty, tOf_ty]
theorem castC_no {a b : Ty} {l : Int} {n : Bool} (h : castE a b l ≠ 0) : castC a b l n = coNone := by rw [castC, if_neg h]
theorem tCastC_ok (a b : Ty) (l : Int) (n : Bool) : PCalls Try.prog 48 [emb a, emb b, .int .i64 l, .bool n] (.tup [embC (castC a b l n), .int .i64 (castE a b l)]) := by
  cases h : (right a && right b && labelOK l) with
  | false =>
    have e : castE a b l = 1 := by rw [castE, h]; rfl
    rw [castC_no (by rw [e]; decide), e]
    exact tCast_bad l a b h n
  | true =>
    simp only [Bool.and_eq_true] at h
    obtain ⟨x, rfl, hx⟩ := T.of_right' h.1.1
    obtain ⟨y, rfl, hy⟩ := T.of_right' h.1.2
    have c := tCast_ok l h.2 x y hx hy n
    have e := castE_co hx hy h.2
    by_cases hg : agreeT x y = true
    · rw [if_pos hg] at c e
      rw [castC_co hx hy h.2 hg, e]; exact c
    · rw [if_neg hg] at c e
      rw [castC_no (by rw [e]; decide), e]; exact c
theorem rCastC_ok (a b : Ty) (l : Int) (n : Bool) (h : castE a b l = 0) : PCalls Try.prog 51 [emb a, emb b, .int .i64 l, .bool n] (embC (castC a b l n)) := by
  have h' : (right a && right b && labelOK l) = true ∧ agree a b = true := by
    unfold castE at h; split at h
    · split at h
      · exact ⟨by assumption, by assumption⟩
      · cases h
    · cases h
  obtain ⟨h1, h2⟩ := h'
  simp only [Bool.and_eq_true] at h1
  obtain ⟨x, rfl, hx⟩ := T.of_right' h1.1.1
  obtain ⟨y, rfl, hy⟩ := T.of_right' h1.1.2
  rw [T.agree_ty] at h2
  rw [castC_co hx hy h1.2 h2]
  exact rcast_ok l x y h2 hx hy n

/-- Joints. -/
noncomputable def joinO (c d : Co) : Option K := if (rightC c && rightC d) = true then joinR (kOf c) (kOf d) else none
noncomputable def joinE (c d : Co) : Int := if (rightC c && rightC d) = true then (if (joinO c d).isSome = true then 0 else 8) else 1
noncomputable def joinC (c d : Co) : Co := match joinO c d with | some j => j.co | none => coNone
theorem joinO_co {c d : K} (hc : c.ok = true) (hd : d.ok = true) : joinO c.co d.co = joinR c d := by
  simp only [joinO, kOf_co, K.right_co, hc, hd, Bool.and_self, if_true]
theorem cJoinC_ok (c d : Co) : PCalls Try.prog 28 [embC c, embC d] (.tup [embC (joinC c d), .int .i64 (joinE c d)]) := by
  cases h : (rightC c && rightC d) with
  | false =>
    have e : joinO c d = none := by rw [joinO, h]; rfl
    rw [joinC, joinE, h, e]
    exact cJoin_bad c d (by rwa [Bool.and_eq_false_iff] at h)
  | true =>
    simp only [Bool.and_eq_true] at h
    obtain ⟨k, rfl, hk⟩ := K.of_right' h.1
    obtain ⟨m, rfl, hm⟩ := K.of_right' h.2
    have c := cJoin_ok k m hk hm
    rw [joinC, joinE, joinO_co hk hm, h.1, h.2]
    cases e : joinR k m with
    | none => rw [e] at c; exact c
    | some j => rw [e] at c; exact c
theorem rJoinC_ok (c d : Co) (hc : rightC c = true) (hd : rightC d = true) : PCalls Try.prog 30 [embC c, embC d] (.tup [embC (joinC c d), .bool (joinE c d == 0)]) := by
  obtain ⟨k, rfl, hk⟩ := K.of_right' hc
  obtain ⟨m, rfl, hm⟩ := K.of_right' hd
  have c := rJoin_ok k m
  rw [joinC, joinE, joinO_co hk hm, hc, hd]
  cases e : joinR k m with
  | none => rw [e] at c; exact c
  | some j => rw [e] at c; exact c

theorem small1_ok (a : Ty) : PCalls Try.prog 38 [.sl [emb a] .no] (.bool (small [a])) := small_ok [a] (by simp)
theorem small2_ok (a b : Ty) : PCalls Try.prog 38 [.sl [emb a, emb b] .no] (.bool (small [a, b])) := small_ok [a, b] (by simp)
theorem small4_ok (a b c d : Ty) : PCalls Try.prog 38 [.sl [emb a, emb b, emb c, emb d] .no] (.bool (small [a, b, c, d])) := small_ok [a, b, c, d] (by simp)

def injC (h : Int) : Co := .mk 5 h 0 false [.mk 1 0 0 false []]
def projC (h l : Int) : Co := .mk 6 h l false [.mk 1 0 0 false []]
theorem inj20_ok (h : Int) : PCalls Try.prog 116 [.int .i64 h] (embC (injC h)) := by
  unfold injC
  refine pcalls_text C_ok Try.func116 rfl (by decide) (Nat.le_of_ble_eq_true rfl) (by decide) (embC_bel _ _) fun ok H => ?_
  rw [Try.results116]
  have h := True.intro
  repeat' (first
   | (with_reducible first | refine goIf_b ?_ ?_ | refine goIf_n ?_ ?_ | refine goIf_d ?_ ?_ | refine goIf_split ?_ ?_ | refine goGb_b ?_ ?_ | refine goGb_n ?_ ?_ | refine goGb_d ?_ ?_ | refine goGb_split ?_ ?_ | refine goDGb_b ?_ ?_ | refine goDGb_n ?_ ?_ | refine goDGb_d ?_ ?_ | refine goDGb_split ?_ ?_) <;> intro h
   | refine goRound ?_ C_ok Try.f116.ntmps rfl (by decide)
   | skip) <;> simp only [h, ↓upd_eq, ↓envL_cons, Go.Ab.W0, Go.Ab.WD, Go.Ab.WE, if_true, if_false, reduceIte, Nat.reduceEqDiff, Nat.reduceAdd, Nat.reduceLT, Nat.reduceLeDiff, reduceCtorEq, Nat.reduceMul, implies_true, forall_eq_or_imp, forall_eq, Nat.reducePow, W1, W1C, Go.Ab.W3, Int.reduceAdd, Int.reduceLT, Int.reduceToNat, Int.reduceBEq, Int.reduceBNe, Int.reduceLE, cutNormal_normal]
theorem proj20_ok (h l : Int) : PCalls Try.prog 117 [.int .i64 h, .int .i64 l] (embC (projC h l)) := by
  unfold projC
  refine pcalls_text C_ok Try.func117 rfl (by decide) (Nat.le_of_ble_eq_true rfl) (by decide) (embC_bel _ _) fun ok H => ?_
  rw [Try.results117]
  have h := True.intro
  repeat' (first
   | (with_reducible first | refine goIf_b ?_ ?_ | refine goIf_n ?_ ?_ | refine goIf_d ?_ ?_ | refine goIf_split ?_ ?_ | refine goGb_b ?_ ?_ | refine goGb_n ?_ ?_ | refine goGb_d ?_ ?_ | refine goGb_split ?_ ?_ | refine goDGb_b ?_ ?_ | refine goDGb_n ?_ ?_ | refine goDGb_d ?_ ?_ | refine goDGb_split ?_ ?_) <;> intro h
   | refine goRound ?_ C_ok Try.f117.ntmps rfl (by decide)
   | skip) <;> simp only [h, ↓upd_eq, ↓envL_cons, Go.Ab.W0, Go.Ab.WD, Go.Ab.WE, if_true, if_false, reduceIte, Nat.reduceEqDiff, Nat.reduceAdd, Nat.reduceLT, Nat.reduceLeDiff, reduceCtorEq, Nat.reduceMul, implies_true, forall_eq_or_imp, forall_eq, Nat.reducePow, W1, W1C, Go.Ab.W3, Int.reduceAdd, Int.reduceLT, Int.reduceToNat, Int.reduceBEq, Int.reduceBNe, Int.reduceLE, cutNormal_normal]

theorem wakes20_ok : PCalls Try.prog 45 [] (.bool true) := by
  have rf : rightC (.mk 2 0 0 false [injC 1, projC 2 3]) = true := by decide
  have ri : rightC (.mk 2 0 0 false [.mk 1 0 0 false [], .mk 1 0 0 false []]) = false := by decide
  have f1 : fitsC (.mk 2 0 0 false [injC 1, projC 2 3]) (twoT 9 (leafT 5) (leafT 5)) (twoT 9 (leafT 1) (leafT 2)) = true := by
    rw [show Co.mk 2 0 0 false [injC 1, projC 2 3] = (K.fn (.inj 1 .id) (.proj 2 3 false .id)).co from rfl, show twoT 9 (leafT 5) (leafT 5) = (T.fn .dyn .dyn).ty from rfl, show twoT 9 (leafT 1) (leafT 2) = (T.fn (.base 0) (.base 1)).ty from rfl, fitsC_co (by decide) (by decide) (by decide)]
    decide
  have f2 : fitsC (.mk 2 0 0 false [injC 1, projC 2 3]) (twoT 9 (leafT 1) (leafT 2)) (twoT 9 (leafT 5) (leafT 5)) = false := by
    rw [show Co.mk 2 0 0 false [injC 1, projC 2 3] = (K.fn (.inj 1 .id) (.proj 2 3 false .id)).co from rfl, show twoT 9 (leafT 5) (leafT 5) = (T.fn .dyn .dyn).ty from rfl, show twoT 9 (leafT 1) (leafT 2) = (T.fn (.base 0) (.base 1)).ty from rfl, fitsC_co (by decide) (by decide) (by decide)]
    decide
  have n1 : nodesC (.mk 2 0 0 false [injC 1, projC 2 3]) = 5 := by decide
  have h1 : heightC (.mk 2 0 0 false [injC 1, projC 2 3]) = 2 := by decide
  have s1 : sameC (.mk 2 0 0 false [injC 1, projC 2 3]) (.mk 2 0 0 false [injC 1, projC 2 3]) = true := by decide
  have s2 : sameC (.mk 2 0 0 false [injC 1, projC 2 3]) (injC 1) = false := by decide
  have c1 := sizeC_ok (.mk 2 0 0 false [injC 1, projC 2 3]) (by rw [n1]; decide)
  have c2 := cHeight_ok (.mk 2 0 0 false [injC 1, projC 2 3]) (by rw [n1]; decide)
  rw [n1] at c1
  rw [rf, h1, if_pos rfl] at c2
  refine pcalls_text C_ok Try.func45 rfl (by decide) (Nat.le_of_ble_eq_true rfl) (by decide) rfl fun ok H => ?_
  rw [Try.results45]
  have h := True.intro
  repeat' (first
   | (with_reducible first | refine goIf_b ?_ ?_ | refine goIf_n ?_ ?_ | refine goIf_d ?_ ?_ | refine goIf_split ?_ ?_ | refine goGb_b ?_ ?_ | refine goGb_n ?_ ?_ | refine goGb_d ?_ ?_ | refine goGb_split ?_ ?_ | refine goDGb_b ?_ ?_ | refine goDGb_n ?_ ?_ | refine goDGb_d ?_ ?_ | refine goDGb_split ?_ ?_) <;> intro h
   | ((first | refine goCall_norm ?_ | refine goDCall_norm ?_); simp only [AV.norm, AV.normL, W2, W2C, Go.Ab.W3, Int.reduceAdd, Int.reduceLT, Int.reduceToNat, Int.reduceBEq, Int.reduceBNe, Int.reduceLE, rf, ri, f1, f2, s1, s2]; first | refine goCall_p (leaf_ok _) (.inl rfl) ?_ | refine goCall_p (two_ok _ _ _) (.inl rfl) ?_ | refine goCall_p (inj20_ok _) (.inl rfl) ?_ | refine goCall_p (proj20_ok _ _) (.inl rfl) ?_ | refine goCall_p (ccheck_ok _) (.inl rfl) ?_ | refine goCall_p (c1) (.inl rfl) ?_ | refine goCall_p (c2) (.inl rfl) ?_ | refine goCall_p (cFitsC_ok _ _ _) (.inl rfl) ?_ | refine goCall_p (sameC_ok _ _) (.inl rfl) ?_ | refine goDCall_p (leaf_ok _) (.inl rfl) ?_ | refine goDCall_p (two_ok _ _ _) (.inl rfl) ?_ | refine goDCall_p (inj20_ok _) (.inl rfl) ?_ | refine goDCall_p (proj20_ok _ _) (.inl rfl) ?_ | refine goDCall_p (ccheck_ok _) (.inl rfl) ?_ | refine goDCall_p (c1) (.inl rfl) ?_ | refine goDCall_p (c2) (.inl rfl) ?_ | refine goDCall_p (cFitsC_ok _ _ _) (.inl rfl) ?_ | refine goDCall_p (sameC_ok _ _) (.inl rfl) ?_)
   | refine go_draw (id := 5) C_ok mixed 0 Try.f45.ntmps rfl (by kernel_rfl) (by decide) ?_
   | refine goRound ?_ C_ok Try.f45.ntmps rfl (by decide)
   | skip) <;> simp only [h, ↓upd_eq, ↓envL_cons, Go.Ab.W0, Go.Ab.WD, Go.Ab.WE, if_true, if_false, reduceIte, Nat.reduceEqDiff, Nat.reduceAdd, Nat.reduceLT, Nat.reduceLeDiff, reduceCtorEq, Nat.reduceMul, implies_true, forall_eq_or_imp, forall_eq, Nat.reducePow, W1, W1C, Go.Ab.W3, Int.reduceAdd, Int.reduceLT, Int.reduceToNat, Int.reduceBEq, Int.reduceBNe, Int.reduceLE, rf, ri, f1, f2, s1, s2, cutNormal_normal]

end Go.Proofs.Ytajdipeebpmifaa
end

section
/- Labels within their bounds. No condition. -/
set_option linter.unusedSimpArgs false
set_option linter.unusedVariables false
set_option maxRecDepth 100000
namespace Go.Proofs.Ytajdipeebpmifaa
open Go Go.Ab

def labM (l : Int) : Int := kint l 1048576
theorem labM_ok (l : Int) : labelOK (labM l) = true ∧ labelOK (labM l + 1) = true ∧ IntKind.wrap .i64 (labM l + 1) = labM l + 1 := by
  obtain ⟨k, h1, h2⟩ := kint_nat l (n := 1048576) (by decide)
  unfold labM
  rw [h1]
  refine ⟨by simp [labelOK]; omega, by simp [labelOK]; omega, wrap_i (by omega) (by omega)⟩
theorem labM_w (l : Int) : IntKind.wrap .i64 ((IntKind.wrap .u64 l).tmod 1048576) = labM l := by
  have := rem_small l (n := 1048576) (by decide) (by decide)
  rw [show IntKind.wrap .u64 1048576 = 1048576 by decide] at this
  exact this


end Go.Proofs.Ytajdipeebpmifaa
end

section
/- The laws of layer 20 answer true, whatever the input. No condition. -/
set_option linter.unusedSimpArgs false
set_option linter.unusedVariables false
set_option maxHeartbeats 4000000
set_option maxRecDepth 100000
namespace Go.Proofs.Ytajdipeebpmifaa
open Go Go.Ab
attribute [local irreducible] PCalls ACalls CallK GoCall GoDCall GoIf GoGb GoDGb GoO GoD GoX GoDX GoG GoDG GoGv GoDGv Go ALoop

theorem coerExact_ok (c d : Co) (a b : Ty) : PCalls Try.prog 6 [embC c, embC d, emb a, emb b] (.bool true) := by
  by_cases hv : heavyC [c, d] = true
  · refine pcalls_text C_ok Try.func6 rfl (by decide) (Nat.le_of_ble_eq_true rfl) (by decide) rfl fun ok H => ?_
    rw [Try.results6]
    have h := True.intro
    repeat' (first
     | (with_reducible first | refine goIf_b ?_ ?_ | refine goIf_n ?_ ?_ | refine goIf_d ?_ ?_ | refine goIf_split ?_ ?_ | refine goGb_b ?_ ?_ | refine goGb_n ?_ ?_ | refine goGb_d ?_ ?_ | refine goGb_split ?_ ?_ | refine goDGb_b ?_ ?_ | refine goDGb_n ?_ ?_ | refine goDGb_d ?_ ?_ | refine goDGb_split ?_ ?_) <;> intro h
     | ((first | refine goCall_norm ?_ | refine goDCall_norm ?_); simp only [AV.norm, AV.normL, W2, W2C, Go.Ab.W3, Int.reduceAdd, Int.reduceLT, Int.reduceToNat, Int.reduceBEq, Int.reduceBNe, Int.reduceLE, hv]; first | refine goCall_p (heavyC2_ok _ _) (.inl rfl) ?_ | refine goDCall_p (heavyC2_ok _ _) (.inl rfl) ?_)
     | refine go_draw (id := 7) C_ok mixed 0 Try.f6.ntmps rfl (by kernel_rfl) (by decide) ?_
     | refine goRound ?_ C_ok Try.f6.ntmps rfl (by decide)
     | skip) <;> simp only [h, ↓upd_eq, ↓envL_cons, Go.Ab.W0, Go.Ab.WD, Go.Ab.WE, if_true, if_false, reduceIte, Nat.reduceEqDiff, Nat.reduceAdd, Nat.reduceLT, Nat.reduceLeDiff, reduceCtorEq, Nat.reduceMul, implies_true, forall_eq_or_imp, forall_eq, Nat.reducePow, W1, W1C, Go.Ab.W3, Int.reduceAdd, Int.reduceLT, Int.reduceToNat, Int.reduceBEq, Int.reduceBNe, Int.reduceLE, hv, cutNormal_normal]
  have n1 : nodesC c ≤ 1000000000 := Nat.le_trans (heavyC_nodes hv (by simp)) (by decide)
  have hv' : heavyC [c, d] = false := by simpa using hv
  cases hs : small [a, b] with
  | false =>
    refine pcalls_text C_ok Try.func6 rfl (by decide) (Nat.le_of_ble_eq_true rfl) (by decide) rfl fun ok H => ?_
    rw [Try.results6]
    have h := True.intro
    repeat' (first
     | (with_reducible first | refine goIf_b ?_ ?_ | refine goIf_n ?_ ?_ | refine goIf_d ?_ ?_ | refine goIf_split ?_ ?_ | refine goGb_b ?_ ?_ | refine goGb_n ?_ ?_ | refine goGb_d ?_ ?_ | refine goGb_split ?_ ?_ | refine goDGb_b ?_ ?_ | refine goDGb_n ?_ ?_ | refine goDGb_d ?_ ?_ | refine goDGb_split ?_ ?_) <;> intro h
     | ((first | refine goCall_norm ?_ | refine goDCall_norm ?_); simp only [AV.norm, AV.normL, W2, W2C, Go.Ab.W3, Int.reduceAdd, Int.reduceLT, Int.reduceToNat, Int.reduceBEq, Int.reduceBNe, Int.reduceLE, hv', hs]; first | refine goCall_p (heavyC2_ok _ _) (.inl rfl) ?_ | refine goCall_p (small2_ok _ _) (.inl rfl) ?_ | refine goDCall_p (heavyC2_ok _ _) (.inl rfl) ?_ | refine goDCall_p (small2_ok _ _) (.inl rfl) ?_)
     | refine go_draw (id := 7) C_ok mixed 0 Try.f6.ntmps rfl (by kernel_rfl) (by decide) ?_
     | refine goRound ?_ C_ok Try.f6.ntmps rfl (by decide)
     | skip) <;> simp only [h, ↓upd_eq, ↓envL_cons, Go.Ab.W0, Go.Ab.WD, Go.Ab.WE, if_true, if_false, reduceIte, Nat.reduceEqDiff, Nat.reduceAdd, Nat.reduceLT, Nat.reduceLeDiff, reduceCtorEq, Nat.reduceMul, implies_true, forall_eq_or_imp, forall_eq, Nat.reducePow, W1, W1C, Go.Ab.W3, Int.reduceAdd, Int.reduceLT, Int.reduceToNat, Int.reduceBEq, Int.reduceBNe, Int.reduceLE, hv', hs, cutNormal_normal]
  | true =>
    have c1 := cHeight_ok c n1
    cases hc : rightC c with
    | false =>
      have f1 : fitsC c a b = false := fitsC_bad (by rw [hc]; rfl)
      rw [hc, if_neg (by decide)] at c1
      refine pcalls_text C_ok Try.func6 rfl (by decide) (Nat.le_of_ble_eq_true rfl) (by decide) rfl fun ok H => ?_
      rw [Try.results6]
      have h := True.intro
      repeat' (first
       | (with_reducible first | refine goIf_b ?_ ?_ | refine goIf_n ?_ ?_ | refine goIf_d ?_ ?_ | refine goIf_split ?_ ?_ | refine goGb_b ?_ ?_ | refine goGb_n ?_ ?_ | refine goGb_d ?_ ?_ | refine goGb_split ?_ ?_ | refine goDGb_b ?_ ?_ | refine goDGb_n ?_ ?_ | refine goDGb_d ?_ ?_ | refine goDGb_split ?_ ?_) <;> intro h
       | ((first | refine goCall_norm ?_ | refine goDCall_norm ?_); simp only [AV.norm, AV.normL, W2, W2C, Go.Ab.W3, Int.reduceAdd, Int.reduceLT, Int.reduceToNat, Int.reduceBEq, Int.reduceBNe, Int.reduceLE, hv', hs, hc, f1, beq_self_eq_true]; first | refine goCall_p (heavyC2_ok _ _) (.inl rfl) ?_ | refine goCall_p (small2_ok _ _) (.inl rfl) ?_ | refine goCall_p (rrightC_ok _) (.inl rfl) ?_ | refine goCall_p (ccheck_ok _) (.inl rfl) ?_ | refine goCall_p (sameC_ok _ _) (.inl rfl) ?_ | refine goCall_p (rsameC_ok _ _) (.inl rfl) ?_ | refine goCall_p (sizeC_ok _ n1) (.inl rfl) ?_ | refine goCall_p (rsizeC_ok _ n1) (.inl rfl) ?_ | refine goCall_p (c1) (.inl rfl) ?_ | refine goCall_p (cFitsC_ok _ _ _) (.inl rfl) ?_ | refine goCall_p (wakes20_ok) (.inl rfl) ?_ | refine goDCall_p (heavyC2_ok _ _) (.inl rfl) ?_ | refine goDCall_p (small2_ok _ _) (.inl rfl) ?_ | refine goDCall_p (rrightC_ok _) (.inl rfl) ?_ | refine goDCall_p (ccheck_ok _) (.inl rfl) ?_ | refine goDCall_p (sameC_ok _ _) (.inl rfl) ?_ | refine goDCall_p (rsameC_ok _ _) (.inl rfl) ?_ | refine goDCall_p (sizeC_ok _ n1) (.inl rfl) ?_ | refine goDCall_p (rsizeC_ok _ n1) (.inl rfl) ?_ | refine goDCall_p (c1) (.inl rfl) ?_ | refine goDCall_p (cFitsC_ok _ _ _) (.inl rfl) ?_ | refine goDCall_p (wakes20_ok) (.inl rfl) ?_)
       | refine go_draw (id := 7) C_ok mixed 0 Try.f6.ntmps rfl (by kernel_rfl) (by decide) ?_
       | refine goRound ?_ C_ok Try.f6.ntmps rfl (by decide)
       | skip) <;> simp only [h, ↓upd_eq, ↓envL_cons, Go.Ab.W0, Go.Ab.WD, Go.Ab.WE, if_true, if_false, reduceIte, Nat.reduceEqDiff, Nat.reduceAdd, Nat.reduceLT, Nat.reduceLeDiff, reduceCtorEq, Nat.reduceMul, implies_true, forall_eq_or_imp, forall_eq, Nat.reducePow, W1, W1C, Go.Ab.W3, Int.reduceAdd, Int.reduceLT, Int.reduceToNat, Int.reduceBEq, Int.reduceBNe, Int.reduceLE, hv', hs, hc, f1, beq_self_eq_true, cutNormal_normal]
    | true =>
      have c2 := rheightC_ok c hc n1
      rw [hc, if_pos rfl] at c1
      cases ha : right a with
      | false =>
        have f1 : fitsC c a b = false := fitsC_bad (by rw [hc, ha]; rfl)
        refine pcalls_text C_ok Try.func6 rfl (by decide) (Nat.le_of_ble_eq_true rfl) (by decide) rfl fun ok H => ?_
        rw [Try.results6]
        have h := True.intro
        repeat' (first
         | (with_reducible first | refine goIf_b ?_ ?_ | refine goIf_n ?_ ?_ | refine goIf_d ?_ ?_ | refine goIf_split ?_ ?_ | refine goGb_b ?_ ?_ | refine goGb_n ?_ ?_ | refine goGb_d ?_ ?_ | refine goGb_split ?_ ?_ | refine goDGb_b ?_ ?_ | refine goDGb_n ?_ ?_ | refine goDGb_d ?_ ?_ | refine goDGb_split ?_ ?_) <;> intro h
         | ((first | refine goCall_norm ?_ | refine goDCall_norm ?_); simp only [AV.norm, AV.normL, W2, W2C, Go.Ab.W3, Int.reduceAdd, Int.reduceLT, Int.reduceToNat, Int.reduceBEq, Int.reduceBNe, Int.reduceLE, hv', hs, hc, ha, f1, beq_self_eq_true]; first | refine goCall_p (heavyC2_ok _ _) (.inl rfl) ?_ | refine goCall_p (small2_ok _ _) (.inl rfl) ?_ | refine goCall_p (rrightC_ok _) (.inl rfl) ?_ | refine goCall_p (rright_ok _) (.inl rfl) ?_ | refine goCall_p (ccheck_ok _) (.inl rfl) ?_ | refine goCall_p (sameC_ok _ _) (.inl rfl) ?_ | refine goCall_p (rsameC_ok _ _) (.inl rfl) ?_ | refine goCall_p (sizeC_ok _ n1) (.inl rfl) ?_ | refine goCall_p (rsizeC_ok _ n1) (.inl rfl) ?_ | refine goCall_p (c1) (.inl rfl) ?_ | refine goCall_p (c2) (.inl rfl) ?_ | refine goCall_p (cFitsC_ok _ _ _) (.inl rfl) ?_ | refine goCall_p (wakes20_ok) (.inl rfl) ?_ | refine goDCall_p (heavyC2_ok _ _) (.inl rfl) ?_ | refine goDCall_p (small2_ok _ _) (.inl rfl) ?_ | refine goDCall_p (rrightC_ok _) (.inl rfl) ?_ | refine goDCall_p (rright_ok _) (.inl rfl) ?_ | refine goDCall_p (ccheck_ok _) (.inl rfl) ?_ | refine goDCall_p (sameC_ok _ _) (.inl rfl) ?_ | refine goDCall_p (rsameC_ok _ _) (.inl rfl) ?_ | refine goDCall_p (sizeC_ok _ n1) (.inl rfl) ?_ | refine goDCall_p (rsizeC_ok _ n1) (.inl rfl) ?_ | refine goDCall_p (c1) (.inl rfl) ?_ | refine goDCall_p (c2) (.inl rfl) ?_ | refine goDCall_p (cFitsC_ok _ _ _) (.inl rfl) ?_ | refine goDCall_p (wakes20_ok) (.inl rfl) ?_)
         | refine go_draw (id := 7) C_ok mixed 0 Try.f6.ntmps rfl (by kernel_rfl) (by decide) ?_
         | refine goRound ?_ C_ok Try.f6.ntmps rfl (by decide)
         | skip) <;> simp only [h, ↓upd_eq, ↓envL_cons, Go.Ab.W0, Go.Ab.WD, Go.Ab.WE, if_true, if_false, reduceIte, Nat.reduceEqDiff, Nat.reduceAdd, Nat.reduceLT, Nat.reduceLeDiff, reduceCtorEq, Nat.reduceMul, implies_true, forall_eq_or_imp, forall_eq, Nat.reducePow, W1, W1C, Go.Ab.W3, Int.reduceAdd, Int.reduceLT, Int.reduceToNat, Int.reduceBEq, Int.reduceBNe, Int.reduceLE, hv', hs, hc, ha, f1, beq_self_eq_true, cutNormal_normal]
      | true =>
        cases hb : right b with
        | false =>
          have f1 : fitsC c a b = false := fitsC_bad (by rw [hc, ha, hb]; rfl)
          refine pcalls_text C_ok Try.func6 rfl (by decide) (Nat.le_of_ble_eq_true rfl) (by decide) rfl fun ok H => ?_
          rw [Try.results6]
          have h := True.intro
          repeat' (first
           | (with_reducible first | refine goIf_b ?_ ?_ | refine goIf_n ?_ ?_ | refine goIf_d ?_ ?_ | refine goIf_split ?_ ?_ | refine goGb_b ?_ ?_ | refine goGb_n ?_ ?_ | refine goGb_d ?_ ?_ | refine goGb_split ?_ ?_ | refine goDGb_b ?_ ?_ | refine goDGb_n ?_ ?_ | refine goDGb_d ?_ ?_ | refine goDGb_split ?_ ?_) <;> intro h
           | ((first | refine goCall_norm ?_ | refine goDCall_norm ?_); simp only [AV.norm, AV.normL, W2, W2C, Go.Ab.W3, Int.reduceAdd, Int.reduceLT, Int.reduceToNat, Int.reduceBEq, Int.reduceBNe, Int.reduceLE, hv', hs, hc, ha, hb, f1, beq_self_eq_true]; first | refine goCall_p (heavyC2_ok _ _) (.inl rfl) ?_ | refine goCall_p (small2_ok _ _) (.inl rfl) ?_ | refine goCall_p (rrightC_ok _) (.inl rfl) ?_ | refine goCall_p (rright_ok _) (.inl rfl) ?_ | refine goCall_p (ccheck_ok _) (.inl rfl) ?_ | refine goCall_p (sameC_ok _ _) (.inl rfl) ?_ | refine goCall_p (rsameC_ok _ _) (.inl rfl) ?_ | refine goCall_p (sizeC_ok _ n1) (.inl rfl) ?_ | refine goCall_p (rsizeC_ok _ n1) (.inl rfl) ?_ | refine goCall_p (c1) (.inl rfl) ?_ | refine goCall_p (c2) (.inl rfl) ?_ | refine goCall_p (cFitsC_ok _ _ _) (.inl rfl) ?_ | refine goCall_p (wakes20_ok) (.inl rfl) ?_ | refine goDCall_p (heavyC2_ok _ _) (.inl rfl) ?_ | refine goDCall_p (small2_ok _ _) (.inl rfl) ?_ | refine goDCall_p (rrightC_ok _) (.inl rfl) ?_ | refine goDCall_p (rright_ok _) (.inl rfl) ?_ | refine goDCall_p (ccheck_ok _) (.inl rfl) ?_ | refine goDCall_p (sameC_ok _ _) (.inl rfl) ?_ | refine goDCall_p (rsameC_ok _ _) (.inl rfl) ?_ | refine goDCall_p (sizeC_ok _ n1) (.inl rfl) ?_ | refine goDCall_p (rsizeC_ok _ n1) (.inl rfl) ?_ | refine goDCall_p (c1) (.inl rfl) ?_ | refine goDCall_p (c2) (.inl rfl) ?_ | refine goDCall_p (cFitsC_ok _ _ _) (.inl rfl) ?_ | refine goDCall_p (wakes20_ok) (.inl rfl) ?_)
           | refine go_draw (id := 7) C_ok mixed 0 Try.f6.ntmps rfl (by kernel_rfl) (by decide) ?_
           | refine goRound ?_ C_ok Try.f6.ntmps rfl (by decide)
           | skip) <;> simp only [h, ↓upd_eq, ↓envL_cons, Go.Ab.W0, Go.Ab.WD, Go.Ab.WE, if_true, if_false, reduceIte, Nat.reduceEqDiff, Nat.reduceAdd, Nat.reduceLT, Nat.reduceLeDiff, reduceCtorEq, Nat.reduceMul, implies_true, forall_eq_or_imp, forall_eq, Nat.reducePow, W1, W1C, Go.Ab.W3, Int.reduceAdd, Int.reduceLT, Int.reduceToNat, Int.reduceBEq, Int.reduceBNe, Int.reduceLE, hv', hs, hc, ha, hb, f1, beq_self_eq_true, cutNormal_normal]
        | true =>
          have c3 := rFitsC_ok c a b hc ha hb
          refine pcalls_text C_ok Try.func6 rfl (by decide) (Nat.le_of_ble_eq_true rfl) (by decide) rfl fun ok H => ?_
          rw [Try.results6]
          have h := True.intro
          repeat' (first
           | (with_reducible first | refine goIf_b ?_ ?_ | refine goIf_n ?_ ?_ | refine goIf_d ?_ ?_ | refine goIf_split ?_ ?_ | refine goGb_b ?_ ?_ | refine goGb_n ?_ ?_ | refine goGb_d ?_ ?_ | refine goGb_split ?_ ?_ | refine goDGb_b ?_ ?_ | refine goDGb_n ?_ ?_ | refine goDGb_d ?_ ?_ | refine goDGb_split ?_ ?_) <;> intro h
           | ((first | refine goCall_norm ?_ | refine goDCall_norm ?_); simp only [AV.norm, AV.normL, W2, W2C, Go.Ab.W3, Int.reduceAdd, Int.reduceLT, Int.reduceToNat, Int.reduceBEq, Int.reduceBNe, Int.reduceLE, hv', hs, hc, ha, hb, beq_self_eq_true]; first | refine goCall_p (heavyC2_ok _ _) (.inl rfl) ?_ | refine goCall_p (small2_ok _ _) (.inl rfl) ?_ | refine goCall_p (rrightC_ok _) (.inl rfl) ?_ | refine goCall_p (rright_ok _) (.inl rfl) ?_ | refine goCall_p (ccheck_ok _) (.inl rfl) ?_ | refine goCall_p (sameC_ok _ _) (.inl rfl) ?_ | refine goCall_p (rsameC_ok _ _) (.inl rfl) ?_ | refine goCall_p (sizeC_ok _ n1) (.inl rfl) ?_ | refine goCall_p (rsizeC_ok _ n1) (.inl rfl) ?_ | refine goCall_p (c1) (.inl rfl) ?_ | refine goCall_p (c2) (.inl rfl) ?_ | refine goCall_p (c3) (.inl rfl) ?_ | refine goCall_p (cFitsC_ok _ _ _) (.inl rfl) ?_ | refine goCall_p (wakes20_ok) (.inl rfl) ?_ | refine goDCall_p (heavyC2_ok _ _) (.inl rfl) ?_ | refine goDCall_p (small2_ok _ _) (.inl rfl) ?_ | refine goDCall_p (rrightC_ok _) (.inl rfl) ?_ | refine goDCall_p (rright_ok _) (.inl rfl) ?_ | refine goDCall_p (ccheck_ok _) (.inl rfl) ?_ | refine goDCall_p (sameC_ok _ _) (.inl rfl) ?_ | refine goDCall_p (rsameC_ok _ _) (.inl rfl) ?_ | refine goDCall_p (sizeC_ok _ n1) (.inl rfl) ?_ | refine goDCall_p (rsizeC_ok _ n1) (.inl rfl) ?_ | refine goDCall_p (c1) (.inl rfl) ?_ | refine goDCall_p (c2) (.inl rfl) ?_ | refine goDCall_p (c3) (.inl rfl) ?_ | refine goDCall_p (cFitsC_ok _ _ _) (.inl rfl) ?_ | refine goDCall_p (wakes20_ok) (.inl rfl) ?_)
           | refine go_draw (id := 7) C_ok mixed 0 Try.f6.ntmps rfl (by kernel_rfl) (by decide) ?_
           | refine goRound ?_ C_ok Try.f6.ntmps rfl (by decide)
           | skip) <;> simp only [h, ↓upd_eq, ↓envL_cons, Go.Ab.W0, Go.Ab.WD, Go.Ab.WE, if_true, if_false, reduceIte, Nat.reduceEqDiff, Nat.reduceAdd, Nat.reduceLT, Nat.reduceLeDiff, reduceCtorEq, Nat.reduceMul, implies_true, forall_eq_or_imp, forall_eq, Nat.reducePow, W1, W1C, Go.Ab.W3, Int.reduceAdd, Int.reduceLT, Int.reduceToNat, Int.reduceBEq, Int.reduceBNe, Int.reduceLE, hv', hs, hc, ha, hb, beq_self_eq_true, cutNormal_normal]

theorem id_kind (c : Co) (h : rightC c = true) : (c.kind = 1) ↔ c = .mk 1 0 0 false [] := by
  obtain ⟨k, rfl, hk⟩ := K.of_right' h
  cases k <;> simp [K.co, Co.kind]
def idb (c : Co) : Bool := decide (c.kind = 1)
theorem right_c2 (k : Int) (hk : k = 2 ∨ k = 3) (c d : Co) : rightC (.mk k 0 0 false [c, d]) = (rightC c && rightC d && (c.kind != 1 || d.kind != 1)) := by
  rw [right_formed (c := .mk k 0 0 false [c, d]) (by rcases hk with rfl | rfl <;> simp [Co.kind])]
  have hk4 : ¬ k = 4 := by rcases hk with rfl | rfl <;> decide
  have hn : idN [c, d] = (if c.kind = 1 then 1 else 0) + (if d.kind = 1 then 1 else 0) := by
    simp only [idN, List.countP_cons, List.countP_nil, decide_eq_true_eq]; omega
  have hid : decide (idN (Co.mk k 0 0 false [c, d]).kids < (Co.mk k 0 0 false [c, d]).kids.length) = (c.kind != 1 || d.kind != 1) := by
    show decide (idN [c, d] < 2) = _
    rw [hn]
    by_cases h1 : c.kind = 1 <;> by_cases h2 : d.kind = 1 <;> simp [h1, h2]
  rw [formedB, hid]
  simp only [Co.kind_mk, Co.kids_mk, Co.head_mk, Co.label_mk, Co.neg_mk, hk4, if_false, List.length_cons, List.length_nil, decide_true, Bool.true_and, Bool.not_false, allN_succ, allN_zero, Bool.and_true]
  show ((c.kind != 1 || d.kind != 1) && (rightC c && rightC d)) = _
  rw [Bool.and_comm]
theorem right_c1 (c : Co) : rightC (.mk 4 0 0 false [c]) = (rightC c && (c.kind != 1)) := by
  rw [right_formed (c := .mk 4 0 0 false [c]) (by simp [Co.kind])]
  have hn : idN [c] = (if c.kind = 1 then 1 else 0) := by
    simp only [idN, List.countP_cons, List.countP_nil, decide_eq_true_eq]; omega
  have hid : decide (idN (Co.mk 4 0 0 false [c]).kids < (Co.mk 4 0 0 false [c]).kids.length) = (c.kind != 1) := by
    show decide (idN [c] < 1) = _
    rw [hn]
    by_cases h1 : c.kind = 1 <;> simp [h1]
  rw [formedB, hid]
  simp only [Co.kind_mk, Co.kids_mk, Co.head_mk, Co.label_mk, Co.neg_mk, if_true, List.length_cons, List.length_nil, decide_true, Bool.true_and, Bool.not_false, allN_succ, allN_zero, Bool.and_true]
  show ((c.kind != 1) && rightC c) = _
  rw [Bool.and_comm]
theorem h_c2 (k : Int) (hk : k = 2 ∨ k = 3) (c d : Co) : heightC (.mk k 0 0 false [c, d]) = max (heightC c) (heightC d) + 1 := by
  have : ¬ (k = 5 ∨ k = 6) := by rcases hk with rfl | rfl <;> decide
  simp only [heightC, heightCL, this, if_false]; omega
theorem h_c1 (c : Co) : heightC (.mk 4 0 0 false [c]) = heightC c + 1 := by simp [heightC, heightCL]

theorem e01 (p : Bool) : (((if p = true then (0 : Int) else 1)) == 0) = p := by cases p <;> rfl

end Go.Proofs.Ytajdipeebpmifaa
end

