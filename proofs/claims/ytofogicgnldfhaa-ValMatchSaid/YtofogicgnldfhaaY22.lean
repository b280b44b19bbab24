/- Walks: the page wraps a value, takes its parts. No condition. -/
import Derived.Test.YtofogicgnldfhaaPYh
import Derived.Test.YtofogicgnldfhaaPYe
set_option linter.unusedSimpArgs false
set_option linter.unusedVariables false
set_option maxHeartbeats 4000000
set_option maxRecDepth 100000
namespace Go.Proofs.Ytofogicgnldfhaa
open Go Go.Ab
open Nat (reduceEqDiff reduceAdd reduceLT reduceLeDiff reduceMul reducePow)
attribute [local irreducible] PCalls ACalls CallK GoCall GoDCall GoIf GoGb GoDGb GoO GoD GoX GoDX GoG GoDG GoGv GoDGv Go ALoop

theorem own_setC {v : Vl} (h : rightV v = true) (c : Co) : ownV (.mk v.kind v.num v.str c v.kids) = aroundV (setC v c) := by
  have ho := ownV_of h
  have e : setC v c = .mk v.kind v.num v.str c v.kids := rfl
  rw [← e]
  simp only [ownV, oneV, Bool.and_eq_true] at ho
  have h1 := ho.1.1
  have h2 := ho.2
  simp only [ownV, oneV]
  have e1 : (setC v c).kind = v.kind := rfl
  have e2 : (setC v c).num = v.num := rfl
  have e3 : (setC v c).str = v.str := rfl
  have e4 : (setC v c).kids = v.kids := rfl
  simp only [e1, e2, e3, e4, setC_kid, h1.1.1.1, h1.1.1.2, h1.1.2, h1.2, h2, Bool.true_and, Bool.and_true]
theorem around_none (v : Vl) : aroundV (setC v noneC) = true := rfl
theorem rightC_dOf {v : Vl} (h : rightV v = true) : rightC (dOf v) = true := by
  unfold dOf
  split
  · decide
  · next hn =>
    have ho := ownV_of h
    simp only [ownV, oneV, aroundV, Bool.and_eq_true] at ho
    have := ho.1.2
    simp only [hn, Bool.false_or, Bool.and_eq_true] at this
    exact this.1
theorem rWrap_ok (v : Vl) (c : Co) (hv : rightV v = true) (hc : rightC c = true) : PCalls Try.prog 42 [embV v, embC c] (resW (wrapA v c)) := by
  have q1 := rJoinC_ok (dOf v) c (rightC_dOf hv) hc
  have q2 := rnone_ok v.co
  have q3 := rId_ok
  have q4 := rown_ok (.mk v.kind v.num v.str (joinC (dOf v) c) v.kids)
  have q5 := rown_ok (.mk v.kind v.num v.str noneC v.kids)
  rw [own_setC hv] at q4 q5
  rw [around_none] at q5
  have hb := resW_bel (wrapA v c)
  have hw : wrapA v c = wrapA v c := rfl
  conv at hw => rhs; unfold wrapA
  have hd : dOf v = if noneB v.co then .mk 1 0 0 false [] else v.co := rfl
  generalize hW : wrapA v c = W at *
  generalize joinC (dOf v) c = j at *
  generalize joinE (dOf v) c = e at *
  generalize hD : dOf v = d at *
  have key : ((e == 0) = false ∧ True ∧ True ∧ True ∧ W = .err) ∨ ((e == 0) = true ∧ (j.kind == 7) = true ∧ True ∧ True ∧ W = .blame j.label j.neg) ∨
      ((e == 0) = true ∧ (j.kind == 7) = false ∧ (j.kind == 1) = true ∧ True ∧ W = .ok (setC v noneC)) ∨
      ((e == 0) = true ∧ (j.kind == 7) = false ∧ (j.kind == 1) = false ∧ aroundV (setC v j) = true ∧ W = .ok (setC v j)) ∨
      ((e == 0) = true ∧ (j.kind == 7) = false ∧ (j.kind == 1) = false ∧ aroundV (setC v j) = false ∧ W = .err) := by
    rw [hw]
    by_cases he : e = 0
    · by_cases h7 : j.kind = 7
      · right; left; simp [he, h7]
      · by_cases h1 : j.kind = 1
        · right; right; left; simp [he, h7, h1]
        · cases ha : aroundV (setC v j)
          · right; right; right; right; simp [he, h7, h1, ha]
          · right; right; right; left; simp [he, h7, h1, ha]
    · left; simp [he]
  clear hw
  cases hn : noneB v.co
  all_goals
    rw [hn] at q2 hd
    simp only [Bool.false_eq_true, if_false, if_true] at hd
    rw [hd] at q1
    rcases key with ⟨he, h7, h1, ha, hw⟩ | ⟨he, h7, h1, ha, hw⟩ | ⟨he, h7, h1, ha, hw⟩ | ⟨he, h7, h1, ha, hw⟩ | ⟨he, h7, h1, ha, hw⟩
  all_goals
    rw [he] at q1
    rw [hw] at hb ⊢
    try rw [ha] at q4
    clear hw
    refine pcalls_text C_ok Try.func42 rfl (by decide) (Nat.le_of_ble_eq_true rfl) (by decide) hb fun ok H => ?_
    rw [Try.results42]
    repeat' first
     | ((first | apply goGb_op (fun _ _ => rfl) | apply goDGb_op (fun _ _ => rfl)); (· intro hb; (try simp only [Bool.and_eq_true, Bool.not_eq_true', Bool.or_eq_false_iff, Bool.not_eq_false'] at hb); simp only [hb, ↓upd_eq, ↓envL_cons, WZ, reduceIte, reduceEqDiff, reduceAdd, reduceLT, reduceLeDiff, reduceCtorEq, reduceMul, reducePow, W1, W1C, W1V, W5, embR, h7, h1]; exact ⟨rfl, trivial⟩))
     | ((first | apply goGb_call (q1) | apply goDGb_call (q1) | apply goGb_call (q2) | apply goDGb_call (q2) | apply goGb_call (q3) | apply goDGb_call (q3) | apply goGb_call (q4) | apply goDGb_call (q4) | apply goGb_call (q5) | apply goDGb_call (q5)); (· intro hb; (try simp only [Bool.and_eq_true, Bool.not_eq_true', Bool.or_eq_false_iff, Bool.not_eq_false'] at hb); simp only [hb, AV.norm, AV.normL, W2, W2C, W2V, ↓upd_eq, ↓envL_cons, WZ, reduceIte, reduceEqDiff, reduceAdd, reduceLT, reduceLeDiff, reduceCtorEq, reduceMul, reducePow, W1, W1C, W1V, W5, embR, h7, h1]; rfl))
     | (with_reducible first | apply bA | apply bB | apply bC | apply bD | apply bE | apply bF) <;> intro h <;> try simp only [h, ↓upd_eq, ↓envL_cons, WZ, reduceIte, reduceEqDiff, reduceAdd, reduceLT, reduceLeDiff, reduceCtorEq, reduceMul, reducePow, W1, W1C, W1V, W5, embR, h7, h1]
     | ((first | refine goCall_norm ?_ | refine goDCall_norm ?_); simp only [AV.norm, AV.normL, W2, W2C, W2V, embR, h7, h1]; first | refine goCall_p (q1) (.inl rfl) ?_ | refine goCall_p (q2) (.inl rfl) ?_ | refine goCall_p (q3) (.inl rfl) ?_ | refine goCall_p (q4) (.inl rfl) ?_ | refine goCall_p (q5) (.inl rfl) ?_ | refine goDCall_p (q1) (.inl rfl) ?_ | refine goDCall_p (q2) (.inl rfl) ?_ | refine goDCall_p (q3) (.inl rfl) ?_ | refine goDCall_p (q4) (.inl rfl) ?_ | refine goDCall_p (q5) (.inl rfl) ?_)
     | refine go_drawX (id := 8) C_ok (fun _ => trivial) mixed [(29, 4), (31, 4)] 0 Try.f42.ntmps rfl (by kernel_rfl) (by decide) ?_
     | simp only [↓upd_eq, ↓envL_cons, WZ, reduceIte, reduceEqDiff, reduceAdd, reduceLT, reduceLeDiff, reduceCtorEq, reduceMul, reducePow, W1, W1C, W1V, W5, embR, h7, h1]
    all_goals rfl

/-- The page's parts. -/
theorem rParts_ok (v : Vl) (h : rightV v = true) : PCalls Try.prog 41 [embV v] (resP (twoV v)) := by
  have hl5 : v.kids.length = 2 ↔ (v.kind = 5 ∨ v.kind = 7) := by
    have ho := ownV_of h
    simp only [ownV, oneV, Bool.and_eq_true, decide_eq_true_eq] at ho
    have h2 := ho.1.1.2
    constructor
    · intro hl
      by_cases hk : v.kind = 5 ∨ v.kind = 7
      · exact hk
      · rw [if_neg hk] at h2; omega
    · intro hk; rw [if_pos hk] at h2; omega
  have q2 := rnone_ok v.co
  have hw : twoV v = twoV v := rfl
  conv at hw => rhs; unfold twoV
  have hb := resP_bel (twoV v)
  have n8 : ((8 : Int) != 0) = true := rfl
  have n2 : ((2 : Int) != 0) = true := rfl
  have n0 : ((0 : Int) != 0) = false := rfl
  have c0 : ((0 : Int) < (2 : Nat)) = True := by simp
  have c1 : ((1 : Int) < (2 : Nat)) = True := by simp
  have t0 : Int.toNat 0 = 0 := rfl
  have t1 : Int.toNat 1 = 1 := rfl
  have z1 : ((0 : Int) ≤ 1) = True := by simp
  have hl2 : (((2 : Nat) : Int) != 2) = false := rfl
  have z0 : ((0 : Int) ≤ 0) = True := by simp
  by_cases he : (v.kind ≠ 5 ∧ v.kind ≠ 7) ∨ v.co.kind = 5
  · rw [if_pos he] at hw
    rw [hw] at hb ⊢
    by_cases hl : v.kids.length = 2
    · have h5 : (v.co.kind == 5) = true := by simp; omega
      have hln : ((v.kids.length : Int) != 2) = false := by simp; omega
      refine pcalls_text C_ok Try.func41 rfl (by decide) (Nat.le_of_ble_eq_true rfl) (by decide) hb fun ok H => ?_
      rw [Try.results41]
      repeat' first
       | ((first | apply goGb_op (fun _ _ => rfl) | apply goDGb_op (fun _ _ => rfl)); (· intro hb; (try simp only [Bool.and_eq_true, Bool.not_eq_true', Bool.or_eq_false_iff, Bool.not_eq_false'] at hb); simp only [hb, ↓upd_eq, ↓envL_cons, WZ, reduceIte, reduceEqDiff, reduceAdd, reduceLT, reduceLeDiff, reduceCtorEq, reduceMul, reducePow, W1, W1C, W1V, W5, embR, h5, hln]; exact ⟨rfl, trivial⟩))
       | ((first | apply goGb_call (q2) | apply goDGb_call (q2)); (· intro hb; (try simp only [Bool.and_eq_true, Bool.not_eq_true', Bool.or_eq_false_iff, Bool.not_eq_false'] at hb); simp only [hb, AV.norm, AV.normL, W2, W2C, W2V, ↓upd_eq, ↓envL_cons, WZ, reduceIte, reduceEqDiff, reduceAdd, reduceLT, reduceLeDiff, reduceCtorEq, reduceMul, reducePow, W1, W1C, W1V, W5, embR, h5, hln]; rfl))
       | (with_reducible first | apply bA | apply bB | apply bC | apply bD | apply bE | apply bF) <;> intro h <;> try simp only [h, ↓upd_eq, ↓envL_cons, WZ, reduceIte, reduceEqDiff, reduceAdd, reduceLT, reduceLeDiff, reduceCtorEq, reduceMul, reducePow, W1, W1C, W1V, W5, embR, h5, hln]
       | ((first | refine goCall_norm ?_ | refine goDCall_norm ?_); simp only [AV.norm, AV.normL, W2, W2C, W2V, embR, h5, hln]; first | refine goCall_p (q2) (.inl rfl) ?_ | refine goDCall_p (q2) (.inl rfl) ?_)
       | refine go_drawX (id := 3) C_ok (fun _ => trivial) mixed [(6, 2)] 0 Try.f41.ntmps rfl (by kernel_rfl) (by decide) ?_
       | refine go_drawX (id := 5) C_ok (fun _ => trivial) mixed [(34, 2), (36, 2)] 0 Try.f41.ntmps rfl (by kernel_rfl) (by decide) ?_
       | refine go_drawX (id := 6) C_ok (fun _ => trivial) mixed [(44, 7)] 2 Try.f41.ntmps rfl (by kernel_rfl) (by decide) ?_
       | refine go_draw (id := 9) C_ok (fun _ => trivial) mixed 2 Try.f41.ntmps rfl (by kernel_rfl) (by decide) ?_
       | refine go_drawX (id := 11) C_ok (fun _ => trivial) mixed [(6, 2), (10, 2), (10, 3)] 0 Try.f41.ntmps rfl (by kernel_rfl) (by decide) ?_
       | refine go_draw (id := 12) C_ok (fun _ => trivial) mixed 1 Try.f41.ntmps rfl (by kernel_rfl) (by decide) ?_
       | refine go_drawX (id := 14) C_ok (fun _ => trivial) mixed [(6, 2), (10, 2), (10, 3)] 0 Try.f41.ntmps rfl (by kernel_rfl) (by decide) ?_
       | refine go_drawX (id := 15) C_ok (fun _ => trivial) mixed [(12, 2)] 0 Try.f41.ntmps rfl (by kernel_rfl) (by decide) ?_
       | simp only [↓upd_eq, ↓envL_cons, WZ, reduceIte, reduceEqDiff, reduceAdd, reduceLT, reduceLeDiff, reduceCtorEq, reduceMul, reducePow, W1, W1C, W1V, W5, embR, h5, hln]
      all_goals rfl
    · have hln : ((v.kids.length : Int) != 2) = true := by simp; omega
      refine pcalls_text C_ok Try.func41 rfl (by decide) (Nat.le_of_ble_eq_true rfl) (by decide) hb fun ok H => ?_
      rw [Try.results41]
      repeat' first
       | ((first | apply goGb_op (fun _ _ => rfl) | apply goDGb_op (fun _ _ => rfl)); (· intro hb; (try simp only [Bool.and_eq_true, Bool.not_eq_true', Bool.or_eq_false_iff, Bool.not_eq_false'] at hb); simp only [hb, ↓upd_eq, ↓envL_cons, WZ, reduceIte, reduceEqDiff, reduceAdd, reduceLT, reduceLeDiff, reduceCtorEq, reduceMul, reducePow, W1, W1C, W1V, W5, embR, hln]; exact ⟨rfl, trivial⟩))
       | ((first | apply goGb_call (q2) | apply goDGb_call (q2)); (· intro hb; (try simp only [Bool.and_eq_true, Bool.not_eq_true', Bool.or_eq_false_iff, Bool.not_eq_false'] at hb); simp only [hb, AV.norm, AV.normL, W2, W2C, W2V, ↓upd_eq, ↓envL_cons, WZ, reduceIte, reduceEqDiff, reduceAdd, reduceLT, reduceLeDiff, reduceCtorEq, reduceMul, reducePow, W1, W1C, W1V, W5, embR, hln]; rfl))
       | (with_reducible first | apply bA | apply bB | apply bC | apply bD | apply bE | apply bF) <;> intro h <;> try simp only [h, ↓upd_eq, ↓envL_cons, WZ, reduceIte, reduceEqDiff, reduceAdd, reduceLT, reduceLeDiff, reduceCtorEq, reduceMul, reducePow, W1, W1C, W1V, W5, embR, hln]
       | ((first | refine goCall_norm ?_ | refine goDCall_norm ?_); simp only [AV.norm, AV.normL, W2, W2C, W2V, embR, hln]; first | refine goCall_p (q2) (.inl rfl) ?_ | refine goDCall_p (q2) (.inl rfl) ?_)
       | refine go_drawX (id := 3) C_ok (fun _ => trivial) mixed [(6, 2)] 0 Try.f41.ntmps rfl (by kernel_rfl) (by decide) ?_
       | refine go_drawX (id := 5) C_ok (fun _ => trivial) mixed [(34, 2), (36, 2)] 0 Try.f41.ntmps rfl (by kernel_rfl) (by decide) ?_
       | refine go_drawX (id := 6) C_ok (fun _ => trivial) mixed [(44, 7)] 2 Try.f41.ntmps rfl (by kernel_rfl) (by decide) ?_
       | refine go_draw (id := 9) C_ok (fun _ => trivial) mixed 2 Try.f41.ntmps rfl (by kernel_rfl) (by decide) ?_
       | refine go_drawX (id := 11) C_ok (fun _ => trivial) mixed [(6, 2), (10, 2), (10, 3)] 0 Try.f41.ntmps rfl (by kernel_rfl) (by decide) ?_
       | refine go_draw (id := 12) C_ok (fun _ => trivial) mixed 1 Try.f41.ntmps rfl (by kernel_rfl) (by decide) ?_
       | refine go_drawX (id := 14) C_ok (fun _ => trivial) mixed [(6, 2), (10, 2), (10, 3)] 0 Try.f41.ntmps rfl (by kernel_rfl) (by decide) ?_
       | refine go_drawX (id := 15) C_ok (fun _ => trivial) mixed [(12, 2)] 0 Try.f41.ntmps rfl (by kernel_rfl) (by decide) ?_
       | simp only [↓upd_eq, ↓envL_cons, WZ, reduceIte, reduceEqDiff, reduceAdd, reduceLT, reduceLeDiff, reduceCtorEq, reduceMul, reducePow, W1, W1C, W1V, W5, embR, hln]
      all_goals rfl
  · rw [if_neg he] at hw
    have hl : v.kids.length = 2 := hl5.2 (by omega)
    have h5 : (v.co.kind == 5) = false := by simp; omega
    have hln : ((v.kids.length : Int) != 2) = false := by simp; omega
    have g0 : (v.kids.map embV).getD 0 .any = embV (v.kid 0) := mapV_kid (by omega)
    have g1 : (v.kids.map embV).getD 1 .any = embV (v.kid 1) := mapV_kid (by omega)
    cases hn : noneB v.co with
    | true =>
      rw [hn, if_pos rfl] at hw
      rw [hn] at q2
      rw [hw] at hb ⊢
      refine pcalls_text C_ok Try.func41 rfl (by decide) (Nat.le_of_ble_eq_true rfl) (by decide) hb fun ok H => ?_
      rw [Try.results41]
      repeat' first
       | ((first | apply goGb_op (fun _ _ => rfl) | apply goDGb_op (fun _ _ => rfl)); (· intro hb; (try simp only [Bool.and_eq_true, Bool.not_eq_true', Bool.or_eq_false_iff, Bool.not_eq_false'] at hb); simp only [hb, ↓upd_eq, ↓envL_cons, WZ, reduceIte, reduceEqDiff, reduceAdd, reduceLT, reduceLeDiff, reduceCtorEq, reduceMul, reducePow, W1, W1C, W1V, W5, embR, h5, hln, hl, g0, g1, c0, c1, t0, t1, z1, z0, hl2, n8, n2, n0]; exact ⟨rfl, trivial⟩))
       | ((first | apply goGb_call (q2) | apply goDGb_call (q2)); (· intro hb; (try simp only [Bool.and_eq_true, Bool.not_eq_true', Bool.or_eq_false_iff, Bool.not_eq_false'] at hb); simp only [hb, AV.norm, AV.normL, W2, W2C, W2V, ↓upd_eq, ↓envL_cons, WZ, reduceIte, reduceEqDiff, reduceAdd, reduceLT, reduceLeDiff, reduceCtorEq, reduceMul, reducePow, W1, W1C, W1V, W5, embR, h5, hln, hl, g0, g1, c0, c1, t0, t1, z1, z0, hl2, n8, n2, n0]; rfl))
       | (with_reducible first | apply bA | apply bB | apply bC | apply bD | apply bE | apply bF) <;> intro h <;> try simp only [h, ↓upd_eq, ↓envL_cons, WZ, reduceIte, reduceEqDiff, reduceAdd, reduceLT, reduceLeDiff, reduceCtorEq, reduceMul, reducePow, W1, W1C, W1V, W5, embR, h5, hln, hl, g0, g1, c0, c1, t0, t1, z1, z0, hl2, n8, n2, n0]
       | ((first | refine goCall_norm ?_ | refine goDCall_norm ?_); simp only [AV.norm, AV.normL, W2, W2C, W2V, embR, h5, hln, hl, g0, g1, c0, c1, t0, t1, z1, z0, hl2, n8, n2, n0]; first | refine goCall_p (q2) (.inl rfl) ?_ | refine goDCall_p (q2) (.inl rfl) ?_)
       | refine go_drawX (id := 3) C_ok (fun _ => trivial) mixed [(6, 2)] 0 Try.f41.ntmps rfl (by kernel_rfl) (by decide) ?_
       | refine go_drawX (id := 5) C_ok (fun _ => trivial) mixed [(34, 2), (36, 2)] 0 Try.f41.ntmps rfl (by kernel_rfl) (by decide) ?_
       | refine go_drawX (id := 6) C_ok (fun _ => trivial) mixed [(44, 7)] 2 Try.f41.ntmps rfl (by kernel_rfl) (by decide) ?_
       | refine go_draw (id := 9) C_ok (fun _ => trivial) mixed 2 Try.f41.ntmps rfl (by kernel_rfl) (by decide) ?_
       | refine go_drawX (id := 11) C_ok (fun _ => trivial) mixed [(6, 2), (10, 2), (10, 3)] 0 Try.f41.ntmps rfl (by kernel_rfl) (by decide) ?_
       | refine go_draw (id := 12) C_ok (fun _ => trivial) mixed 1 Try.f41.ntmps rfl (by kernel_rfl) (by decide) ?_
       | refine go_drawX (id := 14) C_ok (fun _ => trivial) mixed [(6, 2), (10, 2), (10, 3)] 0 Try.f41.ntmps rfl (by kernel_rfl) (by decide) ?_
       | refine go_drawX (id := 15) C_ok (fun _ => trivial) mixed [(12, 2)] 0 Try.f41.ntmps rfl (by kernel_rfl) (by decide) ?_
       | simp only [↓upd_eq, ↓envL_cons, WZ, reduceIte, reduceEqDiff, reduceAdd, reduceLT, reduceLeDiff, reduceCtorEq, reduceMul, reducePow, W1, W1C, W1V, W5, embR, h5, hln, hl, g0, g1, c0, c1, t0, t1, z1, z0, hl2, n8, n2, n0]
      all_goals rfl
    | false =>
      rw [hn, if_neg (by decide)] at hw
      rw [hn] at q2
      by_cases hk : v.kind = 5
      · obtain ⟨e3, cl, rc⟩ := co_two h hn hk (by omega)
        have k5 : (v.kind == 5) = true := by simp [hk]
        have d0 : (v.co.kids.map embC).getD 0 .any = embC (v.co.kid 0) := mapC_kid (by omega)
        have d1 : (v.co.kids.map embC).getD 1 .any = embC (v.co.kid 1) := mapC_kid (by omega)
        have w0 := rWrap_ok (v.kid 0) (v.co.kid 0) (rightV_kid h (by omega)) (rightC_kid rc (by omega))
        have w1 := rWrap_ok (v.kid 1) (v.co.kid 1) (rightV_kid h (by omega)) (rightC_kid rc (by omega))
        rw [if_pos hk] at hw
        cases ha : wrapA (v.kid 0) (v.co.kid 0) <;> cases hb2 : wrapA (v.kid 1) (v.co.kid 1)
        all_goals
          simp only [ha, hb2] at w0 w1 hw
          simp only [resW, embR] at w0 w1
          rw [hw] at hb ⊢
          refine pcalls_text C_ok Try.func41 rfl (by decide) (Nat.le_of_ble_eq_true rfl) (by decide) hb fun ok H => ?_
          rw [Try.results41]
          repeat' first
           | ((first | apply goGb_op (fun _ _ => rfl) | apply goDGb_op (fun _ _ => rfl)); (· intro hb; (try simp only [Bool.and_eq_true, Bool.not_eq_true', Bool.or_eq_false_iff, Bool.not_eq_false'] at hb); simp only [hb, ↓upd_eq, ↓envL_cons, WZ, reduceIte, reduceEqDiff, reduceAdd, reduceLT, reduceLeDiff, reduceCtorEq, reduceMul, reducePow, W1, W1C, W1V, W5, embR, h5, hln, hl, g0, g1, c0, c1, t0, t1, z1, z0, hl2, n8, n2, n0, k5, cl, d0, d1]; exact ⟨rfl, trivial⟩))
           | ((first | apply goGb_call (q2) | apply goDGb_call (q2) | apply goGb_call (w0) | apply goDGb_call (w0) | apply goGb_call (w1) | apply goDGb_call (w1)); (· intro hb; (try simp only [Bool.and_eq_true, Bool.not_eq_true', Bool.or_eq_false_iff, Bool.not_eq_false'] at hb); simp only [hb, AV.norm, AV.normL, W2, W2C, W2V, ↓upd_eq, ↓envL_cons, WZ, reduceIte, reduceEqDiff, reduceAdd, reduceLT, reduceLeDiff, reduceCtorEq, reduceMul, reducePow, W1, W1C, W1V, W5, embR, h5, hln, hl, g0, g1, c0, c1, t0, t1, z1, z0, hl2, n8, n2, n0, k5, cl, d0, d1]; rfl))
           | (with_reducible first | apply bA | apply bB | apply bC | apply bD | apply bE | apply bF) <;> intro h <;> try simp only [h, ↓upd_eq, ↓envL_cons, WZ, reduceIte, reduceEqDiff, reduceAdd, reduceLT, reduceLeDiff, reduceCtorEq, reduceMul, reducePow, W1, W1C, W1V, W5, embR, h5, hln, hl, g0, g1, c0, c1, t0, t1, z1, z0, hl2, n8, n2, n0, k5, cl, d0, d1]
           | ((first | refine goCall_norm ?_ | refine goDCall_norm ?_); simp only [AV.norm, AV.normL, W2, W2C, W2V, embR, h5, hln, hl, g0, g1, c0, c1, t0, t1, z1, z0, hl2, n8, n2, n0, k5, cl, d0, d1]; first | refine goCall_p (q2) (.inl rfl) ?_ | refine goCall_p (w0) (.inl rfl) ?_ | refine goCall_p (w1) (.inl rfl) ?_ | refine goDCall_p (q2) (.inl rfl) ?_ | refine goDCall_p (w0) (.inl rfl) ?_ | refine goDCall_p (w1) (.inl rfl) ?_)
           | refine go_drawX (id := 3) C_ok (fun _ => trivial) mixed [(6, 2)] 0 Try.f41.ntmps rfl (by kernel_rfl) (by decide) ?_
           | refine go_drawX (id := 5) C_ok (fun _ => trivial) mixed [(34, 2), (36, 2)] 0 Try.f41.ntmps rfl (by kernel_rfl) (by decide) ?_
           | refine go_drawX (id := 6) C_ok (fun _ => trivial) mixed [(44, 7)] 2 Try.f41.ntmps rfl (by kernel_rfl) (by decide) ?_
           | refine go_draw (id := 9) C_ok (fun _ => trivial) mixed 2 Try.f41.ntmps rfl (by kernel_rfl) (by decide) ?_
           | refine go_drawX (id := 11) C_ok (fun _ => trivial) mixed [(6, 2), (10, 2), (10, 3)] 0 Try.f41.ntmps rfl (by kernel_rfl) (by decide) ?_
           | refine go_draw (id := 12) C_ok (fun _ => trivial) mixed 1 Try.f41.ntmps rfl (by kernel_rfl) (by decide) ?_
           | refine go_drawX (id := 14) C_ok (fun _ => trivial) mixed [(6, 2), (10, 2), (10, 3)] 0 Try.f41.ntmps rfl (by kernel_rfl) (by decide) ?_
           | refine go_drawX (id := 15) C_ok (fun _ => trivial) mixed [(12, 2)] 0 Try.f41.ntmps rfl (by kernel_rfl) (by decide) ?_
           | simp only [↓upd_eq, ↓envL_cons, WZ, reduceIte, reduceEqDiff, reduceAdd, reduceLT, reduceLeDiff, reduceCtorEq, reduceMul, reducePow, W1, W1C, W1V, W5, embR, h5, hln, hl, g0, g1, c0, c1, t0, t1, z1, z0, hl2, n8, n2, n0, k5, cl, d0, d1]
          all_goals rfl
      · have hk : v.kind = 7 := by omega
        obtain ⟨e3, cl, rc⟩ := co_one h hn hk (by omega)
        have k5 : (v.kind == 5) = false := by simp [hk]
        have d0 : (v.co.kids.map embC).getD 0 .any = embC (v.co.kid 0) := mapC_kid (by omega)
        have w0 := rWrap_ok (v.kid 0) (v.co.kid 0) (rightV_kid h (by omega)) (rightC_kid rc (by omega))
        have w1 := rWrap_ok (v.kid 1) (v.co) (rightV_kid h (by omega)) rc
        rw [if_neg (by omega)] at hw
        have y01 : ((0 : Int) < (1 : Nat)) = True := by simp
        cases ha : wrapA (v.kid 0) (v.co.kid 0) <;> cases hb2 : wrapA (v.kid 1) (v.co)
        all_goals
          simp only [ha, hb2] at w0 w1 hw
          simp only [resW, embR] at w0 w1
          rw [hw] at hb ⊢
          refine pcalls_text C_ok Try.func41 rfl (by decide) (Nat.le_of_ble_eq_true rfl) (by decide) hb fun ok H => ?_
          rw [Try.results41]
          repeat' first
           | ((first | apply goGb_op (fun _ _ => rfl) | apply goDGb_op (fun _ _ => rfl)); (· intro hb; (try simp only [Bool.and_eq_true, Bool.not_eq_true', Bool.or_eq_false_iff, Bool.not_eq_false'] at hb); simp only [hb, ↓upd_eq, ↓envL_cons, WZ, reduceIte, reduceEqDiff, reduceAdd, reduceLT, reduceLeDiff, reduceCtorEq, reduceMul, reducePow, W1, W1C, W1V, W5, embR, h5, hln, hl, g0, g1, c0, c1, t0, t1, z1, z0, hl2, n8, n2, n0, k5, cl, d0, y01]; exact ⟨rfl, trivial⟩))
           | ((first | apply goGb_call (q2) | apply goDGb_call (q2) | apply goGb_call (w0) | apply goDGb_call (w0) | apply goGb_call (w1) | apply goDGb_call (w1)); (· intro hb; (try simp only [Bool.and_eq_true, Bool.not_eq_true', Bool.or_eq_false_iff, Bool.not_eq_false'] at hb); simp only [hb, AV.norm, AV.normL, W2, W2C, W2V, ↓upd_eq, ↓envL_cons, WZ, reduceIte, reduceEqDiff, reduceAdd, reduceLT, reduceLeDiff, reduceCtorEq, reduceMul, reducePow, W1, W1C, W1V, W5, embR, h5, hln, hl, g0, g1, c0, c1, t0, t1, z1, z0, hl2, n8, n2, n0, k5, cl, d0, y01]; rfl))
           | (with_reducible first | apply bA | apply bB | apply bC | apply bD | apply bE | apply bF) <;> intro h <;> try simp only [h, ↓upd_eq, ↓envL_cons, WZ, reduceIte, reduceEqDiff, reduceAdd, reduceLT, reduceLeDiff, reduceCtorEq, reduceMul, reducePow, W1, W1C, W1V, W5, embR, h5, hln, hl, g0, g1, c0, c1, t0, t1, z1, z0, hl2, n8, n2, n0, k5, cl, d0, y01]
           | ((first | refine goCall_norm ?_ | refine goDCall_norm ?_); simp only [AV.norm, AV.normL, W2, W2C, W2V, embR, h5, hln, hl, g0, g1, c0, c1, t0, t1, z1, z0, hl2, n8, n2, n0, k5, cl, d0, y01]; first | refine goCall_p (q2) (.inl rfl) ?_ | refine goCall_p (w0) (.inl rfl) ?_ | refine goCall_p (w1) (.inl rfl) ?_ | refine goDCall_p (q2) (.inl rfl) ?_ | refine goDCall_p (w0) (.inl rfl) ?_ | refine goDCall_p (w1) (.inl rfl) ?_)
           | refine go_drawX (id := 3) C_ok (fun _ => trivial) mixed [(6, 2)] 0 Try.f41.ntmps rfl (by kernel_rfl) (by decide) ?_
           | refine go_drawX (id := 5) C_ok (fun _ => trivial) mixed [(34, 2), (36, 2)] 0 Try.f41.ntmps rfl (by kernel_rfl) (by decide) ?_
           | refine go_drawX (id := 6) C_ok (fun _ => trivial) mixed [(44, 7)] 2 Try.f41.ntmps rfl (by kernel_rfl) (by decide) ?_
           | refine go_draw (id := 9) C_ok (fun _ => trivial) mixed 2 Try.f41.ntmps rfl (by kernel_rfl) (by decide) ?_
           | refine go_drawX (id := 11) C_ok (fun _ => trivial) mixed [(6, 2), (10, 2), (10, 3)] 0 Try.f41.ntmps rfl (by kernel_rfl) (by decide) ?_
           | refine go_draw (id := 12) C_ok (fun _ => trivial) mixed 1 Try.f41.ntmps rfl (by kernel_rfl) (by decide) ?_
           | refine go_drawX (id := 14) C_ok (fun _ => trivial) mixed [(6, 2), (10, 2), (10, 3)] 0 Try.f41.ntmps rfl (by kernel_rfl) (by decide) ?_
           | refine go_drawX (id := 15) C_ok (fun _ => trivial) mixed [(12, 2)] 0 Try.f41.ntmps rfl (by kernel_rfl) (by decide) ?_
           | simp only [↓upd_eq, ↓envL_cons, WZ, reduceIte, reduceEqDiff, reduceAdd, reduceLT, reduceLeDiff, reduceCtorEq, reduceMul, reducePow, W1, W1C, W1V, W5, embR, h5, hln, hl, g0, g1, c0, c1, t0, t1, z1, z0, hl2, n8, n2, n0, k5, cl, d0, y01]
          all_goals rfl

end Go.Proofs.Ytofogicgnldfhaa
