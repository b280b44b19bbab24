/- ValHas answers true, whatever the input. No condition. -/
import Derived.Test.YtofogicgnldfhaaY2A
import Derived.Test.YtofogicgnldfhaaPYi
import Derived.Test.YtofogicgnldfhaaPYf
import Derived.Test.YtofogicgnldfhaaPYe
set_option linter.unusedSimpArgs false
set_option linter.unusedVariables false
set_option maxHeartbeats 4000000
set_option maxRecDepth 100000
namespace Go.Proofs.Ytofogicgnldfhaa
open Go Go.Ab
open Nat (reduceEqDiff reduceAdd reduceLT reduceLeDiff reduceMul reducePow)
attribute [local irreducible] PCalls ACalls CallK GoCall GoDCall GoIf GoGb GoDGb GoO GoD GoX GoDX GoG GoDG GoGv GoDGv Go ALoop

theorem leaf5_ok : PCalls Try.prog 35 [.int .i64 5] (emb (T.dyn).ty) := leaf_ok 5
theorem listT_ok (a : T) : PCalls Try.prog 72 [emb a.ty] (emb (T.list a).ty) := list_ok a.ty
theorem pairT_ok (a b : T) : PCalls Try.prog 38 [.int .i64 7, emb a.ty, emb b.ty] (emb (T.pair a b).ty) := two_ok 7 a.ty b.ty
theorem fnT_ok (a b : T) : PCalls Try.prog 38 [.int .i64 9, emb a.ty, emb b.ty] (emb (T.fn a b).ty) := two_ok 9 a.ty b.ty
theorem sameT_ok (a b : T) : PCalls Try.prog 73 [emb a.ty, emb b.ty] (.bool (decide (a = b))) := by
  have := rsame_ok a.ty b.ty
  rwa [T.same_ty] at this
def ofA (r : TB) : AV := .tup [emb r.1.ty, .bool r.2]
theorem ofA_bel (r : TB) : (ofA r).bel 0 = true := by simp only [ofA, AV.bel, AV.belL, emb_bel, Bool.and_self]
theorem rofV_ok : ∀ v : Vl, rightV v = true → PCalls Try.prog 34 [embV v] (ofA (ofV v)) := by
  refine Vl.ind fun v ih h => ?_
  have e := ofV_eq v (rightV_two' h)
  obtain ⟨h1, h8⟩ := rightV_kind h
  have l5 := leaf5_ok
  rcases kinds8 h1 h8 with hk | hk | hk | hk | hk | hk | hk | hk
  · have hl := rightV_two' h (by omega)
    have g0 : (v.kids.map embV).getD 0 .any = embV (v.kid 0) := mapV_kid (by omega)
    have g1 : (v.kids.map embV).getD 1 .any = embV (v.kid 1) := mapV_kid (by omega)
    have c0 : ((0 : Int) < (2 : Nat)) = True := by simp
    have c1 : ((1 : Int) < (2 : Nat)) = True := by simp
    have t0 : Int.toNat 0 = 0 := rfl
    have t1 : Int.toNat 1 = 1 := rfl
    have z1 : ((0 : Int) ≤ 1) = True := by simp
    have q1 := ih _ (vkid0_mem h (by omega)) (rightV_kid0 h (by omega))
    have q2 := ih _ (vkid1_mem h (by omega)) (rightV_kid1 h (by omega))
    rw [e, if_pos hk]
    have hK : ∀ j : Int, (v.kind == j) = ((5 : Int) == j) := fun j => by rw [hk]
    unfold ofA at q1 q2 ⊢
    have q3 := pairT_ok (ofV (v.kid 0)).1 (ofV (v.kid 1)).1
    generalize ofV (v.kid 0) = r0 at *
    generalize ofV (v.kid 1) = r1 at *
    generalize hP : (T.pair r0.1 r1.1).ty = P at q3 ⊢
    refine pcalls_text C_ok Try.func34 rfl (by decide) (Nat.le_of_ble_eq_true rfl) (by decide) (by rw [← hP]; exact ofA_bel (T.pair r0.1 r1.1, r0.2 && r1.2)) fun ok H => ?_
    rw [Try.results34]
    have h := True.intro
    repeat' (first
     | (with_reducible first | apply bA | apply bB | apply bC | apply bD | apply bE | apply bF) <;> intro h
     | ((first | refine goCall_norm ?_ | refine goDCall_norm ?_); simp only [AV.norm, AV.normL, W2, W2C, W2V, Go.Ab.W3, Int.reduceAdd, Int.reduceLT, Int.reduceToNat, Int.reduceBEq, Int.reduceBNe, Int.reduceLE, hK, hl, g0, g1, c0, c1, t0, t1, z1, Int.le_refl, List.length_map]; first | refine goCall_p (q1) (.inl rfl) ?_ | refine goCall_p (q2) (.inl rfl) ?_ | refine goCall_p (q3) (.inl rfl) ?_ | refine goDCall_p (q1) (.inl rfl) ?_ | refine goDCall_p (q2) (.inl rfl) ?_ | refine goDCall_p (q3) (.inl rfl) ?_)
     | refine go_draw (id := 15) C_ok (fun _ => trivial) mixed 0 Try.f34.ntmps rfl (by kernel_rfl) (by decide) ?_
     | refine goRound ?_ C_ok Try.f34.ntmps rfl (by decide)
     | skip) <;> simp only [h, ↓upd_eq, ↓envL_cons, WZ, reduceIte, reduceEqDiff, reduceAdd, reduceLT, reduceLeDiff, reduceCtorEq, reduceMul, reducePow, W1, W1C, W1V, Go.Ab.W3, Int.reduceAdd, Int.reduceLT, Int.reduceToNat, Int.reduceBEq, Int.reduceBNe, Int.reduceLE, hK, hl, g0, g1, c0, c1, t0, t1, z1, Int.le_refl, List.length_map, cutNormal_normal]
    all_goals simp_all
  · rw [e, if_neg (by omega), if_pos hk]
    have hK : ∀ j : Int, (v.kind == j) = ((6 : Int) == j) := fun j => by rw [hk]
    have q1 := listT_ok .dyn
    unfold ofA
    generalize hP : (T.list T.dyn).ty = P at q1 ⊢
    generalize (T.dyn).ty = d at *
    refine pcalls_text C_ok Try.func34 rfl (by decide) (Nat.le_of_ble_eq_true rfl) (by decide) (by rw [← hP]; exact ofA_bel (T.list T.dyn, true)) fun ok H => ?_
    rw [Try.results34]
    have h := True.intro
    repeat' (first
     | (with_reducible first | apply bA | apply bB | apply bC | apply bD | apply bE | apply bF) <;> intro h
     | ((first | refine goCall_norm ?_ | refine goDCall_norm ?_); simp only [AV.norm, AV.normL, W2, W2C, W2V, Go.Ab.W3, Int.reduceAdd, Int.reduceLT, Int.reduceToNat, Int.reduceBEq, Int.reduceBNe, Int.reduceLE, hK]; first | refine goCall_p (l5) (.inl rfl) ?_ | refine goCall_p (q1) (.inl rfl) ?_ | refine goDCall_p (l5) (.inl rfl) ?_ | refine goDCall_p (q1) (.inl rfl) ?_)
     | refine go_draw (id := 15) C_ok (fun _ => trivial) mixed 0 Try.f34.ntmps rfl (by kernel_rfl) (by decide) ?_
     | refine goRound ?_ C_ok Try.f34.ntmps rfl (by decide)
     | skip) <;> simp only [h, ↓upd_eq, ↓envL_cons, WZ, reduceIte, reduceEqDiff, reduceAdd, reduceLT, reduceLeDiff, reduceCtorEq, reduceMul, reducePow, W1, W1C, W1V, Go.Ab.W3, Int.reduceAdd, Int.reduceLT, Int.reduceToNat, Int.reduceBEq, Int.reduceBNe, Int.reduceLE, hK, cutNormal_normal]
  · have hl := rightV_two' h (by omega)
    have g0 : (v.kids.map embV).getD 0 .any = embV (v.kid 0) := mapV_kid (by omega)
    have g1 : (v.kids.map embV).getD 1 .any = embV (v.kid 1) := mapV_kid (by omega)
    have c0 : ((0 : Int) < (2 : Nat)) = True := by simp
    have c1 : ((1 : Int) < (2 : Nat)) = True := by simp
    have t0 : Int.toNat 0 = 0 := rfl
    have t1 : Int.toNat 1 = 1 := rfl
    have z1 : ((0 : Int) ≤ 1) = True := by simp
    have q1 := ih _ (vkid0_mem h (by omega)) (rightV_kid0 h (by omega))
    have q2 := ih _ (vkid1_mem h (by omega)) (rightV_kid1 h (by omega))
    rw [e, if_neg (by omega), if_neg (by omega), if_pos hk]
    have hK : ∀ j : Int, (v.kind == j) = ((7 : Int) == j) := fun j => by rw [hk]
    have k6 : decide ((v.kid 1).kind = 6) = ((v.kid 1).kind == 6) := by rw [Bool.eq_iff_iff]; simp
    rw [k6]
    unfold ofA at q1 q2
    have q3 := listT_ok (ofV (v.kid 0)).1
    have q4 := sameT_ok (.list (ofV (v.kid 0)).1) (ofV (v.kid 1)).1
    generalize ofV (v.kid 0) = r0 at *
    generalize ofV (v.kid 1) = r1 at *
    obtain ⟨r0, o0⟩ := r0
    obtain ⟨r1, o1⟩ := r1
    have eb := ofA_bel (consO ((v.kid 1).kind == 6) (r0, o0) (r1, o1))
    simp only at q1 q2 q3 q4
    cases o0
    · simp only [consO, ofA, Bool.false_and, if_true] at eb ⊢
      generalize hP : (T.list r0).ty = P at *
      refine pcalls_text C_ok Try.func34 rfl (by decide) (Nat.le_of_ble_eq_true rfl) (by decide) eb fun ok H => ?_
      rw [Try.results34]
      have h := True.intro
      repeat' (first
       | (with_reducible first | apply bA | apply bB | apply bC | apply bD | apply bE | apply bF) <;> intro h
       | ((first | refine goCall_norm ?_ | refine goDCall_norm ?_); simp only [AV.norm, AV.normL, W2, W2C, W2V, Go.Ab.W3, Int.reduceAdd, Int.reduceLT, Int.reduceToNat, Int.reduceBEq, Int.reduceBNe, Int.reduceLE, hK, hl, g0, g1, c0, c1, t0, t1, z1, Int.le_refl, List.length_map]; first | refine goCall_p (q1) (.inl rfl) ?_ | refine goCall_p (q2) (.inl rfl) ?_ | refine goCall_p (q3) (.inl rfl) ?_ | refine goCall_p (q4) (.inl rfl) ?_ | refine goDCall_p (q1) (.inl rfl) ?_ | refine goDCall_p (q2) (.inl rfl) ?_ | refine goDCall_p (q3) (.inl rfl) ?_ | refine goDCall_p (q4) (.inl rfl) ?_)
       | refine go_draw (id := 15) C_ok (fun _ => trivial) mixed 0 Try.f34.ntmps rfl (by kernel_rfl) (by decide) ?_
       | refine goRound ?_ C_ok Try.f34.ntmps rfl (by decide)
       | skip) <;> simp only [h, ↓upd_eq, ↓envL_cons, WZ, reduceIte, reduceEqDiff, reduceAdd, reduceLT, reduceLeDiff, reduceCtorEq, reduceMul, reducePow, W1, W1C, W1V, Go.Ab.W3, Int.reduceAdd, Int.reduceLT, Int.reduceToNat, Int.reduceBEq, Int.reduceBNe, Int.reduceLE, hK, hl, g0, g1, c0, c1, t0, t1, z1, Int.le_refl, List.length_map, cutNormal_normal]
    · cases o1
      · simp only [consO, ofA, Bool.and_false, if_true] at eb ⊢
        generalize hP : (T.list r0).ty = P at *
        refine pcalls_text C_ok Try.func34 rfl (by decide) (Nat.le_of_ble_eq_true rfl) (by decide) eb fun ok H => ?_
        rw [Try.results34]
        have h := True.intro
        repeat' (first
         | (with_reducible first | apply bA | apply bB | apply bC | apply bD | apply bE | apply bF) <;> intro h
         | ((first | refine goCall_norm ?_ | refine goDCall_norm ?_); simp only [AV.norm, AV.normL, W2, W2C, W2V, Go.Ab.W3, Int.reduceAdd, Int.reduceLT, Int.reduceToNat, Int.reduceBEq, Int.reduceBNe, Int.reduceLE, hK, hl, g0, g1, c0, c1, t0, t1, z1, Int.le_refl, List.length_map]; first | refine goCall_p (q1) (.inl rfl) ?_ | refine goCall_p (q2) (.inl rfl) ?_ | refine goCall_p (q3) (.inl rfl) ?_ | refine goCall_p (q4) (.inl rfl) ?_ | refine goDCall_p (q1) (.inl rfl) ?_ | refine goDCall_p (q2) (.inl rfl) ?_ | refine goDCall_p (q3) (.inl rfl) ?_ | refine goDCall_p (q4) (.inl rfl) ?_)
         | refine go_draw (id := 15) C_ok (fun _ => trivial) mixed 0 Try.f34.ntmps rfl (by kernel_rfl) (by decide) ?_
         | refine goRound ?_ C_ok Try.f34.ntmps rfl (by decide)
         | skip) <;> simp only [h, ↓upd_eq, ↓envL_cons, WZ, reduceIte, reduceEqDiff, reduceAdd, reduceLT, reduceLeDiff, reduceCtorEq, reduceMul, reducePow, W1, W1C, W1V, Go.Ab.W3, Int.reduceAdd, Int.reduceLT, Int.reduceToNat, Int.reduceBEq, Int.reduceBNe, Int.reduceLE, hK, hl, g0, g1, c0, c1, t0, t1, z1, Int.le_refl, List.length_map, cutNormal_normal]
      · cases h6 : ((v.kid 1).kind == 6)
        · simp only [h6, consO, ofA, Bool.and_self, Bool.true_eq_false, Bool.false_eq_true, if_false] at eb ⊢
          generalize hP : (T.list r0).ty = P at *
          refine pcalls_text C_ok Try.func34 rfl (by decide) (Nat.le_of_ble_eq_true rfl) (by decide) eb fun ok H => ?_
          rw [Try.results34]
          have h := True.intro
          repeat' (first
           | (with_reducible first | apply bA | apply bB | apply bC | apply bD | apply bE | apply bF) <;> intro h
           | ((first | refine goCall_norm ?_ | refine goDCall_norm ?_); simp only [AV.norm, AV.normL, W2, W2C, W2V, Go.Ab.W3, Int.reduceAdd, Int.reduceLT, Int.reduceToNat, Int.reduceBEq, Int.reduceBNe, Int.reduceLE, hK, h6, hl, g0, g1, c0, c1, t0, t1, z1, Int.le_refl, List.length_map]; first | refine goCall_p (q1) (.inl rfl) ?_ | refine goCall_p (q2) (.inl rfl) ?_ | refine goCall_p (q3) (.inl rfl) ?_ | refine goCall_p (q4) (.inl rfl) ?_ | refine goDCall_p (q1) (.inl rfl) ?_ | refine goDCall_p (q2) (.inl rfl) ?_ | refine goDCall_p (q3) (.inl rfl) ?_ | refine goDCall_p (q4) (.inl rfl) ?_)
           | refine go_draw (id := 15) C_ok (fun _ => trivial) mixed 0 Try.f34.ntmps rfl (by kernel_rfl) (by decide) ?_
           | refine goRound ?_ C_ok Try.f34.ntmps rfl (by decide)
           | skip) <;> simp only [h, ↓upd_eq, ↓envL_cons, WZ, reduceIte, reduceEqDiff, reduceAdd, reduceLT, reduceLeDiff, reduceCtorEq, reduceMul, reducePow, W1, W1C, W1V, Go.Ab.W3, Int.reduceAdd, Int.reduceLT, Int.reduceToNat, Int.reduceBEq, Int.reduceBNe, Int.reduceLE, hK, h6, hl, g0, g1, c0, c1, t0, t1, z1, Int.le_refl, List.length_map, cutNormal_normal]
        · simp only [h6, consO, ofA, Bool.and_self, Bool.true_eq_false, if_false, if_true] at eb ⊢
          generalize hP : (T.list r0).ty = P at *
          refine pcalls_text C_ok Try.func34 rfl (by decide) (Nat.le_of_ble_eq_true rfl) (by decide) eb fun ok H => ?_
          rw [Try.results34]
          have h := True.intro
          repeat' (first
           | (with_reducible first | apply bA | apply bB | apply bC | apply bD | apply bE | apply bF) <;> intro h
           | ((first | refine goCall_norm ?_ | refine goDCall_norm ?_); simp only [AV.norm, AV.normL, W2, W2C, W2V, Go.Ab.W3, Int.reduceAdd, Int.reduceLT, Int.reduceToNat, Int.reduceBEq, Int.reduceBNe, Int.reduceLE, hK, h6, hl, g0, g1, c0, c1, t0, t1, z1, Int.le_refl, List.length_map]; first | refine goCall_p (q1) (.inl rfl) ?_ | refine goCall_p (q2) (.inl rfl) ?_ | refine goCall_p (q3) (.inl rfl) ?_ | refine goCall_p (q4) (.inl rfl) ?_ | refine goDCall_p (q1) (.inl rfl) ?_ | refine goDCall_p (q2) (.inl rfl) ?_ | refine goDCall_p (q3) (.inl rfl) ?_ | refine goDCall_p (q4) (.inl rfl) ?_)
           | refine go_draw (id := 15) C_ok (fun _ => trivial) mixed 0 Try.f34.ntmps rfl (by kernel_rfl) (by decide) ?_
           | refine goRound ?_ C_ok Try.f34.ntmps rfl (by decide)
           | skip) <;> simp only [h, ↓upd_eq, ↓envL_cons, WZ, reduceIte, reduceEqDiff, reduceAdd, reduceLT, reduceLeDiff, reduceCtorEq, reduceMul, reducePow, W1, W1C, W1V, Go.Ab.W3, Int.reduceAdd, Int.reduceLT, Int.reduceToNat, Int.reduceBEq, Int.reduceBNe, Int.reduceLE, hK, h6, hl, g0, g1, c0, c1, t0, t1, z1, Int.le_refl, List.length_map, cutNormal_normal]
  · rw [e, if_neg (by omega), if_neg (by omega), if_neg (by omega), if_pos hk]
    have hK : ∀ j : Int, (v.kind == j) = ((8 : Int) == j) := fun j => by rw [hk]
    have q1 := fnT_ok .dyn .dyn
    unfold ofA
    generalize hP : (T.fn T.dyn T.dyn).ty = P at q1 ⊢
    generalize (T.dyn).ty = d at *
    refine pcalls_text C_ok Try.func34 rfl (by decide) (Nat.le_of_ble_eq_true rfl) (by decide) (by rw [← hP]; exact ofA_bel (T.fn T.dyn T.dyn, false)) fun ok H => ?_
    rw [Try.results34]
    have h := True.intro
    repeat' (first
     | (with_reducible first | apply bA | apply bB | apply bC | apply bD | apply bE | apply bF) <;> intro h
     | ((first | refine goCall_norm ?_ | refine goDCall_norm ?_); simp only [AV.norm, AV.normL, W2, W2C, W2V, Go.Ab.W3, Int.reduceAdd, Int.reduceLT, Int.reduceToNat, Int.reduceBEq, Int.reduceBNe, Int.reduceLE, hK]; first | refine goCall_p (l5) (.inl rfl) ?_ | refine goCall_p (q1) (.inl rfl) ?_ | refine goDCall_p (l5) (.inl rfl) ?_ | refine goDCall_p (q1) (.inl rfl) ?_)
     | refine go_draw (id := 15) C_ok (fun _ => trivial) mixed 0 Try.f34.ntmps rfl (by kernel_rfl) (by decide) ?_
     | refine goRound ?_ C_ok Try.f34.ntmps rfl (by decide)
     | skip) <;> simp only [h, ↓upd_eq, ↓envL_cons, WZ, reduceIte, reduceEqDiff, reduceAdd, reduceLT, reduceLeDiff, reduceCtorEq, reduceMul, reducePow, W1, W1C, W1V, Go.Ab.W3, Int.reduceAdd, Int.reduceLT, Int.reduceToNat, Int.reduceBEq, Int.reduceBNe, Int.reduceLE, hK, cutNormal_normal]
  · rw [e, if_neg (by omega), if_neg (by omega), if_neg (by omega), if_neg (by omega)]
    have q0 := rhead_v v
    have q1 := leaf_ok (headV v.kind)
    have hT : leafT (headV v.kind) = (baseO v.kind).ty := by rw [hk]; rfl
    rw [hT] at q1
    have hK : ∀ j : Int, (v.kind == j) = ((1 : Int) == j) := fun j => by rw [hk]
    generalize headV v.kind = hd at q0 q1
    unfold ofA
    have eb := ofA_bel (baseO v.kind, true)
    unfold ofA at eb
    generalize baseO v.kind = B at *
    refine pcalls_text C_ok Try.func34 rfl (by decide) (Nat.le_of_ble_eq_true rfl) (by decide) eb fun ok H => ?_
    rw [Try.results34]
    have h := True.intro
    repeat' (first
     | (with_reducible first | apply bA | apply bB | apply bC | apply bD | apply bE | apply bF) <;> intro h
     | ((first | refine goCall_norm ?_ | refine goDCall_norm ?_); simp only [AV.norm, AV.normL, W2, W2C, W2V, Go.Ab.W3, Int.reduceAdd, Int.reduceLT, Int.reduceToNat, Int.reduceBEq, Int.reduceBNe, Int.reduceLE, hK]; first | refine goCall_p (q0) (.inl rfl) ?_ | refine goCall_p (q1) (.inl rfl) ?_ | refine goDCall_p (q0) (.inl rfl) ?_ | refine goDCall_p (q1) (.inl rfl) ?_)
     | refine go_draw (id := 15) C_ok (fun _ => trivial) mixed 0 Try.f34.ntmps rfl (by kernel_rfl) (by decide) ?_
     | refine goRound ?_ C_ok Try.f34.ntmps rfl (by decide)
     | skip) <;> simp only [h, ↓upd_eq, ↓envL_cons, WZ, reduceIte, reduceEqDiff, reduceAdd, reduceLT, reduceLeDiff, reduceCtorEq, reduceMul, reducePow, W1, W1C, W1V, Go.Ab.W3, Int.reduceAdd, Int.reduceLT, Int.reduceToNat, Int.reduceBEq, Int.reduceBNe, Int.reduceLE, hK, cutNormal_normal]
  · rw [e, if_neg (by omega), if_neg (by omega), if_neg (by omega), if_neg (by omega)]
    have q0 := rhead_v v
    have q1 := leaf_ok (headV v.kind)
    have hT : leafT (headV v.kind) = (baseO v.kind).ty := by rw [hk]; rfl
    rw [hT] at q1
    have hK : ∀ j : Int, (v.kind == j) = ((2 : Int) == j) := fun j => by rw [hk]
    generalize headV v.kind = hd at q0 q1
    unfold ofA
    have eb := ofA_bel (baseO v.kind, true)
    unfold ofA at eb
    generalize baseO v.kind = B at *
    refine pcalls_text C_ok Try.func34 rfl (by decide) (Nat.le_of_ble_eq_true rfl) (by decide) eb fun ok H => ?_
    rw [Try.results34]
    have h := True.intro
    repeat' (first
     | (with_reducible first | apply bA | apply bB | apply bC | apply bD | apply bE | apply bF) <;> intro h
     | ((first | refine goCall_norm ?_ | refine goDCall_norm ?_); simp only [AV.norm, AV.normL, W2, W2C, W2V, Go.Ab.W3, Int.reduceAdd, Int.reduceLT, Int.reduceToNat, Int.reduceBEq, Int.reduceBNe, Int.reduceLE, hK]; first | refine goCall_p (q0) (.inl rfl) ?_ | refine goCall_p (q1) (.inl rfl) ?_ | refine goDCall_p (q0) (.inl rfl) ?_ | refine goDCall_p (q1) (.inl rfl) ?_)
     | refine go_draw (id := 15) C_ok (fun _ => trivial) mixed 0 Try.f34.ntmps rfl (by kernel_rfl) (by decide) ?_
     | refine goRound ?_ C_ok Try.f34.ntmps rfl (by decide)
     | skip) <;> simp only [h, ↓upd_eq, ↓envL_cons, WZ, reduceIte, reduceEqDiff, reduceAdd, reduceLT, reduceLeDiff, reduceCtorEq, reduceMul, reducePow, W1, W1C, W1V, Go.Ab.W3, Int.reduceAdd, Int.reduceLT, Int.reduceToNat, Int.reduceBEq, Int.reduceBNe, Int.reduceLE, hK, cutNormal_normal]
  · rw [e, if_neg (by omega), if_neg (by omega), if_neg (by omega), if_neg (by omega)]
    have q0 := rhead_v v
    have q1 := leaf_ok (headV v.kind)
    have hT : leafT (headV v.kind) = (baseO v.kind).ty := by rw [hk]; rfl
    rw [hT] at q1
    have hK : ∀ j : Int, (v.kind == j) = ((3 : Int) == j) := fun j => by rw [hk]
    generalize headV v.kind = hd at q0 q1
    unfold ofA
    have eb := ofA_bel (baseO v.kind, true)
    unfold ofA at eb
    generalize baseO v.kind = B at *
    refine pcalls_text C_ok Try.func34 rfl (by decide) (Nat.le_of_ble_eq_true rfl) (by decide) eb fun ok H => ?_
    rw [Try.results34]
    have h := True.intro
    repeat' (first
     | (with_reducible first | apply bA | apply bB | apply bC | apply bD | apply bE | apply bF) <;> intro h
     | ((first | refine goCall_norm ?_ | refine goDCall_norm ?_); simp only [AV.norm, AV.normL, W2, W2C, W2V, Go.Ab.W3, Int.reduceAdd, Int.reduceLT, Int.reduceToNat, Int.reduceBEq, Int.reduceBNe, Int.reduceLE, hK]; first | refine goCall_p (q0) (.inl rfl) ?_ | refine goCall_p (q1) (.inl rfl) ?_ | refine goDCall_p (q0) (.inl rfl) ?_ | refine goDCall_p (q1) (.inl rfl) ?_)
     | refine go_draw (id := 15) C_ok (fun _ => trivial) mixed 0 Try.f34.ntmps rfl (by kernel_rfl) (by decide) ?_
     | refine goRound ?_ C_ok Try.f34.ntmps rfl (by decide)
     | skip) <;> simp only [h, ↓upd_eq, ↓envL_cons, WZ, reduceIte, reduceEqDiff, reduceAdd, reduceLT, reduceLeDiff, reduceCtorEq, reduceMul, reducePow, W1, W1C, W1V, Go.Ab.W3, Int.reduceAdd, Int.reduceLT, Int.reduceToNat, Int.reduceBEq, Int.reduceBNe, Int.reduceLE, hK, cutNormal_normal]
  · rw [e, if_neg (by omega), if_neg (by omega), if_neg (by omega), if_neg (by omega)]
    have q0 := rhead_v v
    have q1 := leaf_ok (headV v.kind)
    have hT : leafT (headV v.kind) = (baseO v.kind).ty := by rw [hk]; rfl
    rw [hT] at q1
    have hK : ∀ j : Int, (v.kind == j) = ((4 : Int) == j) := fun j => by rw [hk]
    generalize headV v.kind = hd at q0 q1
    unfold ofA
    have eb := ofA_bel (baseO v.kind, true)
    unfold ofA at eb
    generalize baseO v.kind = B at *
    refine pcalls_text C_ok Try.func34 rfl (by decide) (Nat.le_of_ble_eq_true rfl) (by decide) eb fun ok H => ?_
    rw [Try.results34]
    have h := True.intro
    repeat' (first
     | (with_reducible first | apply bA | apply bB | apply bC | apply bD | apply bE | apply bF) <;> intro h
     | ((first | refine goCall_norm ?_ | refine goDCall_norm ?_); simp only [AV.norm, AV.normL, W2, W2C, W2V, Go.Ab.W3, Int.reduceAdd, Int.reduceLT, Int.reduceToNat, Int.reduceBEq, Int.reduceBNe, Int.reduceLE, hK]; first | refine goCall_p (q0) (.inl rfl) ?_ | refine goCall_p (q1) (.inl rfl) ?_ | refine goDCall_p (q0) (.inl rfl) ?_ | refine goDCall_p (q1) (.inl rfl) ?_)
     | refine go_draw (id := 15) C_ok (fun _ => trivial) mixed 0 Try.f34.ntmps rfl (by kernel_rfl) (by decide) ?_
     | refine goRound ?_ C_ok Try.f34.ntmps rfl (by decide)
     | skip) <;> simp only [h, ↓upd_eq, ↓envL_cons, WZ, reduceIte, reduceEqDiff, reduceAdd, reduceLT, reduceLeDiff, reduceCtorEq, reduceMul, reducePow, W1, W1C, W1V, Go.Ab.W3, Int.reduceAdd, Int.reduceLT, Int.reduceToNat, Int.reduceBEq, Int.reduceBNe, Int.reduceLE, hK, cutNormal_normal]

theorem toldV_right {v : Vl} (h : toldV v = true) : rightV v = true := by unfold toldV at h; rw [Bool.and_eq_true] at h; exact h.1
theorem toldV_bare {v : Vl} (h : toldV v = true) : bareV v = true := by unfold toldV at h; rw [Bool.and_eq_true] at h; exact h.2
abbrev pairU (v w : Vl) : Vl := .mk 5 0 ByteArray.empty noneC [v, w]
theorem pairU_told {v w : Vl} (hv : toldV v = true) (hw : toldV w = true) : toldV (pairU v w) = true := by
  have r1 := toldV_right hv
  have r2 := toldV_right hw
  have b1 := toldV_bare hv
  have b2 := toldV_bare hw
  unfold toldV
  rw [Bool.and_eq_true]
  constructor
  · rw [rightV_eq, Bool.and_eq_true, allN_iff]
    refine ⟨by simp [ownV, oneV, aroundV, noneB, Vl.kind, Vl.num, Vl.str, Vl.co, Vl.kids, Co.kind, Co.head, Co.label, Co.neg, Co.kids], fun i hi => ?_⟩
    simp only [Vl.kids, List.length_cons, List.length_nil] at hi
    have : i = 0 ∨ i = 1 := by omega
    rcases this with rfl | rfl
    · exact r1
    · exact r2
  · rw [bareV_eq, Bool.and_eq_true, allN_iff]
    refine ⟨by simp [bareN, noneB, Vl.kind, Vl.num, Vl.co, Co.kind, Co.head, Co.label, Co.neg, Co.kids], fun i hi => ?_⟩
    simp only [Vl.kids, List.length_cons, List.length_nil] at hi
    have : i = 0 ∨ i = 1 := by omega
    rcases this with rfl | rfl
    · exact b1
    · exact b2
theorem hasT_T {v : Vl} (h : toldV v = true) (a : T) : hasT v a.ty = (a.ok && hasV v a.ty) := by
  rw [hasT, h, T.right_ty, Bool.true_and]
theorem small_deep23 {a : Ty} (h : small [a] = true) : depth a ≤ 60 := by
  have h1 := small_mem h (List.mem_singleton.2 rfl)
  simp only [small1, Bool.not_eq_true', Bool.or_eq_false_iff] at h1
  exact deep_of23 h1.1.2
theorem bool6 : ∀ ob ht hl ho1 st ag : Bool, (ob = true → ho1 = true) → (ht = true → hl = true) → (ob = true → st = true → ht = true → ag = true) →
    (ob = false ∧ ht = false) ∨ (ob = false ∧ ht = true ∧ hl = true) ∨ (ob = true ∧ ho1 = true ∧ ht = false) ∨ (ob = true ∧ ho1 = true ∧ ht = true ∧ hl = true ∧ st = false) ∨ (ob = true ∧ ho1 = true ∧ ht = true ∧ hl = true ∧ st = true ∧ ag = true) := by
  intro ob ht hl ho1 st ag
  cases ob <;> cases ht <;> cases hl <;> cases ho1 <;> cases st <;> cases ag <;> simp
theorem valHas_ok (v w : Vl) (bs : List Bool) (t : Ty) : PCalls Try.prog 7 [embV v, embV w, .sl (bs.map .bool) .no, emb t] (.bool true) := by
  have q1 := heavyV2_ok v w
  have q2 := rtold_ok v
  have q3 := rtold_ok w
  have q4 := small1_ok t
  have q5 := rright_ok t
  have qw := wakes_ok
  by_cases hall : heavyV [v, w] = false ∧ toldV v = true ∧ toldV w = true ∧ small [t] = true ∧ right t = true ∧ ¬ (bs.length : Int) > 500
  case neg =>
    obtain ⟨b6, h6⟩ : ∃ b6 : Bool, ((bs.length : Int) > 500) = (b6 = true) := ⟨decide ((bs.length : Int) > 500), by simp⟩
    rw [h6] at hall
    generalize heavyV [v, w] = b1 at *
    generalize toldV v = b2 at *
    generalize toldV w = b3 at *
    generalize small [t] = b4 at *
    generalize right t = b5 at *
    have early : b1 = true ∨ (b1 = false ∧ b2 = false) ∨ (b1 = false ∧ b2 = true ∧ b3 = false) ∨ (b1 = false ∧ b2 = true ∧ b3 = true ∧ b4 = false) ∨ (b1 = false ∧ b2 = true ∧ b3 = true ∧ b4 = true ∧ b5 = false) ∨ (b1 = false ∧ b2 = true ∧ b3 = true ∧ b4 = true ∧ b5 = true ∧ b6 = true) := by
      revert hall
      cases b1 <;> cases b2 <;> cases b3 <;> cases b4 <;> cases b5 <;> cases b6 <;> simp
    clear hall
    rcases early with rfl | ⟨rfl, rfl⟩ | ⟨rfl, rfl, rfl⟩ | ⟨rfl, rfl, rfl, rfl⟩ | ⟨rfl, rfl, rfl, rfl, rfl⟩ | ⟨rfl, rfl, rfl, rfl, rfl, rfl⟩
    all_goals
      refine pcalls_text C_ok Try.func7 rfl (by decide) (Nat.le_of_ble_eq_true rfl) (by decide) rfl fun ok H => ?_
      rw [Try.results7]
      repeat' first
       | ((first | apply goGb_op (fun _ _ => rfl) | apply goDGb_op (fun _ _ => rfl)); (· intro hb; (try simp only [Bool.and_eq_true, Bool.not_eq_true', Bool.or_eq_false_iff, Bool.not_eq_false'] at hb); simp only [hb, ↓upd_eq, ↓envL_cons, WZ, reduceIte, reduceEqDiff, reduceAdd, reduceLT, reduceLeDiff, reduceCtorEq, reduceMul, reducePow, W1, W1C, W1V, W5, h6, Bool.decide_eq_true, List.length_map]; exact ⟨rfl, trivial⟩))
       | ((first | apply goGb_call (q1) | apply goDGb_call (q1) | apply goGb_call (q2) | apply goDGb_call (q2) | apply goGb_call (q3) | apply goDGb_call (q3) | apply goGb_call (q4) | apply goDGb_call (q4) | apply goGb_call (q5) | apply goDGb_call (q5)); (· intro hb; (try simp only [Bool.and_eq_true, Bool.not_eq_true', Bool.or_eq_false_iff, Bool.not_eq_false'] at hb); simp only [hb, AV.norm, AV.normL, W2, W2C, W2V, ↓upd_eq, ↓envL_cons, WZ, reduceIte, reduceEqDiff, reduceAdd, reduceLT, reduceLeDiff, reduceCtorEq, reduceMul, reducePow, W1, W1C, W1V, W5, h6, Bool.decide_eq_true, List.length_map]; rfl))
       | (with_reducible first | apply bA | apply bB | apply bC | apply bD | apply bE | apply bF) <;> intro h <;> try simp only [h, ↓upd_eq, ↓envL_cons, WZ, reduceIte, reduceEqDiff, reduceAdd, reduceLT, reduceLeDiff, reduceCtorEq, reduceMul, reducePow, W1, W1C, W1V, W5, h6, Bool.decide_eq_true, List.length_map]
       | ((first | refine goCall_norm ?_ | refine goDCall_norm ?_); simp only [AV.norm, AV.normL, W2, W2C, W2V, h6, Bool.decide_eq_true, List.length_map]; first | refine goCall_p (q1) (.inl rfl) ?_ | refine goCall_p (q2) (.inl rfl) ?_ | refine goCall_p (q3) (.inl rfl) ?_ | refine goCall_p (q4) (.inl rfl) ?_ | refine goCall_p (q5) (.inl rfl) ?_ | refine goDCall_p (q1) (.inl rfl) ?_ | refine goDCall_p (q2) (.inl rfl) ?_ | refine goDCall_p (q3) (.inl rfl) ?_ | refine goDCall_p (q4) (.inl rfl) ?_ | refine goDCall_p (q5) (.inl rfl) ?_)
       | refine go_draw (id := 4) C_ok (fun _ => trivial) mixed 0 Try.f7.ntmps rfl (by kernel_rfl) (by decide) ?_
       | refine go_draw (id := 9) C_ok (fun _ => trivial) mixed 1 Try.f7.ntmps rfl (by kernel_rfl) (by decide) ?_
       | refine go_draw (id := 10) C_ok (fun _ => trivial) mixed 0 Try.f7.ntmps rfl (by kernel_rfl) (by decide) ?_
       | simp only [↓upd_eq, ↓envL_cons, WZ, reduceIte, reduceEqDiff, reduceAdd, reduceLT, reduceLeDiff, reduceCtorEq, reduceMul, reducePow, W1, W1C, W1V, W5, h6, Bool.decide_eq_true, List.length_map]
  obtain ⟨hv, h1, h2, h3, h4, h5⟩ := hall
  rw [hv] at q1
  rw [h1] at q2
  rw [h2] at q3
  rw [h3] at q4
  rw [h4] at q5
  have h5' : ((bs.length : Int) > 500) = False := by simp only [eq_iff_iff, iff_false]; exact h5
  clear h5
  have rv := toldV_right h1
  have rw' := toldV_right h2
  obtain ⟨x, rfl, hx⟩ := T.of_right' h4
  have q6 := rofV_ok v rv
  unfold ofA at q6
  obtain ⟨oo, oc⟩ := ofV_ok v rv
  have q7 := vHas_ok v (T.dyn).ty
  rw [hasT_T h1, has_dyn v, show (T.dyn).ok = true from rfl, Bool.true_and] at q7
  have q8 := vHas_ok v (ofV v).1.ty
  rw [hasT_T h1, oo, Bool.true_and] at q8
  have q9 := vHas_ok v x.ty
  rw [hasT_T h1, hx, Bool.true_and] at q9
  have qa := vHas_ok (pairU v w) (T.pair x .dyn).ty
  have rp := pairU_told h1 h2
  have ep : hasT (pairU v w) (T.pair x .dyn).ty = hasV v x.ty := by
    rw [hasT_T rp, has_pair (toldV_right rp)]
    have e1 : (pairU v w).kid 0 = v := rfl
    have e2 : (pairU v w).kid 1 = w := rfl
    rw [e1, e2, has_dyn w]
    simp [T.ok, hx, Vl.kind]
  rw [ep] at qa
  have qb : PCalls Try.prog 39 [emb x.ty, .sl (bs.map .bool) .no, .int .i64 0] (emb (lesI bs 0 x).ty) := lesI_walk bs x 0 (by
    have := small_deep23 h3
    rw [T.deep_ty] at this
    have h2 : 2 ^ x.deep ≤ 2 ^ 60 := Nat.pow_le_pow_right (by decide) this
    omega)
  have qc := vHas_ok v (lesI bs 0 x).ty
  obtain ⟨k1, k2, k3⟩ := lesI_ok bs x 0
  rw [hasT_T h1, k1 hx, Bool.true_and] at qc
  have qd := leaf5_ok
  have qe := pairT_ok x .dyn
  have qf := rwithout_ok x.ty 6
  have qg := rwithout_ok (ofV v).1.ty 5
  rw [T.static_ty] at qg
  have qh := ragree_ok (ofV v).1.ty x.ty (by rw [T.right_ty]; exact oo) (by rw [T.right_ty]; exact hx)
  rw [T.agree_ty] at qh
  have ho := has_own v rv
  have hag := fun a b => own_agree v rv a b x
  have hbe := has_below v rv x (lesI bs 0 x) k3
  clear rv rw' hx oo oc ep rp k1 k2 k3 h1 h2 h3 h4 hv
  generalize hO : ofV v = o at *
  obtain ⟨O, ob⟩ := o
  simp only at *
  generalize agreeT O x = ag at *
  generalize O.static = st at *
  generalize hasV v O.ty = ho1 at *
  generalize hasV v x.ty = ht at *
  generalize hasV v (lesI bs 0 x).ty = hl at *
  generalize O.ty = OT at *
  generalize (lesI bs 0 x).ty = LT at *
  generalize (T.pair x .dyn).ty = PT at *
  generalize x.ty = XT at *
  generalize (T.dyn).ty = DT at *
  generalize without 6 XT = w6 at *
  have fin : (ob = false ∧ ht = false) ∨ (ob = false ∧ ht = true ∧ hl = true) ∨ (ob = true ∧ ho1 = true ∧ ht = false) ∨ (ob = true ∧ ho1 = true ∧ ht = true ∧ hl = true ∧ st = false) ∨ (ob = true ∧ ho1 = true ∧ ht = true ∧ hl = true ∧ st = true ∧ ag = true) := by
    exact bool6 ob ht hl ho1 st ag ho hbe hag
  clear ho hbe hag
  rcases fin with ⟨rfl, rfl⟩ | ⟨rfl, rfl, rfl⟩ | ⟨rfl, rfl, rfl⟩ | ⟨rfl, rfl, rfl, rfl, rfl⟩ | ⟨rfl, rfl, rfl, rfl, rfl, rfl⟩
  all_goals
    refine pcalls_text C_ok Try.func7 rfl (by decide) (Nat.le_of_ble_eq_true rfl) (by decide) rfl fun ok H => ?_
    rw [Try.results7]
    repeat' first
     | ((first | apply goGb_op (fun _ _ => rfl) | apply goDGb_op (fun _ _ => rfl)); (· intro hb; (try simp only [Bool.and_eq_true, Bool.not_eq_true', Bool.or_eq_false_iff, Bool.not_eq_false'] at hb); simp only [hb, ↓upd_eq, ↓envL_cons, WZ, reduceIte, reduceEqDiff, reduceAdd, reduceLT, reduceLeDiff, reduceCtorEq, reduceMul, reducePow, W1, W1C, W1V, W5, h5', List.length_map, bools_norm]; exact ⟨rfl, trivial⟩))
     | ((first | apply goGb_call (q1) | apply goDGb_call (q1) | apply goGb_call (q2) | apply goDGb_call (q2) | apply goGb_call (q3) | apply goDGb_call (q3) | apply goGb_call (q4) | apply goDGb_call (q4) | apply goGb_call (q5) | apply goDGb_call (q5) | apply goGb_call (q6) | apply goDGb_call (q6) | apply goGb_call (q7) | apply goDGb_call (q7) | apply goGb_call (q8) | apply goDGb_call (q8) | apply goGb_call (q9) | apply goDGb_call (q9) | apply goGb_call (qa) | apply goDGb_call (qa) | apply goGb_call (qb) | apply goDGb_call (qb) | apply goGb_call (qc) | apply goDGb_call (qc) | apply goGb_call (qd) | apply goDGb_call (qd) | apply goGb_call (qe) | apply goDGb_call (qe) | apply goGb_call (qf) | apply goDGb_call (qf) | apply goGb_call (qg) | apply goDGb_call (qg) | apply goGb_call (qh) | apply goDGb_call (qh) | apply goGb_call (qw) | apply goDGb_call (qw)); (· intro hb; (try simp only [Bool.and_eq_true, Bool.not_eq_true', Bool.or_eq_false_iff, Bool.not_eq_false'] at hb); simp only [hb, AV.norm, AV.normL, W2, W2C, W2V, ↓upd_eq, ↓envL_cons, WZ, reduceIte, reduceEqDiff, reduceAdd, reduceLT, reduceLeDiff, reduceCtorEq, reduceMul, reducePow, W1, W1C, W1V, W5, h5', List.length_map, bools_norm]; rfl))
     | (with_reducible first | apply bA | apply bB | apply bC | apply bD | apply bE | apply bF) <;> intro h <;> try simp only [h, ↓upd_eq, ↓envL_cons, WZ, reduceIte, reduceEqDiff, reduceAdd, reduceLT, reduceLeDiff, reduceCtorEq, reduceMul, reducePow, W1, W1C, W1V, W5, h5', List.length_map, bools_norm]
     | ((first | refine goCall_norm ?_ | refine goDCall_norm ?_); simp only [AV.norm, AV.normL, W2, W2C, W2V, h5', List.length_map, bools_norm]; first | refine goCall_p (q1) (.inl rfl) ?_ | refine goCall_p (q2) (.inl rfl) ?_ | refine goCall_p (q3) (.inl rfl) ?_ | refine goCall_p (q4) (.inl rfl) ?_ | refine goCall_p (q5) (.inl rfl) ?_ | refine goCall_p (q6) (.inl rfl) ?_ | refine goCall_p (q7) (.inl rfl) ?_ | refine goCall_p (q8) (.inl rfl) ?_ | refine goCall_p (q9) (.inl rfl) ?_ | refine goCall_p (qa) (.inl rfl) ?_ | refine goCall_p (qb) (.inl rfl) ?_ | refine goCall_p (qc) (.inl rfl) ?_ | refine goCall_p (qd) (.inl rfl) ?_ | refine goCall_p (qe) (.inl rfl) ?_ | refine goCall_p (qf) (.inl rfl) ?_ | refine goCall_p (qg) (.inl rfl) ?_ | refine goCall_p (qh) (.inl rfl) ?_ | refine goCall_p (qw) (.inl rfl) ?_ | refine goDCall_p (q1) (.inl rfl) ?_ | refine goDCall_p (q2) (.inl rfl) ?_ | refine goDCall_p (q3) (.inl rfl) ?_ | refine goDCall_p (q4) (.inl rfl) ?_ | refine goDCall_p (q5) (.inl rfl) ?_ | refine goDCall_p (q6) (.inl rfl) ?_ | refine goDCall_p (q7) (.inl rfl) ?_ | refine goDCall_p (q8) (.inl rfl) ?_ | refine goDCall_p (q9) (.inl rfl) ?_ | refine goDCall_p (qa) (.inl rfl) ?_ | refine goDCall_p (qb) (.inl rfl) ?_ | refine goDCall_p (qc) (.inl rfl) ?_ | refine goDCall_p (qd) (.inl rfl) ?_ | refine goDCall_p (qe) (.inl rfl) ?_ | refine goDCall_p (qf) (.inl rfl) ?_ | refine goDCall_p (qg) (.inl rfl) ?_ | refine goDCall_p (qh) (.inl rfl) ?_ | refine goDCall_p (qw) (.inl rfl) ?_)
     | refine go_draw (id := 4) C_ok (fun _ => trivial) mixed 0 Try.f7.ntmps rfl (by kernel_rfl) (by decide) ?_
     | refine go_draw (id := 9) C_ok (fun _ => trivial) mixed 1 Try.f7.ntmps rfl (by kernel_rfl) (by decide) ?_
     | refine go_draw (id := 10) C_ok (fun _ => trivial) mixed 0 Try.f7.ntmps rfl (by kernel_rfl) (by decide) ?_
     | simp only [↓upd_eq, ↓envL_cons, WZ, reduceIte, reduceEqDiff, reduceAdd, reduceLT, reduceLeDiff, reduceCtorEq, reduceMul, reducePow, W1, W1C, W1V, W5, h5', List.length_map, bools_norm]

end Go.Proofs.Ytofogicgnldfhaa
