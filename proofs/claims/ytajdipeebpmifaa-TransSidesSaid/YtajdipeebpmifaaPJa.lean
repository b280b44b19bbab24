/- Lemmas: what the laws of casts share. No condition. -/
import Derived.Test.YtajdipeebpmifaaJ1
import Derived.Test.YtajdipeebpmifaaPCa
import Derived.Test.YtajdipeebpmifaaPFa
import Derived.Test.YtajdipeebpmifaaPFb

section
/- Walks: how many parts from ? have a side. No condition. -/
set_option linter.unusedSimpArgs false
set_option linter.unusedVariables false
set_option maxHeartbeats 4000000
set_option maxRecDepth 100000
namespace Go.Proofs.Ytajdipeebpmifaa
open Go Go.Ab
attribute [local irreducible] PCalls ACalls CallK GoCall GoDCall GoIf GoGb GoDGb GoO GoD GoX GoDX GoG GoDG GoGv GoDGv Go ALoop

theorem cnt_le (s : Bool) : ∀ k : K, k.cnt s ≤ k.size := by
  intro k
  induction k with
  | proj h l n k ih => simp only [K.cnt, K.size]; split <;> omega
  | _ => simp only [K.cnt, K.size]; omega
def SidesOK (l : Int) (n : Bool) (k : K) : Prop := PCalls Try.prog 63 [embC k.co, .int .i64 l, .bool n] (.tup [.int .i64 (k.cnt n), .int .i64 (k.cnt (!n)), .bool (k.lab l)])
theorem sides_ok (l : Int) (n : Bool) : ∀ k : K, k.size ≤ 1000000 → SidesOK l n k := by
  intro k
  induction k with
  | id =>
    intro _
    show PCalls _ _ [embC (.mk 1 0 0 false []), .int .i64 l, .bool n] (.tup [.int .i64 0, .int .i64 0, .bool true])
    refine pcalls_text C_ok Try.func63 rfl (by decide) (Nat.le_of_ble_eq_true rfl) (by decide) rfl fun ok H => ?_
    rw [Try.results63]
    have h := True.intro
    repeat' (first
     | (with_reducible first | refine goIf_b ?_ ?_ | refine goIf_n ?_ ?_ | refine goIf_d ?_ ?_ | refine goIf_split ?_ ?_ | refine goGb_b ?_ ?_ | refine goGb_n ?_ ?_ | refine goGb_d ?_ ?_ | refine goGb_split ?_ ?_ | refine goDGb_b ?_ ?_ | refine goDGb_n ?_ ?_ | refine goDGb_d ?_ ?_ | refine goDGb_split ?_ ?_) <;> intro h
     | refine go_draw (id := 1) C_ok mixed 0 Try.f63.ntmps rfl (by kernel_rfl) (by decide) ?_
     | refine goRound ?_ C_ok Try.f63.ntmps rfl (by decide)
     | skip) <;> simp only [h, ↓upd_eq, ↓envL_cons, Go.Ab.W0, Go.Ab.WD, Go.Ab.WE, if_true, if_false, reduceIte, Nat.reduceEqDiff, Nat.reduceAdd, Nat.reduceLT, Nat.reduceLeDiff, reduceCtorEq, Nat.reduceMul, implies_true, forall_eq_or_imp, forall_eq, Nat.reducePow, W1, W1C, Go.Ab.W3, Int.reduceAdd, Int.reduceLT, Int.reduceToNat, Int.reduceBEq, Int.reduceBNe, Int.reduceLE, cutNormal_normal]
  | fail l' n' =>
    intro _
    show PCalls _ _ [embC (.mk 7 0 l' n' []), .int .i64 l, .bool n] (.tup [.int .i64 0, .int .i64 0, .bool false])
    refine pcalls_text C_ok Try.func63 rfl (by decide) (Nat.le_of_ble_eq_true rfl) (by decide) rfl fun ok H => ?_
    rw [Try.results63]
    have h := True.intro
    repeat' (first
     | (with_reducible first | refine goIf_b ?_ ?_ | refine goIf_n ?_ ?_ | refine goIf_d ?_ ?_ | refine goIf_split ?_ ?_ | refine goGb_b ?_ ?_ | refine goGb_n ?_ ?_ | refine goGb_d ?_ ?_ | refine goGb_split ?_ ?_ | refine goDGb_b ?_ ?_ | refine goDGb_n ?_ ?_ | refine goDGb_d ?_ ?_ | refine goDGb_split ?_ ?_) <;> intro h
     | refine go_draw (id := 1) C_ok mixed 0 Try.f63.ntmps rfl (by kernel_rfl) (by decide) ?_
     | refine goRound ?_ C_ok Try.f63.ntmps rfl (by decide)
     | skip) <;> simp only [h, ↓upd_eq, ↓envL_cons, Go.Ab.W0, Go.Ab.WD, Go.Ab.WE, if_true, if_false, reduceIte, Nat.reduceEqDiff, Nat.reduceAdd, Nat.reduceLT, Nat.reduceLeDiff, reduceCtorEq, Nat.reduceMul, implies_true, forall_eq_or_imp, forall_eq, Nat.reducePow, W1, W1C, Go.Ab.W3, Int.reduceAdd, Int.reduceLT, Int.reduceToNat, Int.reduceBEq, Int.reduceBNe, Int.reduceLE, cutNormal_normal]
  | fn x y ih1 ih2 =>
    intro hs
    replace ih1 := ih1 (by simp only [K.size] at hs; omega)
    replace ih2 := ih2 (by simp only [K.size] at hs; omega)
    simp only [SidesOK, K.co, K.cnt, K.lab] at ih1 ih2 ⊢
    have b1 := cnt_le n x
    have b2 := cnt_le n y
    have b3 := cnt_le (!n) x
    have b4 := cnt_le (!n) y
    simp only [K.size] at hs
    generalize x.cnt n = p at *
    generalize y.cnt n = q at *
    generalize x.cnt (!n) = r at *
    generalize y.cnt (!n) = s at *
    have w1 : IntKind.wrap .i64 (p : Int) = p := wrap_nat (by omega)
    have w2 : IntKind.wrap .i64 (r : Int) = r := wrap_nat (by omega)
    have w3 : IntKind.wrap .i64 ((p : Int) + q) = ((p + q : Nat) : Int) := wrap_nat2 (by omega)
    have w4 : IntKind.wrap .i64 ((r : Int) + s) = ((r + s : Nat) : Int) := wrap_nat2 (by omega)
    generalize x.lab l = u at *
    generalize y.lab l = v at *
    generalize x.co = x at *
    generalize y.co = y at *
    refine pcalls_text C_ok Try.func63 rfl (by decide) (Nat.le_of_ble_eq_true rfl) (by decide) rfl fun ok H => ?_
    rw [Try.results63]
    have h := True.intro
    repeat' (first
     | (with_reducible first | refine goIf_b ?_ ?_ | refine goIf_n ?_ ?_ | refine goIf_d ?_ ?_ | refine goIf_split ?_ ?_ | refine goGb_b ?_ ?_ | refine goGb_n ?_ ?_ | refine goGb_d ?_ ?_ | refine goGb_split ?_ ?_ | refine goDGb_b ?_ ?_ | refine goDGb_n ?_ ?_ | refine goDGb_d ?_ ?_ | refine goDGb_split ?_ ?_) <;> intro h
     | ((first | refine goCall_norm ?_ | refine goDCall_norm ?_); simp only [AV.norm, AV.normL, W2, W2C, Go.Ab.W3, Int.reduceAdd, Int.reduceLT, Int.reduceToNat, Int.reduceBEq, Int.reduceBNe, Int.reduceLE, w1, w2, w3, w4]; first | refine goCall_p (ih1) (.inl rfl) ?_ | refine goCall_p (ih2) (.inl rfl) ?_ | refine goDCall_p (ih1) (.inl rfl) ?_ | refine goDCall_p (ih2) (.inl rfl) ?_)
     | refine go_draw (id := 1) C_ok mixed 0 Try.f63.ntmps rfl (by kernel_rfl) (by decide) ?_
     | refine goRound ?_ C_ok Try.f63.ntmps rfl (by decide)
     | skip) <;> simp only [h, ↓upd_eq, ↓envL_cons, Go.Ab.W0, Go.Ab.WD, Go.Ab.WE, if_true, if_false, reduceIte, Nat.reduceEqDiff, Nat.reduceAdd, Nat.reduceLT, Nat.reduceLeDiff, reduceCtorEq, Nat.reduceMul, implies_true, forall_eq_or_imp, forall_eq, Nat.reducePow, W1, W1C, Go.Ab.W3, Int.reduceAdd, Int.reduceLT, Int.reduceToNat, Int.reduceBEq, Int.reduceBNe, Int.reduceLE, w1, w2, w3, w4, cutNormal_normal]
    all_goals simp_all
  | pair x y ih1 ih2 =>
    intro hs
    replace ih1 := ih1 (by simp only [K.size] at hs; omega)
    replace ih2 := ih2 (by simp only [K.size] at hs; omega)
    simp only [SidesOK, K.co, K.cnt, K.lab] at ih1 ih2 ⊢
    have b1 := cnt_le n x
    have b2 := cnt_le n y
    have b3 := cnt_le (!n) x
    have b4 := cnt_le (!n) y
    simp only [K.size] at hs
    generalize x.cnt n = p at *
    generalize y.cnt n = q at *
    generalize x.cnt (!n) = r at *
    generalize y.cnt (!n) = s at *
    have w1 : IntKind.wrap .i64 (p : Int) = p := wrap_nat (by omega)
    have w2 : IntKind.wrap .i64 (r : Int) = r := wrap_nat (by omega)
    have w3 : IntKind.wrap .i64 ((p : Int) + q) = ((p + q : Nat) : Int) := wrap_nat2 (by omega)
    have w4 : IntKind.wrap .i64 ((r : Int) + s) = ((r + s : Nat) : Int) := wrap_nat2 (by omega)
    generalize x.lab l = u at *
    generalize y.lab l = v at *
    generalize x.co = x at *
    generalize y.co = y at *
    refine pcalls_text C_ok Try.func63 rfl (by decide) (Nat.le_of_ble_eq_true rfl) (by decide) rfl fun ok H => ?_
    rw [Try.results63]
    have h := True.intro
    repeat' (first
     | (with_reducible first | refine goIf_b ?_ ?_ | refine goIf_n ?_ ?_ | refine goIf_d ?_ ?_ | refine goIf_split ?_ ?_ | refine goGb_b ?_ ?_ | refine goGb_n ?_ ?_ | refine goGb_d ?_ ?_ | refine goGb_split ?_ ?_ | refine goDGb_b ?_ ?_ | refine goDGb_n ?_ ?_ | refine goDGb_d ?_ ?_ | refine goDGb_split ?_ ?_) <;> intro h
     | ((first | refine goCall_norm ?_ | refine goDCall_norm ?_); simp only [AV.norm, AV.normL, W2, W2C, Go.Ab.W3, Int.reduceAdd, Int.reduceLT, Int.reduceToNat, Int.reduceBEq, Int.reduceBNe, Int.reduceLE, w1, w2, w3, w4]; first | refine goCall_p (ih1) (.inl rfl) ?_ | refine goCall_p (ih2) (.inl rfl) ?_ | refine goDCall_p (ih1) (.inl rfl) ?_ | refine goDCall_p (ih2) (.inl rfl) ?_)
     | refine go_draw (id := 1) C_ok mixed 0 Try.f63.ntmps rfl (by kernel_rfl) (by decide) ?_
     | refine goRound ?_ C_ok Try.f63.ntmps rfl (by decide)
     | skip) <;> simp only [h, ↓upd_eq, ↓envL_cons, Go.Ab.W0, Go.Ab.WD, Go.Ab.WE, if_true, if_false, reduceIte, Nat.reduceEqDiff, Nat.reduceAdd, Nat.reduceLT, Nat.reduceLeDiff, reduceCtorEq, Nat.reduceMul, implies_true, forall_eq_or_imp, forall_eq, Nat.reducePow, W1, W1C, Go.Ab.W3, Int.reduceAdd, Int.reduceLT, Int.reduceToNat, Int.reduceBEq, Int.reduceBNe, Int.reduceLE, w1, w2, w3, w4, cutNormal_normal]
    all_goals simp_all
  | list x ih1 =>
    intro hs
    replace ih1 := ih1 (by simp only [K.size] at hs; omega)
    simp only [SidesOK, K.co, K.cnt, K.lab] at ih1 ⊢
    have b1 := cnt_le n x
    have b3 := cnt_le (!n) x
    simp only [K.size] at hs
    generalize x.cnt n = p at *
    generalize x.cnt (!n) = r at *
    have w1 : IntKind.wrap .i64 (p : Int) = p := wrap_nat (by omega)
    have w2 : IntKind.wrap .i64 (r : Int) = r := wrap_nat (by omega)
    generalize x.lab l = u at *
    generalize x.co = x at *
    refine pcalls_text C_ok Try.func63 rfl (by decide) (Nat.le_of_ble_eq_true rfl) (by decide) rfl fun ok H => ?_
    rw [Try.results63]
    have h := True.intro
    repeat' (first
     | (with_reducible first | refine goIf_b ?_ ?_ | refine goIf_n ?_ ?_ | refine goIf_d ?_ ?_ | refine goIf_split ?_ ?_ | refine goGb_b ?_ ?_ | refine goGb_n ?_ ?_ | refine goGb_d ?_ ?_ | refine goGb_split ?_ ?_ | refine goDGb_b ?_ ?_ | refine goDGb_n ?_ ?_ | refine goDGb_d ?_ ?_ | refine goDGb_split ?_ ?_) <;> intro h
     | ((first | refine goCall_norm ?_ | refine goDCall_norm ?_); simp only [AV.norm, AV.normL, W2, W2C, Go.Ab.W3, Int.reduceAdd, Int.reduceLT, Int.reduceToNat, Int.reduceBEq, Int.reduceBNe, Int.reduceLE, w1, w2]; first | refine goCall_p (ih1) (.inl rfl) ?_ | refine goDCall_p (ih1) (.inl rfl) ?_)
     | refine go_draw (id := 1) C_ok mixed 0 Try.f63.ntmps rfl (by kernel_rfl) (by decide) ?_
     | refine goRound ?_ C_ok Try.f63.ntmps rfl (by decide)
     | skip) <;> simp only [h, ↓upd_eq, ↓envL_cons, Go.Ab.W0, Go.Ab.WD, Go.Ab.WE, if_true, if_false, reduceIte, Nat.reduceEqDiff, Nat.reduceAdd, Nat.reduceLT, Nat.reduceLeDiff, reduceCtorEq, Nat.reduceMul, implies_true, forall_eq_or_imp, forall_eq, Nat.reducePow, W1, W1C, Go.Ab.W3, Int.reduceAdd, Int.reduceLT, Int.reduceToNat, Int.reduceBEq, Int.reduceBNe, Int.reduceLE, w1, w2, cutNormal_normal]
  | inj h x ih1 =>
    intro hs
    replace ih1 := ih1 (by simp only [K.size] at hs; omega)
    simp only [SidesOK, K.co, K.cnt, K.lab] at ih1 ⊢
    have b1 := cnt_le n x
    have b3 := cnt_le (!n) x
    simp only [K.size] at hs
    generalize x.cnt n = p at *
    generalize x.cnt (!n) = r at *
    have w1 : IntKind.wrap .i64 (p : Int) = p := wrap_nat (by omega)
    have w2 : IntKind.wrap .i64 (r : Int) = r := wrap_nat (by omega)
    generalize x.lab l = u at *
    generalize x.co = x at *
    refine pcalls_text C_ok Try.func63 rfl (by decide) (Nat.le_of_ble_eq_true rfl) (by decide) rfl fun ok H => ?_
    rw [Try.results63]
    have h := True.intro
    repeat' (first
     | (with_reducible first | refine goIf_b ?_ ?_ | refine goIf_n ?_ ?_ | refine goIf_d ?_ ?_ | refine goIf_split ?_ ?_ | refine goGb_b ?_ ?_ | refine goGb_n ?_ ?_ | refine goGb_d ?_ ?_ | refine goGb_split ?_ ?_ | refine goDGb_b ?_ ?_ | refine goDGb_n ?_ ?_ | refine goDGb_d ?_ ?_ | refine goDGb_split ?_ ?_) <;> intro h
     | ((first | refine goCall_norm ?_ | refine goDCall_norm ?_); simp only [AV.norm, AV.normL, W2, W2C, Go.Ab.W3, Int.reduceAdd, Int.reduceLT, Int.reduceToNat, Int.reduceBEq, Int.reduceBNe, Int.reduceLE, w1, w2]; first | refine goCall_p (ih1) (.inl rfl) ?_ | refine goDCall_p (ih1) (.inl rfl) ?_)
     | refine go_draw (id := 1) C_ok mixed 0 Try.f63.ntmps rfl (by kernel_rfl) (by decide) ?_
     | refine goRound ?_ C_ok Try.f63.ntmps rfl (by decide)
     | skip) <;> simp only [h, ↓upd_eq, ↓envL_cons, Go.Ab.W0, Go.Ab.WD, Go.Ab.WE, if_true, if_false, reduceIte, Nat.reduceEqDiff, Nat.reduceAdd, Nat.reduceLT, Nat.reduceLeDiff, reduceCtorEq, Nat.reduceMul, implies_true, forall_eq_or_imp, forall_eq, Nat.reducePow, W1, W1C, Go.Ab.W3, Int.reduceAdd, Int.reduceLT, Int.reduceToNat, Int.reduceBEq, Int.reduceBNe, Int.reduceLE, w1, w2, cutNormal_normal]
  | proj h l' n' x ih1 =>
    intro hs
    replace ih1 := ih1 (by simp only [K.size] at hs; omega)
    simp only [SidesOK, K.co, K.cnt, K.lab] at ih1 ⊢
    have b1 := cnt_le n x
    have b3 := cnt_le (!n) x
    simp only [K.size] at hs
    generalize x.cnt n = p at *
    generalize x.cnt (!n) = r at *
    have w1 : IntKind.wrap .i64 (p : Int) = p := wrap_nat (by omega)
    have w2 : IntKind.wrap .i64 (r : Int) = r := wrap_nat (by omega)
    have w3 : IntKind.wrap .i64 (1 + (p : Int)) = ((1 + p : Nat) : Int) := by have := wrap_nat (n := 1 + p) (by omega); push_cast at this ⊢; exact this
    have w4 : IntKind.wrap .i64 (1 + (r : Int)) = ((1 + r : Nat) : Int) := by have := wrap_nat (n := 1 + r) (by omega); push_cast at this ⊢; exact this
    generalize x.lab l = u at *
    generalize x.co = x at *
    have hd : (l' == l) = decide (l' = l) := rfl
    by_cases hn : n' = n
    · subst hn
      have e1 : (if n' = n' then 1 else 0) + p = 1 + p := by rw [if_pos rfl]
      have e2 : (if n' = !n' then 1 else 0) + r = r := by rw [if_neg (by cases n' <;> decide), Nat.zero_add]
      rw [e1, e2, ← hd]
      refine pcalls_text C_ok Try.func63 rfl (by decide) (Nat.le_of_ble_eq_true rfl) (by decide) rfl fun ok H => ?_
      rw [Try.results63]
      have h := True.intro
      repeat' (first
       | (with_reducible first | refine goIf_b ?_ ?_ | refine goIf_n ?_ ?_ | refine goIf_d ?_ ?_ | refine goIf_split ?_ ?_ | refine goGb_b ?_ ?_ | refine goGb_n ?_ ?_ | refine goGb_d ?_ ?_ | refine goGb_split ?_ ?_ | refine goDGb_b ?_ ?_ | refine goDGb_n ?_ ?_ | refine goDGb_d ?_ ?_ | refine goDGb_split ?_ ?_) <;> intro h
       | ((first | refine goCall_norm ?_ | refine goDCall_norm ?_); simp only [AV.norm, AV.normL, W2, W2C, Go.Ab.W3, Int.reduceAdd, Int.reduceLT, Int.reduceToNat, Int.reduceBEq, Int.reduceBNe, Int.reduceLE, w1, w2, w3, w4, beq_self_eq_true]; first | refine goCall_p (ih1) (.inl rfl) ?_ | refine goDCall_p (ih1) (.inl rfl) ?_)
       | refine go_draw (id := 1) C_ok mixed 0 Try.f63.ntmps rfl (by kernel_rfl) (by decide) ?_
       | refine goRound ?_ C_ok Try.f63.ntmps rfl (by decide)
       | skip) <;> simp only [h, ↓upd_eq, ↓envL_cons, Go.Ab.W0, Go.Ab.WD, Go.Ab.WE, if_true, if_false, reduceIte, Nat.reduceEqDiff, Nat.reduceAdd, Nat.reduceLT, Nat.reduceLeDiff, reduceCtorEq, Nat.reduceMul, implies_true, forall_eq_or_imp, forall_eq, Nat.reducePow, W1, W1C, Go.Ab.W3, Int.reduceAdd, Int.reduceLT, Int.reduceToNat, Int.reduceBEq, Int.reduceBNe, Int.reduceLE, w1, w2, w3, w4, beq_self_eq_true, cutNormal_normal]
      all_goals simp_all
    · have e1 : (if n' = n then 1 else 0) + p = p := by rw [if_neg hn, Nat.zero_add]
      have e2 : (if n' = !n then 1 else 0) + r = 1 + r := by rw [if_pos (by cases n' <;> cases n <;> simp_all)]
      have e3 : (n' == n) = false := by cases n' <;> cases n <;> simp_all
      rw [e1, e2, ← hd]
      refine pcalls_text C_ok Try.func63 rfl (by decide) (Nat.le_of_ble_eq_true rfl) (by decide) rfl fun ok H => ?_
      rw [Try.results63]
      have h := True.intro
      repeat' (first
       | (with_reducible first | refine goIf_b ?_ ?_ | refine goIf_n ?_ ?_ | refine goIf_d ?_ ?_ | refine goIf_split ?_ ?_ | refine goGb_b ?_ ?_ | refine goGb_n ?_ ?_ | refine goGb_d ?_ ?_ | refine goGb_split ?_ ?_ | refine goDGb_b ?_ ?_ | refine goDGb_n ?_ ?_ | refine goDGb_d ?_ ?_ | refine goDGb_split ?_ ?_) <;> intro h
       | ((first | refine goCall_norm ?_ | refine goDCall_norm ?_); simp only [AV.norm, AV.normL, W2, W2C, Go.Ab.W3, Int.reduceAdd, Int.reduceLT, Int.reduceToNat, Int.reduceBEq, Int.reduceBNe, Int.reduceLE, w1, w2, w3, w4, e3]; first | refine goCall_p (ih1) (.inl rfl) ?_ | refine goDCall_p (ih1) (.inl rfl) ?_)
       | refine go_draw (id := 1) C_ok mixed 0 Try.f63.ntmps rfl (by kernel_rfl) (by decide) ?_
       | refine goRound ?_ C_ok Try.f63.ntmps rfl (by decide)
       | skip) <;> simp only [h, ↓upd_eq, ↓envL_cons, Go.Ab.W0, Go.Ab.WD, Go.Ab.WE, if_true, if_false, reduceIte, Nat.reduceEqDiff, Nat.reduceAdd, Nat.reduceLT, Nat.reduceLeDiff, reduceCtorEq, Nat.reduceMul, implies_true, forall_eq_or_imp, forall_eq, Nat.reducePow, W1, W1C, Go.Ab.W3, Int.reduceAdd, Int.reduceLT, Int.reduceToNat, Int.reduceBEq, Int.reduceBNe, Int.reduceLE, w1, w2, w3, w4, e3, cutNormal_normal]
      all_goals simp_all

end Go.Proofs.Ytajdipeebpmifaa
end

section
/- Walks: is it a former of these? No condition. -/
set_option linter.unusedSimpArgs false
set_option linter.unusedVariables false
set_option maxHeartbeats 4000000
set_option maxRecDepth 100000
namespace Go.Proofs.Ytajdipeebpmifaa
open Go Go.Ab
attribute [local irreducible] PCalls ACalls CallK GoCall GoDCall GoIf GoGb GoDGb GoO GoD GoX GoDX GoG GoDG GoGv GoDGv Go ALoop

theorem of2_id (x y : Co) (kd : Int) (h1 : (x.kind == 1) = true) (h2 : (y.kind == 1) = true) : PCalls Try.prog 59 [embC (.mk 1 0 0 false []), .int .i64 kd, .sl [embC x, embC y] .no] (.bool true) := by
  refine pcalls_text C_ok Try.func59 rfl (by decide) (Nat.le_of_ble_eq_true rfl) (by decide) rfl fun ok H => ?_
  rw [Try.results59]
  have h := True.intro
  repeat' (first
   | (with_reducible first | refine goIf_b ?_ ?_ | refine goIf_n ?_ ?_ | refine goIf_d ?_ ?_ | refine goIf_split ?_ ?_ | refine goGb_b ?_ ?_ | refine goGb_n ?_ ?_ | refine goGb_d ?_ ?_ | refine goGb_split ?_ ?_ | refine goDGb_b ?_ ?_ | refine goDGb_n ?_ ?_ | refine goDGb_d ?_ ?_ | refine goDGb_split ?_ ?_) <;> intro h
   | refine go_draw (id := 13) C_ok mixed 0 Try.f59.ntmps rfl (by kernel_rfl) (by decide) ?_
   | refine goRound ?_ C_ok Try.f59.ntmps rfl (by decide)
   | skip) <;> simp only [h, ↓upd_eq, ↓envL_cons, Go.Ab.W0, Go.Ab.WD, Go.Ab.WE, if_true, if_false, reduceIte, Nat.reduceEqDiff, Nat.reduceAdd, Nat.reduceLT, Nat.reduceLeDiff, reduceCtorEq, Nat.reduceMul, implies_true, forall_eq_or_imp, forall_eq, Nat.reducePow, W1, W1C, Go.Ab.W3, Int.reduceAdd, Int.reduceLT, Int.reduceToNat, Int.reduceBEq, Int.reduceBNe, Int.reduceLE, h1, h2, cutNormal_normal]
theorem of2_no (x y : Co) (kd : Int) (h : ((x.kind == 1) && (y.kind == 1)) = false) : PCalls Try.prog 59 [embC (.mk kd 0 0 false [x, y]), .int .i64 kd, .sl [embC x, embC y] .no] (.bool true) := by
  have s1 := sameC_refl x
  have s2 := sameC_refl y
  cases h1 : (x.kind == 1) with
  | false =>
    refine pcalls_text C_ok Try.func59 rfl (by decide) (Nat.le_of_ble_eq_true rfl) (by decide) rfl fun ok H => ?_
    rw [Try.results59]
    have h := True.intro
    repeat' (first
     | (with_reducible first | refine goIf_b ?_ ?_ | refine goIf_n ?_ ?_ | refine goIf_d ?_ ?_ | refine goIf_split ?_ ?_ | refine goGb_b ?_ ?_ | refine goGb_n ?_ ?_ | refine goGb_d ?_ ?_ | refine goGb_split ?_ ?_ | refine goDGb_b ?_ ?_ | refine goDGb_n ?_ ?_ | refine goDGb_d ?_ ?_ | refine goDGb_split ?_ ?_) <;> intro h
     | ((first | refine goCall_norm ?_ | refine goDCall_norm ?_); simp only [AV.norm, AV.normL, W2, W2C, Go.Ab.W3, Int.reduceAdd, Int.reduceLT, Int.reduceToNat, Int.reduceBEq, Int.reduceBNe, Int.reduceLE, h1, s1, s2, bne_self_eq_false]; first | refine goCall_p (sameC_ok _ _) (.inl rfl) ?_ | refine goDCall_p (sameC_ok _ _) (.inl rfl) ?_)
     | refine go_draw (id := 13) C_ok mixed 0 Try.f59.ntmps rfl (by kernel_rfl) (by decide) ?_
     | refine goRound ?_ C_ok Try.f59.ntmps rfl (by decide)
     | skip) <;> simp only [h, ↓upd_eq, ↓envL_cons, Go.Ab.W0, Go.Ab.WD, Go.Ab.WE, if_true, if_false, reduceIte, Nat.reduceEqDiff, Nat.reduceAdd, Nat.reduceLT, Nat.reduceLeDiff, reduceCtorEq, Nat.reduceMul, implies_true, forall_eq_or_imp, forall_eq, Nat.reducePow, W1, W1C, Go.Ab.W3, Int.reduceAdd, Int.reduceLT, Int.reduceToNat, Int.reduceBEq, Int.reduceBNe, Int.reduceLE, h1, s1, s2, bne_self_eq_false, cutNormal_normal]
  | true =>
    have h2 : (y.kind == 1) = false := by rw [h1] at h; simpa using h
    refine pcalls_text C_ok Try.func59 rfl (by decide) (Nat.le_of_ble_eq_true rfl) (by decide) rfl fun ok H => ?_
    rw [Try.results59]
    have h := True.intro
    repeat' (first
     | (with_reducible first | refine goIf_b ?_ ?_ | refine goIf_n ?_ ?_ | refine goIf_d ?_ ?_ | refine goIf_split ?_ ?_ | refine goGb_b ?_ ?_ | refine goGb_n ?_ ?_ | refine goGb_d ?_ ?_ | refine goGb_split ?_ ?_ | refine goDGb_b ?_ ?_ | refine goDGb_n ?_ ?_ | refine goDGb_d ?_ ?_ | refine goDGb_split ?_ ?_) <;> intro h
     | ((first | refine goCall_norm ?_ | refine goDCall_norm ?_); simp only [AV.norm, AV.normL, W2, W2C, Go.Ab.W3, Int.reduceAdd, Int.reduceLT, Int.reduceToNat, Int.reduceBEq, Int.reduceBNe, Int.reduceLE, h1, h2, s1, s2, bne_self_eq_false]; first | refine goCall_p (sameC_ok _ _) (.inl rfl) ?_ | refine goDCall_p (sameC_ok _ _) (.inl rfl) ?_)
     | refine go_draw (id := 13) C_ok mixed 0 Try.f59.ntmps rfl (by kernel_rfl) (by decide) ?_
     | refine goRound ?_ C_ok Try.f59.ntmps rfl (by decide)
     | skip) <;> simp only [h, ↓upd_eq, ↓envL_cons, Go.Ab.W0, Go.Ab.WD, Go.Ab.WE, if_true, if_false, reduceIte, Nat.reduceEqDiff, Nat.reduceAdd, Nat.reduceLT, Nat.reduceLeDiff, reduceCtorEq, Nat.reduceMul, implies_true, forall_eq_or_imp, forall_eq, Nat.reducePow, W1, W1C, Go.Ab.W3, Int.reduceAdd, Int.reduceLT, Int.reduceToNat, Int.reduceBEq, Int.reduceBNe, Int.reduceLE, h1, h2, s1, s2, bne_self_eq_false, cutNormal_normal]
theorem of1_id (x : Co) (kd : Int) (h1 : (x.kind == 1) = true) : PCalls Try.prog 59 [embC (.mk 1 0 0 false []), .int .i64 kd, .sl [embC x] .no] (.bool true) := by
  refine pcalls_text C_ok Try.func59 rfl (by decide) (Nat.le_of_ble_eq_true rfl) (by decide) rfl fun ok H => ?_
  rw [Try.results59]
  have h := True.intro
  repeat' (first
   | (with_reducible first | refine goIf_b ?_ ?_ | refine goIf_n ?_ ?_ | refine goIf_d ?_ ?_ | refine goIf_split ?_ ?_ | refine goGb_b ?_ ?_ | refine goGb_n ?_ ?_ | refine goGb_d ?_ ?_ | refine goGb_split ?_ ?_ | refine goDGb_b ?_ ?_ | refine goDGb_n ?_ ?_ | refine goDGb_d ?_ ?_ | refine goDGb_split ?_ ?_) <;> intro h
   | refine go_draw (id := 13) C_ok mixed 0 Try.f59.ntmps rfl (by kernel_rfl) (by decide) ?_
   | refine goRound ?_ C_ok Try.f59.ntmps rfl (by decide)
   | skip) <;> simp only [h, ↓upd_eq, ↓envL_cons, Go.Ab.W0, Go.Ab.WD, Go.Ab.WE, if_true, if_false, reduceIte, Nat.reduceEqDiff, Nat.reduceAdd, Nat.reduceLT, Nat.reduceLeDiff, reduceCtorEq, Nat.reduceMul, implies_true, forall_eq_or_imp, forall_eq, Nat.reducePow, W1, W1C, Go.Ab.W3, Int.reduceAdd, Int.reduceLT, Int.reduceToNat, Int.reduceBEq, Int.reduceBNe, Int.reduceLE, h1, cutNormal_normal]
theorem of1_no (x : Co) (kd : Int) (h1 : (x.kind == 1) = false) : PCalls Try.prog 59 [embC (.mk kd 0 0 false [x]), .int .i64 kd, .sl [embC x] .no] (.bool true) := by
  have s1 := sameC_refl x
  refine pcalls_text C_ok Try.func59 rfl (by decide) (Nat.le_of_ble_eq_true rfl) (by decide) rfl fun ok H => ?_
  rw [Try.results59]
  have h := True.intro
  repeat' (first
   | (with_reducible first | refine goIf_b ?_ ?_ | refine goIf_n ?_ ?_ | refine goIf_d ?_ ?_ | refine goIf_split ?_ ?_ | refine goGb_b ?_ ?_ | refine goGb_n ?_ ?_ | refine goGb_d ?_ ?_ | refine goGb_split ?_ ?_ | refine goDGb_b ?_ ?_ | refine goDGb_n ?_ ?_ | refine goDGb_d ?_ ?_ | refine goDGb_split ?_ ?_) <;> intro h
   | ((first | refine goCall_norm ?_ | refine goDCall_norm ?_); simp only [AV.norm, AV.normL, W2, W2C, Go.Ab.W3, Int.reduceAdd, Int.reduceLT, Int.reduceToNat, Int.reduceBEq, Int.reduceBNe, Int.reduceLE, h1, s1, bne_self_eq_false]; first | refine goCall_p (sameC_ok _ _) (.inl rfl) ?_ | refine goDCall_p (sameC_ok _ _) (.inl rfl) ?_)
   | refine go_draw (id := 13) C_ok mixed 0 Try.f59.ntmps rfl (by kernel_rfl) (by decide) ?_
   | refine goRound ?_ C_ok Try.f59.ntmps rfl (by decide)
   | skip) <;> simp only [h, ↓upd_eq, ↓envL_cons, Go.Ab.W0, Go.Ab.WD, Go.Ab.WE, if_true, if_false, reduceIte, Nat.reduceEqDiff, Nat.reduceAdd, Nat.reduceLT, Nat.reduceLeDiff, reduceCtorEq, Nat.reduceMul, implies_true, forall_eq_or_imp, forall_eq, Nat.reducePow, W1, W1C, Go.Ab.W3, Int.reduceAdd, Int.reduceLT, Int.reduceToNat, Int.reduceBEq, Int.reduceBNe, Int.reduceLE, h1, s1, bne_self_eq_false, cutNormal_normal]

theorem kindb (k : K) : (k.co.kind == 1) = k.isId := by rw [← K.kind_id]; rfl
theorem of_pair (x y : K) : PCalls Try.prog 59 [embC (mkPair x y).co, .int .i64 3, .sl [embC x.co, embC y.co] .no] (.bool true) := by
  cases h : (x.isId && y.isId) with
  | true =>
    rw [mkPair_pos h]; simp only [Bool.and_eq_true] at h
    exact of2_id _ _ 3 (by rw [kindb]; exact h.1) (by rw [kindb]; exact h.2)
  | false =>
    rw [mkPair_neg (by rw [h]; decide)]
    exact of2_no _ _ 3 (by rw [kindb, kindb]; exact h)
theorem of_fun (x y : K) : PCalls Try.prog 59 [embC (mkFn x y).co, .int .i64 2, .sl [embC x.co, embC y.co] .no] (.bool true) := by
  cases h : (x.isId && y.isId) with
  | true =>
    rw [mkFn_pos h]; simp only [Bool.and_eq_true] at h
    exact of2_id _ _ 2 (by rw [kindb]; exact h.1) (by rw [kindb]; exact h.2)
  | false =>
    rw [mkFn_neg (by rw [h]; decide)]
    exact of2_no _ _ 2 (by rw [kindb, kindb]; exact h)
theorem of_list (x : K) : PCalls Try.prog 59 [embC (mkList x).co, .int .i64 4, .sl [embC x.co] .no] (.bool true) := by
  cases h : x.isId with
  | true => rw [mkList_pos h]; exact of1_id _ 4 (by rw [kindb]; exact h)
  | false => rw [mkList_neg (by rw [h]; decide)]; exact of1_no _ 4 (by rw [kindb]; exact h)

end Go.Proofs.Ytajdipeebpmifaa
end

