/- Walks: what is put into a store: how much that makes. No condition. -/
import Derived.Test.YtdngjamjccjlmaaW13
import Derived.Test.YtdngjamjccjlmaaPFa
set_option linter.unusedSimpArgs false
set_option linter.unusedVariables false
set_option maxHeartbeats 4000000
set_option maxRecDepth 100000
namespace Go.Proofs.Ytdngjamjccjlmaa
open Go Go.Ab
attribute [local irreducible] PCalls ACalls CallK GoCall GoDCall GoIf GoGb GoDGb GoO GoD GoX GoDX GoG GoDG GoGv GoDGv Go ALoop

theorem wrapN {a : Nat} {x : Int} (h : x = a) (ha : a ≤ 9000000) : IntKind.wrap .i64 x = (a : Int) := by rw [h]; exact wrap_i (by omega) (by omega)
theorem inner_leaf (k n : Int) : PCalls Try.prog 39 [emb (.mk k n [])] (.int .i64 0) := by
  refine pcalls_text C_ok Try.func39 rfl (by decide) (Nat.le_of_ble_eq_true rfl) (by decide) rfl fun ok H => ?_
  rw [Try.results39]
  have h := True.intro
  repeat' (first
   | (with_reducible first | refine goIf_b ?_ ?_ | refine goIf_n ?_ ?_ | refine goIf_d ?_ ?_ | refine goIf_split ?_ ?_ | refine goGb_b ?_ ?_ | refine goGb_n ?_ ?_ | refine goGb_d ?_ ?_ | refine goGb_split ?_ ?_ | refine goDGb_b ?_ ?_ | refine goDGb_n ?_ ?_ | refine goDGb_d ?_ ?_ | refine goDGb_split ?_ ?_) <;> intro h
   | refine goRound ?_ C_ok Try.f39.ntmps rfl (by decide)
   | skip) <;> simp only [h, ↓upd_eq, ↓envL_cons, Go.Ab.W0, Go.Ab.WD, Go.Ab.WE, if_true, if_false, reduceIte, Nat.reduceEqDiff, Nat.reduceAdd, Nat.reduceLT, Nat.reduceLeDiff, reduceCtorEq, Nat.reduceMul, implies_true, forall_eq_or_imp, forall_eq, Nat.reducePow, W1, Go.Ab.W3, Int.reduceAdd, Int.reduceLT, Int.reduceToNat, Int.reduceBEq, Int.reduceBNe, Int.reduceLE, cutNormal_normal]
theorem inner_two {x y : Ty} {a b : Nat} (k n : Int) (ha : a ≤ 1000000) (hb : b ≤ 1000000) (i1 : PCalls Try.prog 39 [emb x] (.int .i64 a)) (i2 : PCalls Try.prog 39 [emb y] (.int .i64 b)) :
    PCalls Try.prog 39 [emb (.mk k n [x, y])] (.int .i64 ((a + b + 1 : Nat) : Int)) := by
  have w1 : IntKind.wrap .i64 (1 + (a : Int)) = ((1 + a : Nat) : Int) := wrapN (by omega) (by omega)
  have w2 : IntKind.wrap .i64 (((1 + a : Nat) : Int) + (b : Int)) = ((a + b + 1 : Nat) : Int) := wrapN (by omega) (by omega)
  refine pcalls_text C_ok Try.func39 rfl (by decide) (Nat.le_of_ble_eq_true rfl) (by decide) rfl fun ok H => ?_
  rw [Try.results39]
  have h := True.intro
  repeat' (first
   | (with_reducible first | refine goIf_b ?_ ?_ | refine goIf_n ?_ ?_ | refine goIf_d ?_ ?_ | refine goIf_split ?_ ?_ | refine goGb_b ?_ ?_ | refine goGb_n ?_ ?_ | refine goGb_d ?_ ?_ | refine goGb_split ?_ ?_ | refine goDGb_b ?_ ?_ | refine goDGb_n ?_ ?_ | refine goDGb_d ?_ ?_ | refine goDGb_split ?_ ?_) <;> intro h
   | ((first | refine goCall_norm ?_ | refine goDCall_norm ?_); simp only [AV.norm, AV.normL, W2, Go.Ab.W3, Int.reduceAdd, Int.reduceLT, Int.reduceToNat, Int.reduceBEq, Int.reduceBNe, Int.reduceLE, w1, w2]; first | refine goCall_p (i1) (.inl rfl) ?_ | refine goCall_p (i2) (.inl rfl) ?_ | refine goDCall_p (i1) (.inl rfl) ?_ | refine goDCall_p (i2) (.inl rfl) ?_)
   | refine goRound ?_ C_ok Try.f39.ntmps rfl (by decide)
   | skip) <;> simp only [h, ↓upd_eq, ↓envL_cons, Go.Ab.W0, Go.Ab.WD, Go.Ab.WE, if_true, if_false, reduceIte, Nat.reduceEqDiff, Nat.reduceAdd, Nat.reduceLT, Nat.reduceLeDiff, reduceCtorEq, Nat.reduceMul, implies_true, forall_eq_or_imp, forall_eq, Nat.reducePow, W1, Go.Ab.W3, Int.reduceAdd, Int.reduceLT, Int.reduceToNat, Int.reduceBEq, Int.reduceBNe, Int.reduceLE, w1, w2, cutNormal_normal]
theorem inner_one {x : Ty} {a : Nat} (k n : Int) (ha : a ≤ 1000000) (i1 : PCalls Try.prog 39 [emb x] (.int .i64 a)) :
    PCalls Try.prog 39 [emb (.mk k n [x])] (.int .i64 ((a + 1 : Nat) : Int)) := by
  have w1 : IntKind.wrap .i64 (1 + (a : Int)) = ((a + 1 : Nat) : Int) := wrapN (by omega) (by omega)
  refine pcalls_text C_ok Try.func39 rfl (by decide) (Nat.le_of_ble_eq_true rfl) (by decide) rfl fun ok H => ?_
  rw [Try.results39]
  have h := True.intro
  repeat' (first
   | (with_reducible first | refine goIf_b ?_ ?_ | refine goIf_n ?_ ?_ | refine goIf_d ?_ ?_ | refine goIf_split ?_ ?_ | refine goGb_b ?_ ?_ | refine goGb_n ?_ ?_ | refine goGb_d ?_ ?_ | refine goGb_split ?_ ?_ | refine goDGb_b ?_ ?_ | refine goDGb_n ?_ ?_ | refine goDGb_d ?_ ?_ | refine goDGb_split ?_ ?_) <;> intro h
   | ((first | refine goCall_norm ?_ | refine goDCall_norm ?_); simp only [AV.norm, AV.normL, W2, Go.Ab.W3, Int.reduceAdd, Int.reduceLT, Int.reduceToNat, Int.reduceBEq, Int.reduceBNe, Int.reduceLE, w1]; first | refine goCall_p (i1) (.inl rfl) ?_ | refine goDCall_p (i1) (.inl rfl) ?_)
   | refine goRound ?_ C_ok Try.f39.ntmps rfl (by decide)
   | skip) <;> simp only [h, ↓upd_eq, ↓envL_cons, Go.Ab.W0, Go.Ab.WD, Go.Ab.WE, if_true, if_false, reduceIte, Nat.reduceEqDiff, Nat.reduceAdd, Nat.reduceLT, Nat.reduceLeDiff, reduceCtorEq, Nat.reduceMul, implies_true, forall_eq_or_imp, forall_eq, Nat.reducePow, W1, Go.Ab.W3, Int.reduceAdd, Int.reduceLT, Int.reduceToNat, Int.reduceBEq, Int.reduceBNe, Int.reduceLE, w1, cutNormal_normal]
theorem inner12_ok : ∀ t : T, t.inner ≤ 1000000 → PCalls Try.prog 39 [emb t.ty] (.int .i64 t.inner) := by
  intro t
  induction t with
  | base k => intro h; exact inner_leaf _ _
  | dyn => intro h; exact inner_leaf _ _
  | var n => intro h; exact inner_leaf _ _
  | pair a b ih1 ih2 => intro h; simp only [T.inner] at h; exact inner_two _ _ (by omega) (by omega) (ih1 (by omega)) (ih2 (by omega))
  | fn a b ih1 ih2 => intro h; simp only [T.inner] at h; exact inner_two _ _ (by omega) (by omega) (ih1 (by omega)) (ih2 (by omega))
  | list a ih1 => intro h; simp only [T.inner] at h; exact inner_one _ _ (by omega) (ih1 (by omega))
end Go.Proofs.Ytdngjamjccjlmaa
