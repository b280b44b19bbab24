/- Walks: what is put into a store: how much that makes. No condition. -/
import Derived.Test.YtdngjamjccjlmaaW13
import Derived.Test.YtdngjamjccjlmaaPFa
set_option linter.unusedSimpArgs false
set_option linter.unusedVariables false
set_option maxHeartbeats 4000000
set_option maxRecDepth 100000
namespace Go.Proofs.Ytdngjamjccjlmaa
open Go Go.Ab
open Nat renaming reduceEqDiff → yA, reduceAdd → yB, reduceLT → yC, reduceLeDiff → yD, reduceMul → yE, reducePow → yF, reduceBEq → yG
open Int renaming reduceAdd → yH, reduceLT → yI, reduceToNat → yJ, reduceBEq → yK, reduceBNe → yL, reduceLE → yM
attribute [local irreducible] PCalls ACalls CallK GoCall GoDCall GoIf GoGb GoDGb GoO GoD GoX GoDX GoG GoDG GoGv GoDGv Go ALoop

theorem wrapN {a : Nat} {x : Int} (h : x = a) (ha : a ≤ 9000000) : IntKind.wrap .i64 x = (a : Int) := by rw [h]; exact wrap_i (by omega) (by omega)
theorem made_leaf0 (k n m : Int) : PCalls Try.prog 96 [emb (.mk k n []), .int .i64 m] (.int .i64 0) := by
  refine pcalls_text C_ok Try.func96 rfl (by decide) (Nat.le_of_ble_eq_true rfl) (by decide) rfl fun ok H => ?_
  rw [Try.results96]
  have h := True.intro
  repeat' (first
   | (with_reducible first | apply bA | apply bB | apply bC | apply bD | apply bE | apply bF) <;> intro h
   | refine goRound ?_ C_ok Try.f96.ntmps rfl (by decide)
   | skip) <;> simp only [h, ↓upd_eq, ↓envL_cons, WZ, reduceIte, yA, yB, yC, yD, reduceCtorEq, yE, yF, W1, W3, yH, yI, yJ, yK, yL, yM, cutNormal_normal]
theorem made_no2 (k n : Int) (x y : Ty) {m : Int} (h : m < 1) : PCalls Try.prog 96 [emb (.mk k n [x, y]), .int .i64 m] (.int .i64 1) := by
  refine pcalls_text C_ok Try.func96 rfl (by decide) (Nat.le_of_ble_eq_true rfl) (by decide) rfl fun ok H => ?_
  rw [Try.results96]
  repeat' first
   | (with_reducible first | apply bA | apply bB | apply bC | apply bD | apply bE | apply bF) <;> intro h <;> try simp only [h, ↓upd_eq, ↓envL_cons, WZ, reduceIte, yA, yB, yC, yD, reduceCtorEq, yE, yF, W1, W3, yH, yI, yJ, yK, yL, yM, h, cutNormal_normal]
   | refine goRound ?_ C_ok Try.f96.ntmps rfl (by decide)
   | simp only [↓upd_eq, ↓envL_cons, WZ, reduceIte, yA, yB, yC, yD, reduceCtorEq, yE, yF, W1, W3, yH, yI, yJ, yK, yL, yM, h, cutNormal_normal]
theorem made_no1 (k n : Int) (x : Ty) {m : Int} (h : m < 1) : PCalls Try.prog 96 [emb (.mk k n [x]), .int .i64 m] (.int .i64 1) := by
  refine pcalls_text C_ok Try.func96 rfl (by decide) (Nat.le_of_ble_eq_true rfl) (by decide) rfl fun ok H => ?_
  rw [Try.results96]
  repeat' first
   | (with_reducible first | apply bA | apply bB | apply bC | apply bD | apply bE | apply bF) <;> intro h <;> try simp only [h, ↓upd_eq, ↓envL_cons, WZ, reduceIte, yA, yB, yC, yD, reduceCtorEq, yE, yF, W1, W3, yH, yI, yJ, yK, yL, yM, h, cutNormal_normal]
   | refine goRound ?_ C_ok Try.f96.ntmps rfl (by decide)
   | simp only [↓upd_eq, ↓envL_cons, WZ, reduceIte, yA, yB, yC, yD, reduceCtorEq, yE, yF, W1, W3, yH, yI, yJ, yK, yL, yM, h, cutNormal_normal]
theorem made_one {x : Ty} {a m m1 : Int} (k n : Int) (h : ¬ m < 1) (e1 : IntKind.wrap .i64 (m - 1) = m1) (ha : 0 ≤ a ∧ a ≤ 1000000) (i1 : PCalls Try.prog 96 [emb x, .int .i64 m1] (.int .i64 a)) :
    PCalls Try.prog 96 [emb (.mk k n [x]), .int .i64 m] (.int .i64 (1 + a)) := by
  have w1 : IntKind.wrap .i64 (1 + a) = 1 + a := wrap_i (by omega) (by omega)
  refine pcalls_text C_ok Try.func96 rfl (by decide) (Nat.le_of_ble_eq_true rfl) (by decide) rfl fun ok H => ?_
  rw [Try.results96]
  repeat' first
   | (with_reducible first | apply bA | apply bB | apply bC | apply bD | apply bE | apply bF) <;> intro h <;> try simp only [h, ↓upd_eq, ↓envL_cons, WZ, reduceIte, yA, yB, yC, yD, reduceCtorEq, yE, yF, W1, W3, yH, yI, yJ, yK, yL, yM, h, e1, w1, cutNormal_normal]
   | ((first | apply bG | apply bH); simp only [AV.norm, AV.normL, W2, W3, yH, yI, yJ, yK, yL, yM, h, e1, w1]; first | refine goCall_p (i1) (.inl rfl) ?_ | refine goDCall_p (i1) (.inl rfl) ?_)
   | refine goRound ?_ C_ok Try.f96.ntmps rfl (by decide)
   | simp only [↓upd_eq, ↓envL_cons, WZ, reduceIte, yA, yB, yC, yD, reduceCtorEq, yE, yF, W1, W3, yH, yI, yJ, yK, yL, yM, h, e1, w1, cutNormal_normal]
theorem made_half {x y : Ty} {a m m1 : Int} (k n : Int) (h : ¬ m < 1) (e1 : IntKind.wrap .i64 (m - 1) = m1) (ha : 0 ≤ a ∧ a ≤ 1000000) (i1 : PCalls Try.prog 96 [emb x, .int .i64 m1] (.int .i64 a)) (h2 : m < 1 + a) :
    PCalls Try.prog 96 [emb (.mk k n [x, y]), .int .i64 m] (.int .i64 (1 + a)) := by
  have w1 : IntKind.wrap .i64 (1 + a) = 1 + a := wrap_i (by omega) (by omega)
  refine pcalls_text C_ok Try.func96 rfl (by decide) (Nat.le_of_ble_eq_true rfl) (by decide) rfl fun ok H => ?_
  rw [Try.results96]
  repeat' first
   | (with_reducible first | apply bA | apply bB | apply bC | apply bD | apply bE | apply bF) <;> intro h <;> try simp only [h, ↓upd_eq, ↓envL_cons, WZ, reduceIte, yA, yB, yC, yD, reduceCtorEq, yE, yF, W1, W3, yH, yI, yJ, yK, yL, yM, h, e1, w1, h2, cutNormal_normal]
   | ((first | apply bG | apply bH); simp only [AV.norm, AV.normL, W2, W3, yH, yI, yJ, yK, yL, yM, h, e1, w1, h2]; first | refine goCall_p (i1) (.inl rfl) ?_ | refine goDCall_p (i1) (.inl rfl) ?_)
   | refine goRound ?_ C_ok Try.f96.ntmps rfl (by decide)
   | simp only [↓upd_eq, ↓envL_cons, WZ, reduceIte, yA, yB, yC, yD, reduceCtorEq, yE, yF, W1, W3, yH, yI, yJ, yK, yL, yM, h, e1, w1, h2, cutNormal_normal]
theorem made_two {x y : Ty} {a b m m1 m2 : Int} (k n : Int) (h : ¬ m < 1) (e1 : IntKind.wrap .i64 (m - 1) = m1) (ha : 0 ≤ a ∧ a ≤ 1000000) (i1 : PCalls Try.prog 96 [emb x, .int .i64 m1] (.int .i64 a)) (h2 : ¬ m < 1 + a)
    (e2 : IntKind.wrap .i64 (m - (1 + a)) = m2) (hb : 0 ≤ b ∧ b ≤ 1000000) (i2 : PCalls Try.prog 96 [emb y, .int .i64 m2] (.int .i64 b)) :
    PCalls Try.prog 96 [emb (.mk k n [x, y]), .int .i64 m] (.int .i64 (1 + a + b)) := by
  have w1 : IntKind.wrap .i64 (1 + a) = 1 + a := wrap_i (by omega) (by omega)
  have w2 : IntKind.wrap .i64 (1 + a + b) = 1 + a + b := wrap_i (by omega) (by omega)
  refine pcalls_text C_ok Try.func96 rfl (by decide) (Nat.le_of_ble_eq_true rfl) (by decide) rfl fun ok H => ?_
  rw [Try.results96]
  repeat' first
   | (with_reducible first | apply bA | apply bB | apply bC | apply bD | apply bE | apply bF) <;> intro h <;> try simp only [h, ↓upd_eq, ↓envL_cons, WZ, reduceIte, yA, yB, yC, yD, reduceCtorEq, yE, yF, W1, W3, yH, yI, yJ, yK, yL, yM, h, e1, w1, h2, e2, w2, cutNormal_normal]
   | ((first | apply bG | apply bH); simp only [AV.norm, AV.normL, W2, W3, yH, yI, yJ, yK, yL, yM, h, e1, w1, h2, e2, w2]; first | refine goCall_p (i1) (.inl rfl) ?_ | refine goCall_p (i2) (.inl rfl) ?_ | refine goDCall_p (i1) (.inl rfl) ?_ | refine goDCall_p (i2) (.inl rfl) ?_)
   | refine goRound ?_ C_ok Try.f96.ntmps rfl (by decide)
   | simp only [↓upd_eq, ↓envL_cons, WZ, reduceIte, yA, yB, yC, yD, reduceCtorEq, yE, yF, W1, W3, yH, yI, yJ, yK, yL, yM, h, e1, w1, h2, e2, w2, cutNormal_normal]
theorem made_pf {x y : T} {t : T} (k n : Int) (ht : t.ty = .mk k n [x.ty, y.ty]) (hi : t.inner = x.inner + y.inner + 1) (hd : ∀ m, madeC t m = if m < 1 then 1 else let n := 1 + madeC x (m - 1); if m < n then n else n + madeC y (m - n))
    (ih1 : ∀ m : Nat, x.inner ≤ 1000000 → m ≤ 1000000 → PCalls Try.prog 96 [emb x.ty, .int .i64 m] (.int .i64 (madeC x m))) (ih2 : ∀ m : Nat, y.inner ≤ 1000000 → m ≤ 1000000 → PCalls Try.prog 96 [emb y.ty, .int .i64 m] (.int .i64 (madeC y m)))
    (m : Nat) (h : t.inner ≤ 1000000) (hm : m ≤ 1000000) : PCalls Try.prog 96 [emb t.ty, .int .i64 m] (.int .i64 (madeC t m)) := by
  have g1 := madeC_ok x (m - 1)
  have g2 := madeC_ok y (m - (1 + madeC x (m - 1)))
  rw [ht, hd]
  by_cases h1 : m < 1
  · rw [if_pos h1]; exact made_no2 _ _ _ _ (by omega)
  · rw [if_neg h1]
    simp only
    have i1 := ih1 (m - 1) (by omega) (by omega)
    have e1 : IntKind.wrap .i64 ((m : Int) - 1) = ((m - 1 : Nat) : Int) := wrapN (by omega) (by omega)
    by_cases h2 : m < 1 + madeC x (m - 1)
    · rw [if_pos h2]
      have := made_half (x := x.ty) (y := y.ty) k n (by omega) e1 (by omega) i1 (by omega)
      rw [show ((1 + madeC x (m - 1) : Nat) : Int) = 1 + (madeC x (m - 1) : Int) by omega]; exact this
    · rw [if_neg h2]
      have i2 := ih2 (m - (1 + madeC x (m - 1))) (by omega) (by omega)
      have e2 : IntKind.wrap .i64 ((m : Int) - (1 + (madeC x (m - 1) : Int))) = ((m - (1 + madeC x (m - 1)) : Nat) : Int) := wrapN (by omega) (by omega)
      have := made_two (x := x.ty) (y := y.ty) k n (by omega) e1 (by omega) i1 (by omega) e2 (by omega) i2
      rw [show ((1 + madeC x (m - 1) + madeC y (m - (1 + madeC x (m - 1))) : Nat) : Int) = 1 + (madeC x (m - 1) : Int) + (madeC y (m - (1 + madeC x (m - 1))) : Int) by omega]; exact this
theorem made_ok : ∀ (t : T) (m : Nat), t.inner ≤ 1000000 → m ≤ 1000000 → PCalls Try.prog 96 [emb t.ty, .int .i64 m] (.int .i64 (madeC t m)) := by
  intro t
  induction t with
  | base k => intro m h hm; exact made_leaf0 _ _ _
  | dyn => intro m h hm; exact made_leaf0 _ _ _
  | var n => intro m h hm; exact made_leaf0 _ _ _
  | pair a b ih1 ih2 => exact made_pf 7 0 rfl rfl (fun m => rfl) ih1 ih2
  | fn a b ih1 ih2 => exact made_pf 9 0 rfl rfl (fun m => rfl) ih1 ih2
  | list a ih1 =>
    intro m h hm
    have g1 := madeC_ok a (m - 1)
    simp only [T.inner] at h
    simp only [madeC]
    by_cases h1 : m < 1
    · rw [if_pos h1]; exact made_no1 _ _ _ (by omega)
    · rw [if_neg h1]
      have e1 : IntKind.wrap .i64 ((m : Int) - 1) = ((m - 1 : Nat) : Int) := wrapN (by omega) (by omega)
      have := made_one (x := a.ty) 8 0 (by omega) e1 (by omega) (ih1 (m - 1) (by omega) (by omega))
      rw [show ((1 + madeC a (m - 1) : Nat) : Int) = 1 + (madeC a (m - 1) : Int) by omega]; exact this

end Go.Proofs.Ytdngjamjccjlmaa
