/- Walks: a told value's own type, parts that become ?; plain facts. No condition. -/
import Derived.Test.YtofogicgnldfhaaPYf
import Derived.Test.YtofogicgnldfhaaPHa
import Derived.Test.YtofogicgnldfhaaPCa
import Derived.Test.YtofogicgnldfhaaPFb
set_option linter.unusedSimpArgs false
set_option linter.unusedVariables false
set_option maxHeartbeats 40000000
set_option maxRecDepth 100000
namespace Go.Proofs.Ytofogicgnldfhaa
open Go Go.Ab
open Nat (reduceEqDiff reduceAdd reduceLT reduceLeDiff reduceMul reducePow)
attribute [local irreducible] PCalls ACalls CallK GoCall GoDCall GoIf GoGb GoDGb GoO GoD GoX GoDX GoG GoDG GoGv GoDGv Go ALoop

def lesI (l : List Bool) : Nat → T → T
  | n, .pair a b => if l.getD n false = true then .dyn else .pair (lesI l (2 * n + 1) a) (lesI l (2 * n + 2) b)
  | n, .list a => if l.getD n false = true then .dyn else .list (lesI l (2 * n + 1) a)
  | n, .fn a b => if l.getD n false = true then .dyn else .fn (lesI l (2 * n + 1) a) (lesI l (2 * n + 2) b)
  | n, a => if l.getD n false = true then .dyn else a
theorem lesI_ok (l : List Bool) : ∀ (a : T) (n : Nat), (a.ok = true → (lesI l n a).ok = true) ∧ (a.closed = true → (lesI l n a).closed = true) ∧ belowT a (lesI l n a) = true := by
  intro a
  induction a with
  | pair x y ih1 ih2 =>
    intro n
    have h1 := ih1 (2 * n + 1); have h2 := ih2 (2 * n + 2)
    simp only [lesI]
    split
    · simp [T.ok, T.closed, belowT]
    · simp only [T.ok, T.closed, belowT, Bool.and_eq_true]
      exact ⟨fun h => ⟨h1.1 h.1, h2.1 h.2⟩, fun h => ⟨h1.2.1 h.1, h2.2.1 h.2⟩, h1.2.2, h2.2.2⟩
  | fn x y ih1 ih2 =>
    intro n
    have h1 := ih1 (2 * n + 1); have h2 := ih2 (2 * n + 2)
    simp only [lesI]
    split
    · simp [T.ok, T.closed, belowT]
    · simp only [T.ok, T.closed, belowT, Bool.and_eq_true]
      exact ⟨fun h => ⟨h1.1 h.1, h2.1 h.2⟩, fun h => ⟨h1.2.1 h.1, h2.2.1 h.2⟩, h1.2.2, h2.2.2⟩
  | list x ih1 =>
    intro n
    have h1 := ih1 (2 * n + 1)
    simp only [lesI]
    split
    · simp [T.ok, T.closed, belowT]
    · simp only [T.ok, T.closed, belowT]; exact h1
  | _ =>
    intro n
    simp only [lesI]
    split <;> simp [T.ok, T.closed, belowT]
theorem depthL_bnd {n : Nat} : ∀ {l : List Ty}, (∀ x ∈ l, depth x ≤ n) → depthL l ≤ n
  | [], _ => Nat.zero_le _
  | a :: l, h => by
    have h1 := h a List.mem_cons_self
    have h2 := depthL_bnd (l := l) fun x hx => h x (List.mem_cons_of_mem _ hx)
    simp only [depthL]; omega
theorem deep_of23 : ∀ {n : Nat} {t : Ty}, deepT n t = false → depth t ≤ n := by
  intro n
  induction n with
  | zero => intro t h; cases h
  | succ n ih =>
    intro t h
    simp only [deepT, Bool.not_eq_false'] at h
    rw [depth_eq]
    have : depthL t.kids ≤ n := depthL_bnd fun x hx => by
      obtain ⟨i, hi, rfl⟩ := List.getElem_of_mem hx
      have := (allN_iff.1 h) i hi
      have h3 : t.kid i = t.kids[i] := by simp [Ty.kid, hi]
      rw [← h3]; exact ih (by simpa using this)
    omega
def LesIOK (l : List Bool) (a : T) : Prop := ∀ n : Nat, (n + 2) * 2 ^ a.deep ≤ 2 ^ 62 → PCalls Try.prog 39 [emb a.ty, .sl (l.map .bool) .no, .int .i64 n] (emb (lesI l n a).ty)
theorem pow_step23 {n d e m : Nat} (h : (n + 2) * 2 ^ e ≤ 2 ^ 62) (hd : d + 1 ≤ e) (hm : m + 2 ≤ 2 * (n + 2)) : (m + 2) * 2 ^ d ≤ 2 ^ 62 := by
  have h1 : 2 ^ (d + 1) ≤ 2 ^ e := Nat.pow_le_pow_right (by decide) hd
  have h2 : (m + 2) * 2 ^ d ≤ (2 * (n + 2)) * 2 ^ d := Nat.mul_le_mul_right _ hm
  have h3 : (2 * (n + 2)) * 2 ^ d = (n + 2) * 2 ^ (d + 1) := by rw [Nat.pow_succ]; ac_rfl
  have h4 : (n + 2) * 2 ^ (d + 1) ≤ (n + 2) * 2 ^ e := Nat.mul_le_mul_left _ h1
  omega
theorem pow_n23 {n d : Nat} (h : (n + 2) * 2 ^ d ≤ 2 ^ 62) (hd : 1 ≤ d) : 2 * (n + 2) ≤ 2 ^ 62 := by
  have h1 : 2 ^ 1 ≤ 2 ^ d := Nat.pow_le_pow_right (by decide) hd
  have h2 : (n + 2) * 2 ^ 1 ≤ (n + 2) * 2 ^ d := Nat.mul_le_mul_left _ h1
  omega
theorem lesI_dyn {l : List Bool} {n : Nat} {a : T} (h : l.getD n false = true) : (lesI l n a).ty = .mk 5 0 [] := by
  cases a <;> simp only [lesI, h, if_true] <;> rfl
theorem lesI_at (l : List Bool) (n : Nat) : (n < l.length ∧ l.getD n false = true) ∨ (n < l.length ∧ l.getD n false = false) ∨ (¬ n < l.length ∧ l.getD n false = false) := by
  by_cases h : n < l.length
  · cases hb : l.getD n false <;> simp [h]
  · exact .inr (.inr ⟨h, by simp [List.getD, List.getElem?_eq_none (Nat.le_of_not_lt h)]⟩)
theorem lesI_walk (l : List Bool) : ∀ a : T, LesIOK l a := by
  intro a
  induction a with
  | pair x y ih1 ih2 =>
    intro n hn
    have hx := ih1 (2 * n + 1) (pow_step23 hn (by simp only [T.deep]; omega) (by omega))
    have hy := ih2 (2 * n + 2) (pow_step23 hn (by simp only [T.deep]; omega) (by omega))
    have b := pow_n23 hn (T.deep_pos _)
    have w1 : IntKind.wrap .i64 (2 * (n : Int)) = ((2 * n : Nat) : Int) := by have := wrap_nat (n := 2 * n) (by omega); push_cast at this ⊢; exact this
    have w2 : IntKind.wrap .i64 (((2 * n : Nat) : Int) + 1) = ((2 * n + 1 : Nat) : Int) := wrap_nat1 (by omega)
    have w3 : IntKind.wrap .i64 (((2 * n + 1 : Nat) : Int) + 0) = ((2 * n + 1 : Nat) : Int) := by rw [Int.add_zero]; exact wrap_nat (by omega)
    have w4 : IntKind.wrap .i64 (((2 * n + 1 : Nat) : Int) + 1) = ((2 * n + 2 : Nat) : Int) := wrap_nat1 (n := 2 * n + 1) (by omega)
    have hg : n < l.length → (l.map AV.bool).getD n .any = .bool (l.getD n false) := fun h => by simp [h]
    rcases lesI_at l n with ⟨h1, h2⟩ | ⟨h1, h2⟩ | ⟨h1, h2⟩
    · replace hg := hg h1
      rw [h2] at hg
      rw [lesI_dyn h2]
      simp only [T.ty]
      refine pcalls_text C_ok Try.func39 rfl (by decide) (Nat.le_of_ble_eq_true rfl) (by decide) (emb_bel _ _) fun ok H => ?_
      rw [Try.results39]
      have h := True.intro
      repeat' (first
       | (with_reducible first | apply bA | apply bB | apply bC | apply bD | apply bE | apply bF) <;> intro h
       | ((first | refine goCall_norm ?_ | refine goDCall_norm ?_); simp only [AV.norm, AV.normL, W2, W2C, W2V, h1, hg, List.length_map]; first | refine goCall_p (leaf_ok _) (.inl rfl) ?_ | refine goDCall_p (leaf_ok _) (.inl rfl) ?_)
       | refine go_draw (id := 7) C_ok (fun _ => trivial) mixed 0 Try.f39.ntmps rfl (by kernel_rfl) (by decide) ?_
       | skip) <;> simp only [h, ↓upd_eq, ↓envL_cons, WZ, reduceIte, reduceEqDiff, reduceAdd, reduceLT, reduceLeDiff, reduceCtorEq, reduceMul, reducePow, W1, W1C, W1V, h1, hg, List.length_map]
      all_goals rfl
    · replace hg := hg h1
      rw [h2] at hg
      have e : (lesI l n (.pair x y)).ty = .mk 7 0 [(lesI l (2 * n + 1) x).ty, (lesI l (2 * n + 2) y).ty] := by simp only [lesI, h2, Bool.false_eq_true, if_false]; rfl
      rw [e]
      simp only [T.ty]
      refine pcalls_text C_ok Try.func39 rfl (by decide) (Nat.le_of_ble_eq_true rfl) (by decide) (emb_bel _ _) fun ok H => ?_
      rw [Try.results39]
      have h := True.intro
      repeat' (first
       | (with_reducible first | apply bA | apply bB | apply bC | apply bD | apply bE | apply bF) <;> intro h
       | ((first | refine goCall_norm ?_ | refine goDCall_norm ?_); simp only [AV.norm, AV.normL, W2, W2C, W2V, Go.Ab.W3, Int.reduceAdd, Int.reduceLT, Int.reduceToNat, Int.reduceBEq, Int.reduceBNe, Int.reduceLE, h1, hg, List.length_map, bools_norm, w1, w2, w3, w4]; first | refine goCall_p (hx) (.inl rfl) ?_ | refine goCall_p (hy) (.inl rfl) ?_ | refine goDCall_p (hx) (.inl rfl) ?_ | refine goDCall_p (hy) (.inl rfl) ?_)
       | refine go_draw (id := 7) C_ok (fun _ => trivial) mixed 0 Try.f39.ntmps rfl (by kernel_rfl) (by decide) ?_
       | refine goRound ?_ C_ok Try.f39.ntmps rfl (by decide)
       | skip) <;> simp only [h, ↓upd_eq, ↓envL_cons, WZ, reduceIte, reduceEqDiff, reduceAdd, reduceLT, reduceLeDiff, reduceCtorEq, reduceMul, reducePow, W1, W1C, W1V, Go.Ab.W3, Int.reduceAdd, Int.reduceLT, Int.reduceToNat, Int.reduceBEq, Int.reduceBNe, Int.reduceLE, h1, hg, List.length_map, bools_norm, w1, w2, w3, w4, cutNormal_normal]
    · clear hg
      have e : (lesI l n (.pair x y)).ty = .mk 7 0 [(lesI l (2 * n + 1) x).ty, (lesI l (2 * n + 2) y).ty] := by simp only [lesI, h2, Bool.false_eq_true, if_false]; rfl
      rw [e]
      simp only [T.ty]
      refine pcalls_text C_ok Try.func39 rfl (by decide) (Nat.le_of_ble_eq_true rfl) (by decide) (emb_bel _ _) fun ok H => ?_
      rw [Try.results39]
      have h := True.intro
      repeat' (first
       | (with_reducible first | apply bA | apply bB | apply bC | apply bD | apply bE | apply bF) <;> intro h
       | ((first | refine goCall_norm ?_ | refine goDCall_norm ?_); simp only [AV.norm, AV.normL, W2, W2C, W2V, Go.Ab.W3, Int.reduceAdd, Int.reduceLT, Int.reduceToNat, Int.reduceBEq, Int.reduceBNe, Int.reduceLE, h1, List.length_map, bools_norm, w1, w2, w3, w4]; first | refine goCall_p (hx) (.inl rfl) ?_ | refine goCall_p (hy) (.inl rfl) ?_ | refine goDCall_p (hx) (.inl rfl) ?_ | refine goDCall_p (hy) (.inl rfl) ?_)
       | refine go_draw (id := 7) C_ok (fun _ => trivial) mixed 0 Try.f39.ntmps rfl (by kernel_rfl) (by decide) ?_
       | refine goRound ?_ C_ok Try.f39.ntmps rfl (by decide)
       | skip) <;> simp only [h, ↓upd_eq, ↓envL_cons, WZ, reduceIte, reduceEqDiff, reduceAdd, reduceLT, reduceLeDiff, reduceCtorEq, reduceMul, reducePow, W1, W1C, W1V, Go.Ab.W3, Int.reduceAdd, Int.reduceLT, Int.reduceToNat, Int.reduceBEq, Int.reduceBNe, Int.reduceLE, h1, List.length_map, bools_norm, w1, w2, w3, w4, cutNormal_normal]
  | fn x y ih1 ih2 =>
    intro n hn
    have hx := ih1 (2 * n + 1) (pow_step23 hn (by simp only [T.deep]; omega) (by omega))
    have hy := ih2 (2 * n + 2) (pow_step23 hn (by simp only [T.deep]; omega) (by omega))
    have b := pow_n23 hn (T.deep_pos _)
    have w1 : IntKind.wrap .i64 (2 * (n : Int)) = ((2 * n : Nat) : Int) := by have := wrap_nat (n := 2 * n) (by omega); push_cast at this ⊢; exact this
    have w2 : IntKind.wrap .i64 (((2 * n : Nat) : Int) + 1) = ((2 * n + 1 : Nat) : Int) := wrap_nat1 (by omega)
    have w3 : IntKind.wrap .i64 (((2 * n + 1 : Nat) : Int) + 0) = ((2 * n + 1 : Nat) : Int) := by rw [Int.add_zero]; exact wrap_nat (by omega)
    have w4 : IntKind.wrap .i64 (((2 * n + 1 : Nat) : Int) + 1) = ((2 * n + 2 : Nat) : Int) := wrap_nat1 (n := 2 * n + 1) (by omega)
    have hg : n < l.length → (l.map AV.bool).getD n .any = .bool (l.getD n false) := fun h => by simp [h]
    rcases lesI_at l n with ⟨h1, h2⟩ | ⟨h1, h2⟩ | ⟨h1, h2⟩
    · replace hg := hg h1
      rw [h2] at hg
      rw [lesI_dyn h2]
      simp only [T.ty]
      refine pcalls_text C_ok Try.func39 rfl (by decide) (Nat.le_of_ble_eq_true rfl) (by decide) (emb_bel _ _) fun ok H => ?_
      rw [Try.results39]
      have h := True.intro
      repeat' (first
       | (with_reducible first | apply bA | apply bB | apply bC | apply bD | apply bE | apply bF) <;> intro h
       | ((first | refine goCall_norm ?_ | refine goDCall_norm ?_); simp only [AV.norm, AV.normL, W2, W2C, W2V, h1, hg, List.length_map]; first | refine goCall_p (leaf_ok _) (.inl rfl) ?_ | refine goDCall_p (leaf_ok _) (.inl rfl) ?_)
       | refine go_draw (id := 7) C_ok (fun _ => trivial) mixed 0 Try.f39.ntmps rfl (by kernel_rfl) (by decide) ?_
       | skip) <;> simp only [h, ↓upd_eq, ↓envL_cons, WZ, reduceIte, reduceEqDiff, reduceAdd, reduceLT, reduceLeDiff, reduceCtorEq, reduceMul, reducePow, W1, W1C, W1V, h1, hg, List.length_map]
      all_goals rfl
    · replace hg := hg h1
      rw [h2] at hg
      have e : (lesI l n (.fn x y)).ty = .mk 9 0 [(lesI l (2 * n + 1) x).ty, (lesI l (2 * n + 2) y).ty] := by simp only [lesI, h2, Bool.false_eq_true, if_false]; rfl
      rw [e]
      simp only [T.ty]
      refine pcalls_text C_ok Try.func39 rfl (by decide) (Nat.le_of_ble_eq_true rfl) (by decide) (emb_bel _ _) fun ok H => ?_
      rw [Try.results39]
      have h := True.intro
      repeat' (first
       | (with_reducible first | apply bA | apply bB | apply bC | apply bD | apply bE | apply bF) <;> intro h
       | ((first | refine goCall_norm ?_ | refine goDCall_norm ?_); simp only [AV.norm, AV.normL, W2, W2C, W2V, Go.Ab.W3, Int.reduceAdd, Int.reduceLT, Int.reduceToNat, Int.reduceBEq, Int.reduceBNe, Int.reduceLE, h1, hg, List.length_map, bools_norm, w1, w2, w3, w4]; first | refine goCall_p (hx) (.inl rfl) ?_ | refine goCall_p (hy) (.inl rfl) ?_ | refine goDCall_p (hx) (.inl rfl) ?_ | refine goDCall_p (hy) (.inl rfl) ?_)
       | refine go_draw (id := 7) C_ok (fun _ => trivial) mixed 0 Try.f39.ntmps rfl (by kernel_rfl) (by decide) ?_
       | refine goRound ?_ C_ok Try.f39.ntmps rfl (by decide)
       | skip) <;> simp only [h, ↓upd_eq, ↓envL_cons, WZ, reduceIte, reduceEqDiff, reduceAdd, reduceLT, reduceLeDiff, reduceCtorEq, reduceMul, reducePow, W1, W1C, W1V, Go.Ab.W3, Int.reduceAdd, Int.reduceLT, Int.reduceToNat, Int.reduceBEq, Int.reduceBNe, Int.reduceLE, h1, hg, List.length_map, bools_norm, w1, w2, w3, w4, cutNormal_normal]
    · clear hg
      have e : (lesI l n (.fn x y)).ty = .mk 9 0 [(lesI l (2 * n + 1) x).ty, (lesI l (2 * n + 2) y).ty] := by simp only [lesI, h2, Bool.false_eq_true, if_false]; rfl
      rw [e]
      simp only [T.ty]
      refine pcalls_text C_ok Try.func39 rfl (by decide) (Nat.le_of_ble_eq_true rfl) (by decide) (emb_bel _ _) fun ok H => ?_
      rw [Try.results39]
      have h := True.intro
      repeat' (first
       | (with_reducible first | apply bA | apply bB | apply bC | apply bD | apply bE | apply bF) <;> intro h
       | ((first | refine goCall_norm ?_ | refine goDCall_norm ?_); simp only [AV.norm, AV.normL, W2, W2C, W2V, Go.Ab.W3, Int.reduceAdd, Int.reduceLT, Int.reduceToNat, Int.reduceBEq, Int.reduceBNe, Int.reduceLE, h1, List.length_map, bools_norm, w1, w2, w3, w4]; first | refine goCall_p (hx) (.inl rfl) ?_ | refine goCall_p (hy) (.inl rfl) ?_ | refine goDCall_p (hx) (.inl rfl) ?_ | refine goDCall_p (hy) (.inl rfl) ?_)
       | refine go_draw (id := 7) C_ok (fun _ => trivial) mixed 0 Try.f39.ntmps rfl (by kernel_rfl) (by decide) ?_
       | refine goRound ?_ C_ok Try.f39.ntmps rfl (by decide)
       | skip) <;> simp only [h, ↓upd_eq, ↓envL_cons, WZ, reduceIte, reduceEqDiff, reduceAdd, reduceLT, reduceLeDiff, reduceCtorEq, reduceMul, reducePow, W1, W1C, W1V, Go.Ab.W3, Int.reduceAdd, Int.reduceLT, Int.reduceToNat, Int.reduceBEq, Int.reduceBNe, Int.reduceLE, h1, List.length_map, bools_norm, w1, w2, w3, w4, cutNormal_normal]
  | list x ih1 =>
    intro n hn
    have hx := ih1 (2 * n + 1) (pow_step23 hn (by simp only [T.deep]; omega) (by omega))
    have b := pow_n23 hn (T.deep_pos _)
    have w1 : IntKind.wrap .i64 (2 * (n : Int)) = ((2 * n : Nat) : Int) := by have := wrap_nat (n := 2 * n) (by omega); push_cast at this ⊢; exact this
    have w2 : IntKind.wrap .i64 (((2 * n : Nat) : Int) + 1) = ((2 * n + 1 : Nat) : Int) := wrap_nat1 (by omega)
    have w3 : IntKind.wrap .i64 (((2 * n + 1 : Nat) : Int) + 0) = ((2 * n + 1 : Nat) : Int) := by rw [Int.add_zero]; exact wrap_nat (by omega)
    have w4 : IntKind.wrap .i64 (((2 * n + 1 : Nat) : Int) + 1) = ((2 * n + 2 : Nat) : Int) := wrap_nat1 (n := 2 * n + 1) (by omega)
    have hg : n < l.length → (l.map AV.bool).getD n .any = .bool (l.getD n false) := fun h => by simp [h]
    rcases lesI_at l n with ⟨h1, h2⟩ | ⟨h1, h2⟩ | ⟨h1, h2⟩
    · replace hg := hg h1
      rw [h2] at hg
      rw [lesI_dyn h2]
      simp only [T.ty]
      refine pcalls_text C_ok Try.func39 rfl (by decide) (Nat.le_of_ble_eq_true rfl) (by decide) (emb_bel _ _) fun ok H => ?_
      rw [Try.results39]
      have h := True.intro
      repeat' (first
       | (with_reducible first | apply bA | apply bB | apply bC | apply bD | apply bE | apply bF) <;> intro h
       | ((first | refine goCall_norm ?_ | refine goDCall_norm ?_); simp only [AV.norm, AV.normL, W2, W2C, W2V, h1, hg, List.length_map]; first | refine goCall_p (leaf_ok _) (.inl rfl) ?_ | refine goDCall_p (leaf_ok _) (.inl rfl) ?_)
       | refine go_draw (id := 7) C_ok (fun _ => trivial) mixed 0 Try.f39.ntmps rfl (by kernel_rfl) (by decide) ?_
       | skip) <;> simp only [h, ↓upd_eq, ↓envL_cons, WZ, reduceIte, reduceEqDiff, reduceAdd, reduceLT, reduceLeDiff, reduceCtorEq, reduceMul, reducePow, W1, W1C, W1V, h1, hg, List.length_map]
      all_goals rfl
    · replace hg := hg h1
      rw [h2] at hg
      have e : (lesI l n (.list x)).ty = .mk 8 0 [(lesI l (2 * n + 1) x).ty] := by simp only [lesI, h2, Bool.false_eq_true, if_false]; rfl
      rw [e]
      simp only [T.ty]
      refine pcalls_text C_ok Try.func39 rfl (by decide) (Nat.le_of_ble_eq_true rfl) (by decide) (emb_bel _ _) fun ok H => ?_
      rw [Try.results39]
      have h := True.intro
      repeat' (first
       | (with_reducible first | apply bA | apply bB | apply bC | apply bD | apply bE | apply bF) <;> intro h
       | ((first | refine goCall_norm ?_ | refine goDCall_norm ?_); simp only [AV.norm, AV.normL, W2, W2C, W2V, Go.Ab.W3, Int.reduceAdd, Int.reduceLT, Int.reduceToNat, Int.reduceBEq, Int.reduceBNe, Int.reduceLE, h1, hg, List.length_map, bools_norm, w1, w2, w3, w4]; first | refine goCall_p (hx) (.inl rfl) ?_ | refine goDCall_p (hx) (.inl rfl) ?_)
       | refine go_draw (id := 7) C_ok (fun _ => trivial) mixed 0 Try.f39.ntmps rfl (by kernel_rfl) (by decide) ?_
       | refine goRound ?_ C_ok Try.f39.ntmps rfl (by decide)
       | skip) <;> simp only [h, ↓upd_eq, ↓envL_cons, WZ, reduceIte, reduceEqDiff, reduceAdd, reduceLT, reduceLeDiff, reduceCtorEq, reduceMul, reducePow, W1, W1C, W1V, Go.Ab.W3, Int.reduceAdd, Int.reduceLT, Int.reduceToNat, Int.reduceBEq, Int.reduceBNe, Int.reduceLE, h1, hg, List.length_map, bools_norm, w1, w2, w3, w4, cutNormal_normal]
    · clear hg
      have e : (lesI l n (.list x)).ty = .mk 8 0 [(lesI l (2 * n + 1) x).ty] := by simp only [lesI, h2, Bool.false_eq_true, if_false]; rfl
      rw [e]
      simp only [T.ty]
      refine pcalls_text C_ok Try.func39 rfl (by decide) (Nat.le_of_ble_eq_true rfl) (by decide) (emb_bel _ _) fun ok H => ?_
      rw [Try.results39]
      have h := True.intro
      repeat' (first
       | (with_reducible first | apply bA | apply bB | apply bC | apply bD | apply bE | apply bF) <;> intro h
       | ((first | refine goCall_norm ?_ | refine goDCall_norm ?_); simp only [AV.norm, AV.normL, W2, W2C, W2V, Go.Ab.W3, Int.reduceAdd, Int.reduceLT, Int.reduceToNat, Int.reduceBEq, Int.reduceBNe, Int.reduceLE, h1, List.length_map, bools_norm, w1, w2, w3, w4]; first | refine goCall_p (hx) (.inl rfl) ?_ | refine goDCall_p (hx) (.inl rfl) ?_)
       | refine go_draw (id := 7) C_ok (fun _ => trivial) mixed 0 Try.f39.ntmps rfl (by kernel_rfl) (by decide) ?_
       | refine goRound ?_ C_ok Try.f39.ntmps rfl (by decide)
       | skip) <;> simp only [h, ↓upd_eq, ↓envL_cons, WZ, reduceIte, reduceEqDiff, reduceAdd, reduceLT, reduceLeDiff, reduceCtorEq, reduceMul, reducePow, W1, W1C, W1V, Go.Ab.W3, Int.reduceAdd, Int.reduceLT, Int.reduceToNat, Int.reduceBEq, Int.reduceBNe, Int.reduceLE, h1, List.length_map, bools_norm, w1, w2, w3, w4, cutNormal_normal]
  | base k =>
    intro n hn
    have hg : n < l.length → (l.map AV.bool).getD n .any = .bool (l.getD n false) := fun h => by simp [h]
    rcases lesI_at l n with ⟨h1, h2⟩ | ⟨h1, h2⟩ | ⟨h1, h2⟩
    · replace hg := hg h1
      rw [h2] at hg
      rw [lesI_dyn h2]
      simp only [T.ty]
      refine pcalls_text C_ok Try.func39 rfl (by decide) (Nat.le_of_ble_eq_true rfl) (by decide) (emb_bel _ _) fun ok H => ?_
      rw [Try.results39]
      have h := True.intro
      repeat' (first
       | (with_reducible first | apply bA | apply bB | apply bC | apply bD | apply bE | apply bF) <;> intro h
       | ((first | refine goCall_norm ?_ | refine goDCall_norm ?_); simp only [AV.norm, AV.normL, W2, W2C, W2V, h1, hg, List.length_map]; first | refine goCall_p (leaf_ok _) (.inl rfl) ?_ | refine goDCall_p (leaf_ok _) (.inl rfl) ?_)
       | refine go_draw (id := 7) C_ok (fun _ => trivial) mixed 0 Try.f39.ntmps rfl (by kernel_rfl) (by decide) ?_
       | skip) <;> simp only [h, ↓upd_eq, ↓envL_cons, WZ, reduceIte, reduceEqDiff, reduceAdd, reduceLT, reduceLeDiff, reduceCtorEq, reduceMul, reducePow, W1, W1C, W1V, h1, hg, List.length_map]
      all_goals rfl
    · replace hg := hg h1
      rw [h2] at hg
      have e : (lesI l n (.base k)).ty = .mk (k.val + 1) 0 [] := by simp only [lesI, h2, Bool.false_eq_true, if_false]; rfl
      rw [e]
      simp only [T.ty]
      refine pcalls_text C_ok Try.func39 rfl (by decide) (Nat.le_of_ble_eq_true rfl) (by decide) (emb_bel _ _) fun ok H => ?_
      rw [Try.results39]
      have h := True.intro
      repeat' (first
       | (with_reducible first | apply bA | apply bB | apply bC | apply bD | apply bE | apply bF) <;> intro h
       | ((first | refine goCall_norm ?_ | refine goDCall_norm ?_); simp only [AV.norm, AV.normL, W2, W2C, W2V, Go.Ab.W3, Int.reduceAdd, Int.reduceLT, Int.reduceToNat, Int.reduceBEq, Int.reduceBNe, Int.reduceLE, h1, hg, List.length_map, bools_norm, beq_self_eq_true]; first | refine goCall_p (leaf_ok _) (.inl rfl) ?_ | refine goDCall_p (leaf_ok _) (.inl rfl) ?_)
       | refine go_draw (id := 7) C_ok (fun _ => trivial) mixed 0 Try.f39.ntmps rfl (by kernel_rfl) (by decide) ?_
       | refine goRound ?_ C_ok Try.f39.ntmps rfl (by decide)
       | skip) <;> simp only [h, ↓upd_eq, ↓envL_cons, WZ, reduceIte, reduceEqDiff, reduceAdd, reduceLT, reduceLeDiff, reduceCtorEq, reduceMul, reducePow, W1, W1C, W1V, Go.Ab.W3, Int.reduceAdd, Int.reduceLT, Int.reduceToNat, Int.reduceBEq, Int.reduceBNe, Int.reduceLE, h1, hg, List.length_map, bools_norm, beq_self_eq_true, cutNormal_normal]
    · clear hg
      have e : (lesI l n (.base k)).ty = .mk (k.val + 1) 0 [] := by simp only [lesI, h2, Bool.false_eq_true, if_false]; rfl
      rw [e]
      simp only [T.ty]
      refine pcalls_text C_ok Try.func39 rfl (by decide) (Nat.le_of_ble_eq_true rfl) (by decide) (emb_bel _ _) fun ok H => ?_
      rw [Try.results39]
      have h := True.intro
      repeat' (first
       | (with_reducible first | apply bA | apply bB | apply bC | apply bD | apply bE | apply bF) <;> intro h
       | ((first | refine goCall_norm ?_ | refine goDCall_norm ?_); simp only [AV.norm, AV.normL, W2, W2C, W2V, Go.Ab.W3, Int.reduceAdd, Int.reduceLT, Int.reduceToNat, Int.reduceBEq, Int.reduceBNe, Int.reduceLE, h1, List.length_map, bools_norm, beq_self_eq_true]; first | refine goCall_p (leaf_ok _) (.inl rfl) ?_ | refine goDCall_p (leaf_ok _) (.inl rfl) ?_)
       | refine go_draw (id := 7) C_ok (fun _ => trivial) mixed 0 Try.f39.ntmps rfl (by kernel_rfl) (by decide) ?_
       | refine goRound ?_ C_ok Try.f39.ntmps rfl (by decide)
       | skip) <;> simp only [h, ↓upd_eq, ↓envL_cons, WZ, reduceIte, reduceEqDiff, reduceAdd, reduceLT, reduceLeDiff, reduceCtorEq, reduceMul, reducePow, W1, W1C, W1V, Go.Ab.W3, Int.reduceAdd, Int.reduceLT, Int.reduceToNat, Int.reduceBEq, Int.reduceBNe, Int.reduceLE, h1, List.length_map, bools_norm, beq_self_eq_true, cutNormal_normal]
  | dyn =>
    intro n hn
    have hg : n < l.length → (l.map AV.bool).getD n .any = .bool (l.getD n false) := fun h => by simp [h]
    rcases lesI_at l n with ⟨h1, h2⟩ | ⟨h1, h2⟩ | ⟨h1, h2⟩
    · replace hg := hg h1
      rw [h2] at hg
      rw [lesI_dyn h2]
      simp only [T.ty]
      refine pcalls_text C_ok Try.func39 rfl (by decide) (Nat.le_of_ble_eq_true rfl) (by decide) (emb_bel _ _) fun ok H => ?_
      rw [Try.results39]
      have h := True.intro
      repeat' (first
       | (with_reducible first | apply bA | apply bB | apply bC | apply bD | apply bE | apply bF) <;> intro h
       | ((first | refine goCall_norm ?_ | refine goDCall_norm ?_); simp only [AV.norm, AV.normL, W2, W2C, W2V, h1, hg, List.length_map]; first | refine goCall_p (leaf_ok _) (.inl rfl) ?_ | refine goDCall_p (leaf_ok _) (.inl rfl) ?_)
       | refine go_draw (id := 7) C_ok (fun _ => trivial) mixed 0 Try.f39.ntmps rfl (by kernel_rfl) (by decide) ?_
       | skip) <;> simp only [h, ↓upd_eq, ↓envL_cons, WZ, reduceIte, reduceEqDiff, reduceAdd, reduceLT, reduceLeDiff, reduceCtorEq, reduceMul, reducePow, W1, W1C, W1V, h1, hg, List.length_map]
      all_goals rfl
    · replace hg := hg h1
      rw [h2] at hg
      have e : (lesI l n .dyn).ty = .mk 5 0 [] := by simp only [lesI, h2, Bool.false_eq_true, if_false]; rfl
      rw [e]
      simp only [T.ty]
      refine pcalls_text C_ok Try.func39 rfl (by decide) (Nat.le_of_ble_eq_true rfl) (by decide) (emb_bel _ _) fun ok H => ?_
      rw [Try.results39]
      have h := True.intro
      repeat' (first
       | (with_reducible first | apply bA | apply bB | apply bC | apply bD | apply bE | apply bF) <;> intro h
       | ((first | refine goCall_norm ?_ | refine goDCall_norm ?_); simp only [AV.norm, AV.normL, W2, W2C, W2V, Go.Ab.W3, Int.reduceAdd, Int.reduceLT, Int.reduceToNat, Int.reduceBEq, Int.reduceBNe, Int.reduceLE, h1, hg, List.length_map, bools_norm, beq_self_eq_true]; first | refine goCall_p (leaf_ok _) (.inl rfl) ?_ | refine goDCall_p (leaf_ok _) (.inl rfl) ?_)
       | refine go_draw (id := 7) C_ok (fun _ => trivial) mixed 0 Try.f39.ntmps rfl (by kernel_rfl) (by decide) ?_
       | refine goRound ?_ C_ok Try.f39.ntmps rfl (by decide)
       | skip) <;> simp only [h, ↓upd_eq, ↓envL_cons, WZ, reduceIte, reduceEqDiff, reduceAdd, reduceLT, reduceLeDiff, reduceCtorEq, reduceMul, reducePow, W1, W1C, W1V, Go.Ab.W3, Int.reduceAdd, Int.reduceLT, Int.reduceToNat, Int.reduceBEq, Int.reduceBNe, Int.reduceLE, h1, hg, List.length_map, bools_norm, beq_self_eq_true, cutNormal_normal]
    · clear hg
      have e : (lesI l n .dyn).ty = .mk 5 0 [] := by simp only [lesI, h2, Bool.false_eq_true, if_false]; rfl
      rw [e]
      simp only [T.ty]
      refine pcalls_text C_ok Try.func39 rfl (by decide) (Nat.le_of_ble_eq_true rfl) (by decide) (emb_bel _ _) fun ok H => ?_
      rw [Try.results39]
      have h := True.intro
      repeat' (first
       | (with_reducible first | apply bA | apply bB | apply bC | apply bD | apply bE | apply bF) <;> intro h
       | ((first | refine goCall_norm ?_ | refine goDCall_norm ?_); simp only [AV.norm, AV.normL, W2, W2C, W2V, Go.Ab.W3, Int.reduceAdd, Int.reduceLT, Int.reduceToNat, Int.reduceBEq, Int.reduceBNe, Int.reduceLE, h1, List.length_map, bools_norm, beq_self_eq_true]; first | refine goCall_p (leaf_ok _) (.inl rfl) ?_ | refine goDCall_p (leaf_ok _) (.inl rfl) ?_)
       | refine go_draw (id := 7) C_ok (fun _ => trivial) mixed 0 Try.f39.ntmps rfl (by kernel_rfl) (by decide) ?_
       | refine goRound ?_ C_ok Try.f39.ntmps rfl (by decide)
       | skip) <;> simp only [h, ↓upd_eq, ↓envL_cons, WZ, reduceIte, reduceEqDiff, reduceAdd, reduceLT, reduceLeDiff, reduceCtorEq, reduceMul, reducePow, W1, W1C, W1V, Go.Ab.W3, Int.reduceAdd, Int.reduceLT, Int.reduceToNat, Int.reduceBEq, Int.reduceBNe, Int.reduceLE, h1, List.length_map, bools_norm, beq_self_eq_true, cutNormal_normal]
  | var m =>
    intro n hn
    have hg : n < l.length → (l.map AV.bool).getD n .any = .bool (l.getD n false) := fun h => by simp [h]
    rcases lesI_at l n with ⟨h1, h2⟩ | ⟨h1, h2⟩ | ⟨h1, h2⟩
    · replace hg := hg h1
      rw [h2] at hg
      rw [lesI_dyn h2]
      simp only [T.ty]
      refine pcalls_text C_ok Try.func39 rfl (by decide) (Nat.le_of_ble_eq_true rfl) (by decide) (emb_bel _ _) fun ok H => ?_
      rw [Try.results39]
      have h := True.intro
      repeat' (first
       | (with_reducible first | apply bA | apply bB | apply bC | apply bD | apply bE | apply bF) <;> intro h
       | ((first | refine goCall_norm ?_ | refine goDCall_norm ?_); simp only [AV.norm, AV.normL, W2, W2C, W2V, h1, hg, List.length_map]; first | refine goCall_p (leaf_ok _) (.inl rfl) ?_ | refine goDCall_p (leaf_ok _) (.inl rfl) ?_)
       | refine go_draw (id := 7) C_ok (fun _ => trivial) mixed 0 Try.f39.ntmps rfl (by kernel_rfl) (by decide) ?_
       | skip) <;> simp only [h, ↓upd_eq, ↓envL_cons, WZ, reduceIte, reduceEqDiff, reduceAdd, reduceLT, reduceLeDiff, reduceCtorEq, reduceMul, reducePow, W1, W1C, W1V, h1, hg, List.length_map]
      all_goals rfl
    · replace hg := hg h1
      rw [h2] at hg
      have e : (lesI l n (.var m)).ty = .mk 6 m [] := by simp only [lesI, h2, Bool.false_eq_true, if_false]; rfl
      rw [e]
      simp only [T.ty]
      refine pcalls_text C_ok Try.func39 rfl (by decide) (Nat.le_of_ble_eq_true rfl) (by decide) (emb_bel _ _) fun ok H => ?_
      rw [Try.results39]
      have h := True.intro
      repeat' (first
       | (with_reducible first | apply bA | apply bB | apply bC | apply bD | apply bE | apply bF) <;> intro h
       | ((first | refine goCall_norm ?_ | refine goDCall_norm ?_); simp only [AV.norm, AV.normL, W2, W2C, W2V, Go.Ab.W3, Int.reduceAdd, Int.reduceLT, Int.reduceToNat, Int.reduceBEq, Int.reduceBNe, Int.reduceLE, h1, hg, List.length_map, bools_norm, beq_self_eq_true]; first | refine goCall_p (leaf_ok _) (.inl rfl) ?_ | refine goDCall_p (leaf_ok _) (.inl rfl) ?_)
       | refine go_draw (id := 7) C_ok (fun _ => trivial) mixed 0 Try.f39.ntmps rfl (by kernel_rfl) (by decide) ?_
       | refine goRound ?_ C_ok Try.f39.ntmps rfl (by decide)
       | skip) <;> simp only [h, ↓upd_eq, ↓envL_cons, WZ, reduceIte, reduceEqDiff, reduceAdd, reduceLT, reduceLeDiff, reduceCtorEq, reduceMul, reducePow, W1, W1C, W1V, Go.Ab.W3, Int.reduceAdd, Int.reduceLT, Int.reduceToNat, Int.reduceBEq, Int.reduceBNe, Int.reduceLE, h1, hg, List.length_map, bools_norm, beq_self_eq_true, cutNormal_normal]
    · clear hg
      have e : (lesI l n (.var m)).ty = .mk 6 m [] := by simp only [lesI, h2, Bool.false_eq_true, if_false]; rfl
      rw [e]
      simp only [T.ty]
      refine pcalls_text C_ok Try.func39 rfl (by decide) (Nat.le_of_ble_eq_true rfl) (by decide) (emb_bel _ _) fun ok H => ?_
      rw [Try.results39]
      have h := True.intro
      repeat' (first
       | (with_reducible first | apply bA | apply bB | apply bC | apply bD | apply bE | apply bF) <;> intro h
       | ((first | refine goCall_norm ?_ | refine goDCall_norm ?_); simp only [AV.norm, AV.normL, W2, W2C, W2V, Go.Ab.W3, Int.reduceAdd, Int.reduceLT, Int.reduceToNat, Int.reduceBEq, Int.reduceBNe, Int.reduceLE, h1, List.length_map, bools_norm, beq_self_eq_true]; first | refine goCall_p (leaf_ok _) (.inl rfl) ?_ | refine goDCall_p (leaf_ok _) (.inl rfl) ?_)
       | refine go_draw (id := 7) C_ok (fun _ => trivial) mixed 0 Try.f39.ntmps rfl (by kernel_rfl) (by decide) ?_
       | refine goRound ?_ C_ok Try.f39.ntmps rfl (by decide)
       | skip) <;> simp only [h, ↓upd_eq, ↓envL_cons, WZ, reduceIte, reduceEqDiff, reduceAdd, reduceLT, reduceLeDiff, reduceCtorEq, reduceMul, reducePow, W1, W1C, W1V, Go.Ab.W3, Int.reduceAdd, Int.reduceLT, Int.reduceToNat, Int.reduceBEq, Int.reduceBNe, Int.reduceLE, h1, List.length_map, bools_norm, beq_self_eq_true, cutNormal_normal]

end Go.Proofs.Ytofogicgnldfhaa
