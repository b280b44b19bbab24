/- Lemmas: values of types. No condition. -/
import Derived.Test.YtofogicgnldfhaaPYc
import Derived.Test.YtofogicgnldfhaaPFa
import Derived.Test.YtofogicgnldfhaaPYa
import Derived.Test.YtofogicgnldfhaaPGa

section
/- Walks: a value of a type, package val and the reference. No condition. -/
set_option linter.unusedSimpArgs false
set_option linter.unusedVariables false
set_option maxHeartbeats 4000000
set_option maxRecDepth 100000
namespace Go.Proofs.Ytofogicgnldfhaa
open Go Go.Ab
open Nat (reduceEqDiff reduceAdd reduceLT reduceLeDiff reduceMul reducePow)
attribute [local irreducible] PCalls ACalls CallK GoCall GoDCall GoIf GoGb GoDGb GoO GoD GoX GoDX GoG GoDG GoGv GoDGv Go ALoop

mutual
/-- A value is of a type. -/
def hasV : Vl → Ty → Bool
  | .mk k _ _ _ l, t => if t.kind = 5 then true else if t.kind = 6 then false else if headV k ≠ t.kind then false
    else if k = 5 then hasVL l [t.kid 0, t.kid 1] else if k = 7 then hasVL l [t.kid 0, t] else true
def hasVL : List Vl → List Ty → Bool
  | [], _ => true
  | x :: xs, ts => hasV x (ts.headD default) && hasVL xs ts.tail
end
theorem hasV_eq (v : Vl) (t : Ty) (hl : v.kind = 5 ∨ v.kind = 7 → v.kids.length = 2) : hasV v t = if t.kind = 5 then true else if t.kind = 6 then false else if headV v.kind ≠ t.kind then false
    else if v.kind = 5 then hasV (v.kid 0) (t.kid 0) && hasV (v.kid 1) (t.kid 1) else if v.kind = 7 then hasV (v.kid 0) (t.kid 0) && hasV (v.kid 1) t else true := by
  cases v with
  | mk k n s c l =>
    rw [hasV]
    simp only [Vl.kind, Vl.kids] at hl ⊢
    by_cases h5 : k = 5 ∨ k = 7
    · have := hl h5
      match l, this with
      | [a, b], _ => simp [hasVL, Vl.kid, Vl.kids]
    · have h1 : k ≠ 5 := fun h => h5 (.inl h)
      have h2 : k ≠ 7 := fun h => h5 (.inr h)
      simp [h1, h2]
theorem rightLenY {t : Ty} (h : right t = true) : (t.kids.length : Int) = arity t.kind := by
  rw [right_eq, Bool.and_eq_true] at h
  have := h.1
  simp only [okN, Bool.and_eq_true, decide_eq_true_eq] at this; exact this.1
theorem rightKidY {t : Ty} (h : right t = true) {i : Nat} (hi : i < t.kids.length) : right (t.kid i) = true := by
  rw [right_eq, Bool.and_eq_true, allN_iff] at h; exact h.2 i hi
theorem ownV_of' {v : Vl} (h : rightV v = true) : oneV v = true := by rw [rightV_eq, Bool.and_eq_true] at h; exact ownV_one h.1
theorem rightV_kid' {v : Vl} (h : rightV v = true) {i : Nat} (hi : i < v.kids.length) : rightV (v.kid i) = true := by
  rw [rightV_eq, Bool.and_eq_true, allN_iff] at h; exact h.2 i hi
theorem head_pair {v : Vl} {t : Ty} (h : rightV v = true) (ht : right t = true) (hk : v.kind = 5) (he : headV v.kind = t.kind) : v.kids.length = 2 ∧ t.kids.length = 2 := by
  have h1 := oneV_two (ownV_of' h) (.inr hk)
  have h2 := rightLenY ht
  rw [hk] at he
  have : t.kind = 7 := by rw [← he]; rfl
  rw [this] at h2
  exact ⟨h1, by simp [arity] at h2; omega⟩
theorem head_cons {v : Vl} {t : Ty} (h : rightV v = true) (ht : right t = true) (hk : v.kind = 7) (he : headV v.kind = t.kind) : v.kids.length = 2 ∧ t.kids.length = 1 := by
  have h1 := oneV_two (ownV_of' h) (.inl hk)
  have h2 := rightLenY ht
  rw [hk] at he
  have : t.kind = 8 := by rw [← he]; rfl
  rw [this] at h2
  exact ⟨h1, by simp [arity] at h2; omega⟩
theorem vhas_step (v : Vl) (ih : ∀ x ∈ v.kids, ∀ t, rightV x = true → right t = true → PCalls Try.prog 56 [embV x, emb t] (.bool (hasV x t))) (t : Ty) (h : rightV v = true) (ht : right t = true) : PCalls Try.prog 56 [embV v, emb t] (.bool (hasV v t)) := by
  have hq := hasV_eq v t (fun hk => oneV_two (ownV_of' h) hk.symm)
  have c0 : ((0 : Int) < (2 : Nat)) = True := by simp
  have c1 : ((1 : Int) < (2 : Nat)) = True := by simp
  have c00 : ((0 : Int) < (1 : Nat)) = True := by simp
  have t0 : Int.toNat 0 = 0 := rfl
  have t1 : Int.toNat 1 = 1 := rfl
  have z1 : ((0 : Int) ≤ 1) = True := by simp
  by_cases h5 : t.kind = 5
  · have b5 : (t.kind == 5) = true := by simpa using h5
    rw [hq, if_pos h5]
    refine pcalls_text C_ok Try.func56 rfl (by decide) (Nat.le_of_ble_eq_true rfl) (by decide) rfl fun ok H => ?_
    rw [Try.results56]
    have h := True.intro
    repeat' (first
     | (with_reducible first | apply bA | apply bB | apply bC | apply bD | apply bE | apply bF) <;> intro h
     | refine go_draw (id := 6) C_ok (fun _ => trivial) mixed 0 Try.f56.ntmps rfl (by kernel_rfl) (by decide) ?_
     | refine go_draw (id := 10) C_ok (fun _ => trivial) mixed 0 Try.f56.ntmps rfl (by kernel_rfl) (by decide) ?_
     | refine go_draw (id := 12) C_ok (fun _ => trivial) mixed 0 Try.f56.ntmps rfl (by kernel_rfl) (by decide) ?_
     | skip) <;> simp only [h, ↓upd_eq, ↓envL_cons, WZ, reduceIte, reduceEqDiff, reduceAdd, reduceLT, reduceLeDiff, reduceCtorEq, reduceMul, reducePow, W1, W1C, W1V, b5]
  have b5 : (t.kind == 5) = false := by simpa using h5
  rw [hq, if_neg h5]
  by_cases h6 : t.kind = 6
  · have b6 : (t.kind == 6) = true := by simpa using h6
    rw [if_pos h6]
    refine pcalls_text C_ok Try.func56 rfl (by decide) (Nat.le_of_ble_eq_true rfl) (by decide) rfl fun ok H => ?_
    rw [Try.results56]
    have h := True.intro
    repeat' (first
     | (with_reducible first | apply bA | apply bB | apply bC | apply bD | apply bE | apply bF) <;> intro h
     | refine go_draw (id := 6) C_ok (fun _ => trivial) mixed 0 Try.f56.ntmps rfl (by kernel_rfl) (by decide) ?_
     | refine go_draw (id := 10) C_ok (fun _ => trivial) mixed 0 Try.f56.ntmps rfl (by kernel_rfl) (by decide) ?_
     | refine go_draw (id := 12) C_ok (fun _ => trivial) mixed 0 Try.f56.ntmps rfl (by kernel_rfl) (by decide) ?_
     | skip) <;> simp only [h, ↓upd_eq, ↓envL_cons, WZ, reduceIte, reduceEqDiff, reduceAdd, reduceLT, reduceLeDiff, reduceCtorEq, reduceMul, reducePow, W1, W1C, W1V, b5, b6]
  have b6 : (t.kind == 6) = false := by simpa using h6
  rw [if_neg h6]
  by_cases he : headV v.kind = t.kind
  · have e1 : (headV v.kind != t.kind) = false := by simp [he]
    have e2 : (t.kind != headV v.kind) = false := by simp [he]
    rw [if_neg (fun h => h he)]
    by_cases k5 : v.kind = 5
    · have d5 : (v.kind == 5) = true := by simpa using k5
      obtain ⟨l1, l2⟩ := head_pair h ht k5 he
      have g0 : (v.kids.map embV).getD 0 .any = embV (v.kid 0) := mapV_kid (by omega)
      have g1 : (v.kids.map embV).getD 1 .any = embV (v.kid 1) := mapV_kid (by omega)
      have u0 : (t.kids.map emb).getD 0 .any = emb (t.kid 0) := map_emb_kid (by omega)
      have u1 : (t.kids.map emb).getD 1 .any = emb (t.kid 1) := map_emb_kid (by omega)
      have q0 := ih _ (vlkid_mem (show 0 < v.kids.length by omega)) (t.kid 0) (rightV_kid' h (by omega)) (rightKidY ht (by omega))
      have q1 := ih _ (vlkid_mem (show 1 < v.kids.length by omega)) (t.kid 1) (rightV_kid' h (by omega)) (rightKidY ht (by omega))
      rw [if_pos k5]
      refine pcalls_text C_ok Try.func56 rfl (by decide) (Nat.le_of_ble_eq_true rfl) (by decide) rfl fun ok H => ?_
      rw [Try.results56]
      have h := True.intro
      repeat' (first
       | (with_reducible first | apply bA | apply bB | apply bC | apply bD | apply bE | apply bF) <;> intro h
       | ((first | refine goCall_norm ?_ | refine goDCall_norm ?_); simp only [AV.norm, AV.normL, W2, W2C, W2V, b5, b6, e1, e2, d5, l1, l2, g0, g1, u0, u1, c0, c1, t0, t1, z1, Int.le_refl, List.length_map]; first | refine goCall_p (q0) (.inl rfl) ?_ | refine goCall_p (q1) (.inl rfl) ?_ | refine goCall_p (vhead_ok _) (.inl rfl) ?_ | refine goDCall_p (q0) (.inl rfl) ?_ | refine goDCall_p (q1) (.inl rfl) ?_ | refine goDCall_p (vhead_ok _) (.inl rfl) ?_)
       | refine go_draw (id := 6) C_ok (fun _ => trivial) mixed 0 Try.f56.ntmps rfl (by kernel_rfl) (by decide) ?_
       | refine go_draw (id := 10) C_ok (fun _ => trivial) mixed 0 Try.f56.ntmps rfl (by kernel_rfl) (by decide) ?_
       | refine go_draw (id := 12) C_ok (fun _ => trivial) mixed 0 Try.f56.ntmps rfl (by kernel_rfl) (by decide) ?_
       | skip) <;> simp only [h, ↓upd_eq, ↓envL_cons, WZ, reduceIte, reduceEqDiff, reduceAdd, reduceLT, reduceLeDiff, reduceCtorEq, reduceMul, reducePow, W1, W1C, W1V, b5, b6, e1, e2, d5, l1, l2, g0, g1, u0, u1, c0, c1, t0, t1, z1, Int.le_refl, List.length_map]
      all_goals simp_all
    have d5 : (v.kind == 5) = false := by simpa using k5
    rw [if_neg k5]
    by_cases k7 : v.kind = 7
    · have d7 : (v.kind == 7) = true := by simpa using k7
      obtain ⟨l1, l2⟩ := head_cons h ht k7 he
      have g0 : (v.kids.map embV).getD 0 .any = embV (v.kid 0) := mapV_kid (by omega)
      have g1 : (v.kids.map embV).getD 1 .any = embV (v.kid 1) := mapV_kid (by omega)
      have u0 : (t.kids.map emb).getD 0 .any = emb (t.kid 0) := map_emb_kid (by omega)
      have q0 := ih _ (vlkid_mem (show 0 < v.kids.length by omega)) (t.kid 0) (rightV_kid' h (by omega)) (rightKidY ht (by omega))
      have q1 := ih _ (vlkid_mem (show 1 < v.kids.length by omega)) t (rightV_kid' h (by omega)) ht
      rw [if_pos k7]
      refine pcalls_text C_ok Try.func56 rfl (by decide) (Nat.le_of_ble_eq_true rfl) (by decide) rfl fun ok H => ?_
      rw [Try.results56]
      have h := True.intro
      repeat' (first
       | (with_reducible first | apply bA | apply bB | apply bC | apply bD | apply bE | apply bF) <;> intro h
       | ((first | refine goCall_norm ?_ | refine goDCall_norm ?_); simp only [AV.norm, AV.normL, W2, W2C, W2V, b5, b6, e1, e2, d5, d7, l1, l2, g0, g1, u0, c0, c00, c1, t0, t1, z1, Int.le_refl, List.length_map]; first | refine goCall_p (q0) (.inl rfl) ?_ | refine goCall_p (q1) (.inl rfl) ?_ | refine goCall_p (vhead_ok _) (.inl rfl) ?_ | refine goDCall_p (q0) (.inl rfl) ?_ | refine goDCall_p (q1) (.inl rfl) ?_ | refine goDCall_p (vhead_ok _) (.inl rfl) ?_)
       | refine go_draw (id := 6) C_ok (fun _ => trivial) mixed 0 Try.f56.ntmps rfl (by kernel_rfl) (by decide) ?_
       | refine go_draw (id := 10) C_ok (fun _ => trivial) mixed 0 Try.f56.ntmps rfl (by kernel_rfl) (by decide) ?_
       | refine go_draw (id := 12) C_ok (fun _ => trivial) mixed 0 Try.f56.ntmps rfl (by kernel_rfl) (by decide) ?_
       | skip) <;> simp only [h, ↓upd_eq, ↓envL_cons, WZ, reduceIte, reduceEqDiff, reduceAdd, reduceLT, reduceLeDiff, reduceCtorEq, reduceMul, reducePow, W1, W1C, W1V, b5, b6, e1, e2, d5, d7, l1, l2, g0, g1, u0, c0, c00, c1, t0, t1, z1, Int.le_refl, List.length_map]
      all_goals simp_all
    have d7 : (v.kind == 7) = false := by simpa using k7
    rw [if_neg k7]
    refine pcalls_text C_ok Try.func56 rfl (by decide) (Nat.le_of_ble_eq_true rfl) (by decide) rfl fun ok H => ?_
    rw [Try.results56]
    have h := True.intro
    repeat' (first
     | (with_reducible first | apply bA | apply bB | apply bC | apply bD | apply bE | apply bF) <;> intro h
     | ((first | refine goCall_norm ?_ | refine goDCall_norm ?_); simp only [AV.norm, AV.normL, W2, W2C, W2V, b5, b6, e1, e2, d5, d7]; first | refine goCall_p (vhead_ok _) (.inl rfl) ?_ | refine goDCall_p (vhead_ok _) (.inl rfl) ?_)
     | refine go_draw (id := 6) C_ok (fun _ => trivial) mixed 0 Try.f56.ntmps rfl (by kernel_rfl) (by decide) ?_
     | refine go_draw (id := 10) C_ok (fun _ => trivial) mixed 0 Try.f56.ntmps rfl (by kernel_rfl) (by decide) ?_
     | refine go_draw (id := 12) C_ok (fun _ => trivial) mixed 0 Try.f56.ntmps rfl (by kernel_rfl) (by decide) ?_
     | skip) <;> simp only [h, ↓upd_eq, ↓envL_cons, WZ, reduceIte, reduceEqDiff, reduceAdd, reduceLT, reduceLeDiff, reduceCtorEq, reduceMul, reducePow, W1, W1C, W1V, b5, b6, e1, e2, d5, d7]
  · have e1 : (headV v.kind != t.kind) = true := by simpa using he
    have e2 : (t.kind != headV v.kind) = true := by simp; omega
    rw [if_pos he]
    refine pcalls_text C_ok Try.func56 rfl (by decide) (Nat.le_of_ble_eq_true rfl) (by decide) rfl fun ok H => ?_
    rw [Try.results56]
    have h := True.intro
    repeat' (first
     | (with_reducible first | apply bA | apply bB | apply bC | apply bD | apply bE | apply bF) <;> intro h
     | ((first | refine goCall_norm ?_ | refine goDCall_norm ?_); simp only [AV.norm, AV.normL, W2, W2C, W2V, b5, b6, e1, e2]; first | refine goCall_p (vhead_ok _) (.inl rfl) ?_ | refine goDCall_p (vhead_ok _) (.inl rfl) ?_)
     | refine go_draw (id := 6) C_ok (fun _ => trivial) mixed 0 Try.f56.ntmps rfl (by kernel_rfl) (by decide) ?_
     | refine go_draw (id := 10) C_ok (fun _ => trivial) mixed 0 Try.f56.ntmps rfl (by kernel_rfl) (by decide) ?_
     | refine go_draw (id := 12) C_ok (fun _ => trivial) mixed 0 Try.f56.ntmps rfl (by kernel_rfl) (by decide) ?_
     | skip) <;> simp only [h, ↓upd_eq, ↓envL_cons, WZ, reduceIte, reduceEqDiff, reduceAdd, reduceLT, reduceLeDiff, reduceCtorEq, reduceMul, reducePow, W1, W1C, W1V, b5, b6, e1, e2]
theorem vhasV_ok : ∀ (v : Vl) (t : Ty), rightV v = true → right t = true → PCalls Try.prog 56 [embV v, emb t] (.bool (hasV v t)) :=
  Vl.ind (p := fun v => ∀ t : Ty, rightV v = true → right t = true → PCalls Try.prog 56 [embV v, emb t] (.bool (hasV v t))) fun v ih t h ht => vhas_step v ih t h ht
def hasT (v : Vl) (t : Ty) : Bool := toldV v && right t && hasV v t
theorem vHas_ok (v : Vl) (t : Ty) : PCalls Try.prog 20 [embV v, emb t] (.bool (hasT v t)) := by
  cases h1 : toldV v with
  | false =>
    have : hasT v t = false := by simp [hasT, h1]
    rw [this]
    refine pcalls_text C_ok Try.func20 rfl (by decide) (Nat.le_of_ble_eq_true rfl) (by decide) rfl fun ok H => ?_
    rw [Try.results20]
    have h := True.intro
    repeat' (first
     | (with_reducible first | apply bA | apply bB | apply bC | apply bD | apply bE | apply bF) <;> intro h
     | ((first | refine goCall_norm ?_ | refine goDCall_norm ?_); simp only [AV.norm, AV.normL, W2, W2C, W2V, h1]; first | refine goCall_p (vtold_ok _) (.inl rfl) ?_ | refine goDCall_p (vtold_ok _) (.inl rfl) ?_)
     | skip) <;> simp only [h, ↓upd_eq, ↓envL_cons, WZ, reduceIte, reduceEqDiff, reduceAdd, reduceLT, reduceLeDiff, reduceCtorEq, reduceMul, reducePow, W1, W1C, W1V, h1]
  | true =>
    cases h2 : right t with
    | false =>
      have : hasT v t = false := by simp [hasT, h2]
      have q1 := check_ok t
      rw [h2] at q1
      rw [this]
      refine pcalls_text C_ok Try.func20 rfl (by decide) (Nat.le_of_ble_eq_true rfl) (by decide) rfl fun ok H => ?_
      rw [Try.results20]
      have h := True.intro
      repeat' (first
       | (with_reducible first | apply bA | apply bB | apply bC | apply bD | apply bE | apply bF) <;> intro h
       | ((first | refine goCall_norm ?_ | refine goDCall_norm ?_); simp only [AV.norm, AV.normL, W2, W2C, W2V, h1]; first | refine goCall_p (vtold_ok _) (.inl rfl) ?_ | refine goCall_p (q1) (.inl rfl) ?_ | refine goDCall_p (vtold_ok _) (.inl rfl) ?_ | refine goDCall_p (q1) (.inl rfl) ?_)
       | skip) <;> simp only [h, ↓upd_eq, ↓envL_cons, WZ, reduceIte, reduceEqDiff, reduceAdd, reduceLT, reduceLeDiff, reduceCtorEq, reduceMul, reducePow, W1, W1C, W1V, h1]
      all_goals simp_all
    | true =>
      have hr : rightV v = true := by simp only [toldV, Bool.and_eq_true] at h1; exact h1.1
      have q1 := check_ok t
      have q2 := vhasV_ok v t hr h2
      rw [h2] at q1
      have : hasT v t = hasV v t := by simp [hasT, h1, h2]
      rw [this]
      refine pcalls_text C_ok Try.func20 rfl (by decide) (Nat.le_of_ble_eq_true rfl) (by decide) rfl fun ok H => ?_
      rw [Try.results20]
      have h := True.intro
      repeat' (first
       | (with_reducible first | apply bA | apply bB | apply bC | apply bD | apply bE | apply bF) <;> intro h
       | ((first | refine goCall_norm ?_ | refine goDCall_norm ?_); simp only [AV.norm, AV.normL, W2, W2C, W2V, h1]; first | refine goCall_p (vtold_ok _) (.inl rfl) ?_ | refine goCall_p (q1) (.inl rfl) ?_ | refine goCall_p (q2) (.inl rfl) ?_ | refine goDCall_p (vtold_ok _) (.inl rfl) ?_ | refine goDCall_p (q1) (.inl rfl) ?_ | refine goDCall_p (q2) (.inl rfl) ?_)
       | skip) <;> simp only [h, ↓upd_eq, ↓envL_cons, WZ, reduceIte, reduceEqDiff, reduceAdd, reduceLT, reduceLeDiff, reduceCtorEq, reduceMul, reducePow, W1, W1C, W1V, h1]
      all_goals simp_all

end Go.Proofs.Ytofogicgnldfhaa
end

section
/- Walks: is a value too great to be asked of? No condition. -/
set_option linter.unusedSimpArgs false
set_option linter.unusedVariables false
set_option maxHeartbeats 4000000
set_option maxRecDepth 100000
namespace Go.Proofs.Ytofogicgnldfhaa
open Go Go.Ab
open Nat (reduceEqDiff reduceAdd reduceLT reduceLeDiff reduceMul reducePow)
attribute [local irreducible] PCalls ACalls CallK GoCall GoDCall GoIf GoGb GoDGb GoO GoD GoX GoDX GoG GoDG GoGv GoDGv Go ALoop

def bigV (v : Vl) : Bool := decide (300 < v.str.size) || heavyC [v.co]
mutual
def cntV : Vl → Nat → Nat
  | .mk k m s c l, n => if bigV (.mk k m s c l) then 401 else cntVL l (n + 1)
def cntVL : List Vl → Nat → Nat
  | [], n => n
  | x :: l, n => if n ≤ 400 then cntVL l (cntV x n) else n
end
theorem cntV_eq (v : Vl) (n : Nat) : cntV v n = if bigV v then 401 else cntVL v.kids (n + 1) := by cases v; rw [cntV]; rfl
mutual
theorem cntV_le : ∀ (v : Vl) (n : Nat), cntV v n ≤ max (n + 1) 401
  | .mk k m s c l, n => by
    have := cntVL_le l (n + 1)
    rw [cntV_eq]; simp only [Vl.kids]; split <;> omega
theorem cntVL_le : ∀ (l : List Vl) (n : Nat), cntVL l n ≤ max n 401
  | [], n => by simp [cntVL]; omega
  | x :: l, n => by
    rw [cntVL]
    split
    · have h1 := cntV_le x n
      have h2 := cntVL_le l (cntV x n)
      omega
    · omega
end
theorem cntVL_stop {l : List Vl} {n : Nat} (h : ¬ n ≤ 400) : cntVL l n = n := by cases l <;> simp [cntVL, h]
theorem dropV_kid {v : Vl} {i : Nat} (h : i < v.kids.length) : v.kids.drop i = v.kid i :: v.kids.drop (i + 1) := by
  rw [List.drop_eq_getElem_cons h]; simp [Vl.kid, h]
theorem weighV_step (v : Vl) (n : Nat) (hn : n ≤ 2000000) (ih : ∀ x ∈ v.kids, ∀ n : Nat, n ≤ 2000000 → PCalls Try.prog 43 [embV x, .int .i64 n] (.int .i64 (cntV x n))) : PCalls Try.prog 43 [embV v, .int .i64 n] (.int .i64 (cntV v n)) := by
  have q1 := heavyC1_ok v.co
  cases hb : bigV v with
  | true =>
    rw [cntV_eq, hb]
    have : ((decide ((v.str.size : Int) > 300)) || heavyC [v.co]) = true := by
      rw [← hb]; unfold bigV; congr 1; rw [Bool.eq_iff_iff]; simp; omega
    refine pcalls_text C_ok Try.func43 rfl (by decide) (Nat.le_of_ble_eq_true rfl) (by decide) rfl fun ok H => ?_
    rw [Try.results43]
    have h := True.intro
    repeat' (first
     | (with_reducible first | apply bA | apply bB | apply bC | apply bD | apply bE | apply bF) <;> intro h
     | ((first | refine goCall_norm ?_ | refine goDCall_norm ?_); simp only [AV.norm, AV.normL, W2, W2C, W2V, wrap_nat1 (show n < 4611686018427387904 by omega)]; first | refine goCall_p (q1) (.inl rfl) ?_ | refine goDCall_p (q1) (.inl rfl) ?_)
     | skip) <;> simp only [h, ↓upd_eq, ↓envL_cons, WZ, reduceIte, reduceEqDiff, reduceAdd, reduceLT, reduceLeDiff, reduceCtorEq, reduceMul, reducePow, W1, W1C, W1V, wrap_nat1 (show n < 4611686018427387904 by omega)]
    all_goals first | rfl | (exfalso; simp_all; done) | trace_state
  | false =>
    simp only [bigV, Bool.or_eq_false_iff, decide_eq_false_iff_not] at hb
    have b1 : ((v.str.size : Int) > 300) = False := by simp only [eq_iff_iff, iff_false]; omega
    rw [hb.2] at q1
    have hbig : bigV v = false := by simp [bigV, hb.1, hb.2]
    refine pcalls_text C_ok Try.func43 rfl (by decide) (Nat.le_of_ble_eq_true rfl) (by decide) rfl fun ok H => ?_
    rw [Try.results43]
    have h := True.intro
    repeat' (first
     | (with_reducible first | apply bA | apply bB | apply bC | apply bD | apply bE | apply bF) <;> intro h
     | ((first | refine goCall_norm ?_ | refine goDCall_norm ?_); simp only [AV.norm, AV.normL, W2, W2C, W2V, b1, wrap_nat1 (show n < 4611686018427387904 by omega)]; first | refine goCall_p (q1) (.inl rfl) ?_ | refine goDCall_p (q1) (.inl rfl) ?_)
     | skip) <;> simp only [h, ↓upd_eq, ↓envL_cons, WZ, reduceIte, reduceEqDiff, reduceAdd, reduceLT, reduceLeDiff, reduceCtorEq, reduceMul, reducePow, W1, W1C, W1V, b1, wrap_nat1 (show n < 4611686018427387904 by omega)]
    have hmax : v.kids.length ≤ maxLen := (embV_okay ok.1).1
    have hc0 : cntV v n = cntVL v.kids (n + 1) := by rw [cntV_eq, hbig]; rfl
    refine aloop_trim [1, 5, 2] ?_
    simp only [List.map_cons, List.map_nil, ↓upd_eq, ↓envL_cons, WZ, reduceIte, reduceEqDiff, reduceAdd, reduceLT, reduceLeDiff, reduceCtorEq, reduceMul, reducePow, W1, W1C, W1V]
    refine goLoopS 2 (fun x : Nat × Nat => [(1, .int .i64 x.2), (5, .int .i64 x.1)]) (fun _ => _) (fun x => x.1 ≤ v.kids.length ∧ x.2 ≤ 2000001 ∧ cntVL (v.kids.drop x.1) x.2 = cntV v n) (fun x => v.kids.length - x.1) C_ok (0, n + 1) rfl rfl ⟨Nat.zero_le _, by simp only; omega, hc0.symm⟩ (by decide) ?_
    rintro ⟨i, m⟩ ⟨hi, hm, hr⟩
    simp only at hi hm hr
    simp only [List.drop_succ_cons, List.drop_zero, List.cons_append, List.nil_append]
    simp only [↓upd_eq, ↓envL_cons, WZ, reduceIte, reduceEqDiff, reduceAdd, reduceLT, reduceLeDiff, reduceCtorEq, reduceMul, reducePow, W1, W1C, W1V]
    refine goGb_d (fun hlt => ?_) (fun hlt => ?_)
    · simp only [hlt, ↓upd_eq, ↓envL_cons, WZ, reduceIte, reduceEqDiff, reduceAdd, reduceLT, reduceLeDiff, reduceCtorEq, reduceMul, reducePow, W1, W1C, W1V]
      refine goIf_d (fun h6 => ?_) (fun h6 => ?_)
      · have h6' : m ≤ 400 := by omega
        have h := True.intro
        repeat' (first
         | (with_reducible first | apply bA | apply bB | apply bC | apply bD | apply bE | apply bF) <;> intro h
         | ((first | refine goCall_norm ?_ | refine goDCall_norm ?_); simp only [AV.norm, AV.normL, W2, W2C, W2V, hlt, mapV_kid hlt]; first | refine goCall_p (ih _ (vlkid_mem hlt) m (by omega)) (.inl rfl) ?_ | refine goDCall_p (ih _ (vlkid_mem hlt) m (by omega)) (.inl rfl) ?_)
         | skip) <;> simp only [h, ↓upd_eq, ↓envL_cons, WZ, reduceIte, reduceEqDiff, reduceAdd, reduceLT, reduceLeDiff, reduceCtorEq, reduceMul, reducePow, W1, W1C, W1V, hlt, mapV_kid hlt]
        have hc := cntV_le (v.kid i) m
        refine ⟨(i + 1, cntV (v.kid i) m), ⟨hlt, by simp only; omega, ?_⟩, by simp only; omega, weak_drop rfl rfl rfl rfl ?_ ?_ ?_⟩
        · rw [← hr, dropV_kid hlt, cntVL, if_pos h6']
        all_goals simp only [List.forall_mem_cons, mem_nil_all, frz_app, ↓upd_eq, ↓envL_cons, Nat.reduceEqDiff, if_true, if_false, reduceIte, true_and, and_true, and_self, true_or, or_true, implies_true, List.not_mem_nil, false_implies, AV.bel, AV.belL, AObj.bel, AV.norm, AV.normL, Bool.and_true, Bool.true_and, decide_true, decide_eq_true_eq, List.length_cons, List.length_nil, Nat.zero_add, Nat.reduceAdd, Nat.lt_add_one, Nat.lt_add_right_iff_pos, Nat.zero_lt_succ, Nat.zero_lt_one, Nat.reduceLT, List.take_succ_cons, List.take_zero, wrap_succ hlt hmax, mapV_bel, mapC_bel, AV.belL, List.length_map]
      · simp only [hlt, ↓upd_eq, ↓envL_cons, WZ, reduceIte, reduceEqDiff, reduceAdd, reduceLT, reduceLeDiff, reduceCtorEq, reduceMul, reducePow, W1, W1C, W1V]
        rw [← hr, cntVL_stop (by omega)]
    · simp only [hlt, ↓upd_eq, ↓envL_cons, WZ, reduceIte, reduceEqDiff, reduceAdd, reduceLT, reduceLeDiff, reduceCtorEq, reduceMul, reducePow, W1, W1C, W1V]
      rw [← hr, List.drop_of_length_le (by omega)]; rfl
theorem weighV_ok : ∀ (v : Vl) (n : Nat), n ≤ 2000000 → PCalls Try.prog 43 [embV v, .int .i64 n] (.int .i64 (cntV v n)) :=
  Vl.ind (p := fun v => ∀ n : Nat, n ≤ 2000000 → PCalls Try.prog 43 [embV v, .int .i64 n] (.int .i64 (cntV v n))) fun v ih n hn => weighV_step v n hn fun x hx n hn => ih x hx n hn
def cntVF : List Vl → Nat → Nat
  | [], n => n
  | x :: l, n => cntVF l (cntV x n)
def heavyV (l : List Vl) : Bool := decide ((cntVF l 0 : Int) > 400)
theorem heavyV_ok (l : List Vl) (hl : l.length ≤ 1000000) : PCalls Try.prog 10 [.sl (l.map embV) .no] (.bool (heavyV l)) := by
  refine pcalls_text C_ok Try.func10 rfl (by decide) (Nat.le_of_ble_eq_true rfl) (by decide) rfl fun ok H => ?_
  rw [Try.results10]
  have h := True.intro
  repeat' (first
   | (with_reducible first | apply bA | apply bB | apply bC | apply bD | apply bE | apply bF) <;> intro h
   | skip) <;> simp only [h, ↓upd_eq, ↓envL_cons, WZ, reduceIte, reduceEqDiff, reduceAdd, reduceLT, reduceLeDiff, reduceCtorEq, reduceMul, reducePow, W1, W1C, W1V]
  have hmax : l.length ≤ maxLen := by rw [maxLen_val]; omega
  refine aloop_trim [3, 4, 0] ?_
  simp only [List.map_cons, List.map_nil, ↓upd_eq, ↓envL_cons, WZ, reduceIte, reduceEqDiff, reduceAdd, reduceLT, reduceLeDiff, reduceCtorEq, reduceMul, reducePow, W1, W1C, W1V]
  refine goLoopS 2 (fun x : Nat × Nat => [(3, .int .i64 x.2), (4, .int .i64 x.1)]) (fun _ => _) (fun x => x.1 ≤ l.length ∧ x.2 ≤ 401 + x.1 ∧ cntVF (l.drop x.1) x.2 = cntVF l 0) (fun x => l.length - x.1) C_ok (0, 0) rfl rfl ⟨Nat.zero_le _, by simp only; omega, rfl⟩ (by decide) ?_
  rintro ⟨i, m⟩ ⟨hi, hm, hr⟩
  simp only at hi hm hr
  simp only [List.drop_succ_cons, List.drop_zero, List.cons_append, List.nil_append]
  simp only [↓upd_eq, ↓envL_cons, WZ, reduceIte, reduceEqDiff, reduceAdd, reduceLT, reduceLeDiff, reduceCtorEq, reduceMul, reducePow, W1, W1C, W1V]
  refine goIf_d (fun hlt => ?_) (fun hlt => ?_)
  · have h := True.intro
    repeat' (first
     | (with_reducible first | apply bA | apply bB | apply bC | apply bD | apply bE | apply bF) <;> intro h
     | ((first | refine goCall_norm ?_ | refine goDCall_norm ?_); simp only [AV.norm, AV.normL, W2, W2C, W2V, hlt, mapV_get hlt]; first | refine goCall_p (weighV_ok _ m (by omega)) (.inl rfl) ?_ | refine goDCall_p (weighV_ok _ m (by omega)) (.inl rfl) ?_)
     | skip) <;> simp only [h, ↓upd_eq, ↓envL_cons, WZ, reduceIte, reduceEqDiff, reduceAdd, reduceLT, reduceLeDiff, reduceCtorEq, reduceMul, reducePow, W1, W1C, W1V, hlt, mapV_get hlt]
    have hc := cntV_le (l.getD i default) m
    refine ⟨(i + 1, cntV (l.getD i default) m), ⟨hlt, by simp only; omega, ?_⟩, by simp only; omega, weak_of rfl rfl rfl rfl ?_⟩
    · rw [← hr, List.drop_eq_getElem_cons hlt, cntVF]; simp [hlt]
    all_goals simp only [List.forall_mem_cons, mem_nil_all, frz_app, ↓upd_eq, ↓envL_cons, Nat.reduceEqDiff, if_true, if_false, reduceIte, true_and, and_true, and_self, true_or, or_true, implies_true, List.not_mem_nil, false_implies, AV.bel, AV.belL, AObj.bel, AV.norm, AV.normL, Bool.and_true, Bool.true_and, decide_true, decide_eq_true_eq, List.length_cons, List.length_nil, Nat.zero_add, Nat.reduceAdd, Nat.lt_add_one, Nat.lt_add_right_iff_pos, Nat.zero_lt_succ, Nat.zero_lt_one, Nat.reduceLT, List.take_succ_cons, List.take_zero, wrap_succ hlt hmax, mapV_bel, mapC_bel, AV.belL, List.length_map]
  · simp only [↓upd_eq, ↓envL_cons, WZ, reduceIte, reduceEqDiff, reduceAdd, reduceLT, reduceLeDiff, reduceCtorEq, reduceMul, reducePow, W1, W1C, W1V]
    rw [heavyV, ← hr, List.drop_of_length_le (by omega)]; rfl
theorem heavyV1_ok (a : Vl) : PCalls Try.prog 10 [.sl [embV a] .no] (.bool (heavyV [a])) := heavyV_ok [a] (by simp)
end Go.Proofs.Ytofogicgnldfhaa
end

