/- Lemmas: the functions of coercions, second part. No condition. -/
import Derived.Test.YtofogicgnldfhaaPGa
import Derived.Test.YtofogicgnldfhaaPCa

section
/- Walks: joints. No condition. -/
set_option linter.unusedSimpArgs false
set_option linter.unusedVariables false
set_option maxHeartbeats 4000000
set_option maxRecDepth 100000
namespace Go.Proofs.Ytofogicgnldfhaa
open Go Go.Ab
open Nat (reduceEqDiff reduceAdd reduceLT reduceLeDiff reduceMul reducePow)
attribute [local irreducible] PCalls ACalls CallK GoCall GoDCall GoIf GoGb GoDGb GoO GoD GoX GoDX GoG GoDG GoGv GoDGv Go ALoop

def coNone : Co := .mk 0 0 0 false []
theorem cid_ok : PCalls Try.prog 113 [] (embC (.mk 1 0 0 false [])) := by
  refine pcalls_text C_ok Try.func113 rfl (by decide) (Nat.le_of_ble_eq_true rfl) (by decide) (embC_bel _ _) fun ok H => ?_
  rw [Try.results113]
  have h := True.intro
  repeat' (first
   | (with_reducible first | apply bA | apply bB | apply bC | apply bD | apply bE | apply bF) <;> intro h
   | skip) <;> simp only [h, ↓upd_eq, ↓envL_cons, WZ, reduceIte, reduceEqDiff, reduceAdd, reduceLT, reduceLeDiff, reduceCtorEq, reduceMul, reducePow, W1, W1C]
theorem inner_ok (c k : Co) : PCalls Try.prog 96 [embC c, embC k] (embC (.mk c.kind c.head c.label c.neg [k])) := by
  refine pcalls_text C_ok Try.func96 rfl (by decide) (Nat.le_of_ble_eq_true rfl) (by decide) (embC_bel _ _) fun ok H => ?_
  rw [Try.results96]
  have h := True.intro
  repeat' (first
   | (with_reducible first | apply bA | apply bB | apply bC | apply bD | apply bE | apply bF) <;> intro h
   | skip) <;> simp only [h, ↓upd_eq, ↓envL_cons, WZ, reduceIte, reduceEqDiff, reduceAdd, reduceLT, reduceLeDiff, reduceCtorEq, reduceMul, reducePow, W1, W1C]
theorem around_ok (c k : Co) : PCalls Try.prog 114 [embC c, embC k] (embC (.mk c.kind c.head c.label c.neg [k])) := by
  refine pcalls_text C_ok Try.func114 rfl (by decide) (Nat.le_of_ble_eq_true rfl) (by decide) (embC_bel _ _) fun ok H => ?_
  rw [Try.results114]
  have h := True.intro
  repeat' (first
   | (with_reducible first | apply bA | apply bB | apply bC | apply bD | apply bE | apply bF) <;> intro h
   | skip) <;> simp only [h, ↓upd_eq, ↓envL_cons, WZ, reduceIte, reduceEqDiff, reduceAdd, reduceLT, reduceLeDiff, reduceCtorEq, reduceMul, reducePow, W1, W1C]
theorem rId_ok : PCalls Try.prog 78 [] (embC (.mk 1 0 0 false [])) := by
  refine pcalls_text C_ok Try.func78 rfl (by decide) (Nat.le_of_ble_eq_true rfl) (by decide) (embC_bel _ _) fun ok H => ?_
  rw [Try.results78]
  have h := True.intro
  repeat' (first
   | (with_reducible first | apply bA | apply bB | apply bC | apply bD | apply bE | apply bF) <;> intro h
   | skip) <;> simp only [h, ↓upd_eq, ↓envL_cons, WZ, reduceIte, reduceEqDiff, reduceAdd, reduceLT, reduceLeDiff, reduceCtorEq, reduceMul, reducePow, W1, W1C]

/-- What a joint hands back: the joint, or something and false. -/
def JoinOK (f : Nat) (c d : K) : Prop := ∃ x : Co, PCalls Try.prog f [embC c.co, embC d.co] (.tup [embC x, .bool (joinK c d).isSome]) ∧ ∀ j, joinK c d = some j → x = j.co

theorem tup_bel (x : Co) (b : Bool) : (AV.tup [embC x, .bool b]).bel 0 = true := by simp only [AV.bel, AV.belL, embC_bel, Bool.and_self]

theorem kindb_id (k : K) : (k.co.kind == 1) = k.isId := by rw [← K.kind_id]; rfl


theorem formed_fn (a a' b b' : K) (h1 : JoinOK 70 b a) (h2 : JoinOK 70 a' b') :
    ∃ x : Co, PCalls Try.prog 97 [embC (K.fn a a').co, embC (K.fn b b').co] (.tup [embC x, .bool (both2 mkFn (joinK b a) (joinK a' b')).isSome]) ∧ ∀ j, both2 mkFn (joinK b a) (joinK a' b') = some j → x = j.co := by
  have bk : ((2 : Int) == 2) = true := rfl
  obtain ⟨x1, p1, q1⟩ := h1
  obtain ⟨x2, p2, q2⟩ := h2
  cases e1 : joinK b a with
  | none =>
    rw [e1] at p1
    refine ⟨coNone, ?_, fun j h => by cases h⟩
    show PCalls Try.prog 97 _ (.tup [embC coNone, .bool false])
    simp only [K.co, Option.isSome_none] at *
    refine pcalls_text C_ok Try.func97 rfl (by decide) (Nat.le_of_ble_eq_true rfl) (by decide) (tup_bel _ _) fun ok H => ?_
    rw [Try.results97]
    have h := True.intro
    repeat' (first
     | (with_reducible first | apply bA | apply bB | apply bC | apply bD | apply bE | apply bF) <;> intro h
     | ((first | refine goCall_norm ?_ | refine goDCall_norm ?_); simp only [AV.norm, AV.normL, W2, W2C, Go.Ab.W3, Int.reduceAdd, Int.reduceLT, Int.reduceToNat, Int.reduceBEq, Int.reduceBNe, Int.reduceLE, bk, coNone]; first | refine goCall_p (p1) (.inl rfl) ?_ | refine goCall_p (p2) (.inl rfl) ?_ | refine goDCall_p (p1) (.inl rfl) ?_ | refine goDCall_p (p2) (.inl rfl) ?_)
     | refine go_drawX (id := 5) C_ok (fun _ => trivial) mixed [(27, 9), (30, 9)] 2 Try.f97.ntmps rfl (by kernel_rfl) (by decide) ?_
     | refine goRound ?_ C_ok Try.f97.ntmps rfl (by decide)
     | skip) <;> simp only [h, ↓upd_eq, ↓envL_cons, WZ, reduceIte, reduceEqDiff, reduceAdd, reduceLT, reduceLeDiff, reduceCtorEq, reduceMul, reducePow, W1, W1C, Go.Ab.W3, Int.reduceAdd, Int.reduceLT, Int.reduceToNat, Int.reduceBEq, Int.reduceBNe, Int.reduceLE, bk, coNone, cutNormal_normal]
  | some j1 =>
    rw [e1] at p1
    obtain rfl := q1 _ e1
    cases e2 : joinK a' b' with
    | none =>
      rw [e2] at p2
      refine ⟨coNone, ?_, fun j h => by cases h⟩
      show PCalls Try.prog 97 _ (.tup [embC coNone, .bool false])
      have kb := kindb_id j1
      simp only [K.co, Option.isSome_none, Option.isSome_some] at *
      cases hi1 : j1.isId <;> rw [hi1] at kb
      all_goals
        refine pcalls_text C_ok Try.func97 rfl (by decide) (Nat.le_of_ble_eq_true rfl) (by decide) (tup_bel _ _) fun ok H => ?_
        rw [Try.results97]
        have h := True.intro
        repeat' (first
         | (with_reducible first | apply bA | apply bB | apply bC | apply bD | apply bE | apply bF) <;> intro h
         | ((first | refine goCall_norm ?_ | refine goDCall_norm ?_); simp only [AV.norm, AV.normL, W2, W2C, Go.Ab.W3, Int.reduceAdd, Int.reduceLT, Int.reduceToNat, Int.reduceBEq, Int.reduceBNe, Int.reduceLE, bk, kb, coNone]; first | refine goCall_p (p1) (.inl rfl) ?_ | refine goCall_p (p2) (.inl rfl) ?_ | refine goDCall_p (p1) (.inl rfl) ?_ | refine goDCall_p (p2) (.inl rfl) ?_)
         | refine go_drawX (id := 5) C_ok (fun _ => trivial) mixed [(27, 9), (30, 9)] 2 Try.f97.ntmps rfl (by kernel_rfl) (by decide) ?_
         | refine goRound ?_ C_ok Try.f97.ntmps rfl (by decide)
         | skip) <;> simp only [h, ↓upd_eq, ↓envL_cons, WZ, reduceIte, reduceEqDiff, reduceAdd, reduceLT, reduceLeDiff, reduceCtorEq, reduceMul, reducePow, W1, W1C, Go.Ab.W3, Int.reduceAdd, Int.reduceLT, Int.reduceToNat, Int.reduceBEq, Int.reduceBNe, Int.reduceLE, bk, kb, coNone, cutNormal_normal]
    | some j2 =>
      rw [e2] at p2
      obtain rfl := q2 _ e2
      refine ⟨(mkFn j1 j2).co, ?_, fun j h => by cases h; rfl⟩
      show PCalls Try.prog 97 _ (.tup [embC (mkFn j1 j2).co, .bool true])
      have kb := kindb_id j1
      have kb2 := kindb_id j2
      simp only [K.co, Option.isSome_some] at *
      cases hi1 : j1.isId <;> cases hi2 : j2.isId <;> rw [hi1] at kb <;> rw [hi2] at kb2
      all_goals simp only [mkFn, hi1, hi2, Bool.and_self, Bool.and_true, Bool.and_false, Bool.false_eq_true, if_true, if_false, K.co]
      all_goals
        refine pcalls_text C_ok Try.func97 rfl (by decide) (Nat.le_of_ble_eq_true rfl) (by decide) (tup_bel _ _) fun ok H => ?_
        rw [Try.results97]
        have h := True.intro
        repeat' (first
         | (with_reducible first | apply bA | apply bB | apply bC | apply bD | apply bE | apply bF) <;> intro h
         | ((first | refine goCall_norm ?_ | refine goDCall_norm ?_); simp only [AV.norm, AV.normL, W2, W2C, Go.Ab.W3, Int.reduceAdd, Int.reduceLT, Int.reduceToNat, Int.reduceBEq, Int.reduceBNe, Int.reduceLE, bk, kb, kb2]; first | refine goCall_p (p1) (.inl rfl) ?_ | refine goCall_p (p2) (.inl rfl) ?_ | refine goCall_p (cid_ok) (.inl rfl) ?_ | refine goDCall_p (p1) (.inl rfl) ?_ | refine goDCall_p (p2) (.inl rfl) ?_ | refine goDCall_p (cid_ok) (.inl rfl) ?_)
         | refine go_drawX (id := 5) C_ok (fun _ => trivial) mixed [(27, 9), (30, 9)] 2 Try.f97.ntmps rfl (by kernel_rfl) (by decide) ?_
         | refine goRound ?_ C_ok Try.f97.ntmps rfl (by decide)
         | skip) <;> simp only [h, ↓upd_eq, ↓envL_cons, WZ, reduceIte, reduceEqDiff, reduceAdd, reduceLT, reduceLeDiff, reduceCtorEq, reduceMul, reducePow, W1, W1C, Go.Ab.W3, Int.reduceAdd, Int.reduceLT, Int.reduceToNat, Int.reduceBEq, Int.reduceBNe, Int.reduceLE, bk, kb, kb2, cutNormal_normal]
theorem formed_pair (a a' b b' : K) (h1 : JoinOK 70 a b) (h2 : JoinOK 70 a' b') :
    ∃ x : Co, PCalls Try.prog 97 [embC (K.pair a a').co, embC (K.pair b b').co] (.tup [embC x, .bool (both2 mkPair (joinK a b) (joinK a' b')).isSome]) ∧ ∀ j, both2 mkPair (joinK a b) (joinK a' b') = some j → x = j.co := by
  have bk : ((3 : Int) == 2) = false := rfl
  obtain ⟨x1, p1, q1⟩ := h1
  obtain ⟨x2, p2, q2⟩ := h2
  cases e1 : joinK a b with
  | none =>
    rw [e1] at p1
    refine ⟨coNone, ?_, fun j h => by cases h⟩
    show PCalls Try.prog 97 _ (.tup [embC coNone, .bool false])
    simp only [K.co, Option.isSome_none] at *
    refine pcalls_text C_ok Try.func97 rfl (by decide) (Nat.le_of_ble_eq_true rfl) (by decide) (tup_bel _ _) fun ok H => ?_
    rw [Try.results97]
    have h := True.intro
    repeat' (first
     | (with_reducible first | apply bA | apply bB | apply bC | apply bD | apply bE | apply bF) <;> intro h
     | ((first | refine goCall_norm ?_ | refine goDCall_norm ?_); simp only [AV.norm, AV.normL, W2, W2C, Go.Ab.W3, Int.reduceAdd, Int.reduceLT, Int.reduceToNat, Int.reduceBEq, Int.reduceBNe, Int.reduceLE, bk, coNone]; first | refine goCall_p (p1) (.inl rfl) ?_ | refine goCall_p (p2) (.inl rfl) ?_ | refine goDCall_p (p1) (.inl rfl) ?_ | refine goDCall_p (p2) (.inl rfl) ?_)
     | refine go_drawX (id := 5) C_ok (fun _ => trivial) mixed [(27, 9), (30, 9)] 2 Try.f97.ntmps rfl (by kernel_rfl) (by decide) ?_
     | refine goRound ?_ C_ok Try.f97.ntmps rfl (by decide)
     | skip) <;> simp only [h, ↓upd_eq, ↓envL_cons, WZ, reduceIte, reduceEqDiff, reduceAdd, reduceLT, reduceLeDiff, reduceCtorEq, reduceMul, reducePow, W1, W1C, Go.Ab.W3, Int.reduceAdd, Int.reduceLT, Int.reduceToNat, Int.reduceBEq, Int.reduceBNe, Int.reduceLE, bk, coNone, cutNormal_normal]
  | some j1 =>
    rw [e1] at p1
    obtain rfl := q1 _ e1
    cases e2 : joinK a' b' with
    | none =>
      rw [e2] at p2
      refine ⟨coNone, ?_, fun j h => by cases h⟩
      show PCalls Try.prog 97 _ (.tup [embC coNone, .bool false])
      have kb := kindb_id j1
      simp only [K.co, Option.isSome_none, Option.isSome_some] at *
      cases hi1 : j1.isId <;> rw [hi1] at kb
      all_goals
        refine pcalls_text C_ok Try.func97 rfl (by decide) (Nat.le_of_ble_eq_true rfl) (by decide) (tup_bel _ _) fun ok H => ?_
        rw [Try.results97]
        have h := True.intro
        repeat' (first
         | (with_reducible first | apply bA | apply bB | apply bC | apply bD | apply bE | apply bF) <;> intro h
         | ((first | refine goCall_norm ?_ | refine goDCall_norm ?_); simp only [AV.norm, AV.normL, W2, W2C, Go.Ab.W3, Int.reduceAdd, Int.reduceLT, Int.reduceToNat, Int.reduceBEq, Int.reduceBNe, Int.reduceLE, bk, kb, coNone]; first | refine goCall_p (p1) (.inl rfl) ?_ | refine goCall_p (p2) (.inl rfl) ?_ | refine goDCall_p (p1) (.inl rfl) ?_ | refine goDCall_p (p2) (.inl rfl) ?_)
         | refine go_drawX (id := 5) C_ok (fun _ => trivial) mixed [(27, 9), (30, 9)] 2 Try.f97.ntmps rfl (by kernel_rfl) (by decide) ?_
         | refine goRound ?_ C_ok Try.f97.ntmps rfl (by decide)
         | skip) <;> simp only [h, ↓upd_eq, ↓envL_cons, WZ, reduceIte, reduceEqDiff, reduceAdd, reduceLT, reduceLeDiff, reduceCtorEq, reduceMul, reducePow, W1, W1C, Go.Ab.W3, Int.reduceAdd, Int.reduceLT, Int.reduceToNat, Int.reduceBEq, Int.reduceBNe, Int.reduceLE, bk, kb, coNone, cutNormal_normal]
    | some j2 =>
      rw [e2] at p2
      obtain rfl := q2 _ e2
      refine ⟨(mkPair j1 j2).co, ?_, fun j h => by cases h; rfl⟩
      show PCalls Try.prog 97 _ (.tup [embC (mkPair j1 j2).co, .bool true])
      have kb := kindb_id j1
      have kb2 := kindb_id j2
      simp only [K.co, Option.isSome_some] at *
      cases hi1 : j1.isId <;> cases hi2 : j2.isId <;> rw [hi1] at kb <;> rw [hi2] at kb2
      all_goals simp only [mkPair, hi1, hi2, Bool.and_self, Bool.and_true, Bool.and_false, Bool.false_eq_true, if_true, if_false, K.co]
      all_goals
        refine pcalls_text C_ok Try.func97 rfl (by decide) (Nat.le_of_ble_eq_true rfl) (by decide) (tup_bel _ _) fun ok H => ?_
        rw [Try.results97]
        have h := True.intro
        repeat' (first
         | (with_reducible first | apply bA | apply bB | apply bC | apply bD | apply bE | apply bF) <;> intro h
         | ((first | refine goCall_norm ?_ | refine goDCall_norm ?_); simp only [AV.norm, AV.normL, W2, W2C, Go.Ab.W3, Int.reduceAdd, Int.reduceLT, Int.reduceToNat, Int.reduceBEq, Int.reduceBNe, Int.reduceLE, bk, kb, kb2]; first | refine goCall_p (p1) (.inl rfl) ?_ | refine goCall_p (p2) (.inl rfl) ?_ | refine goCall_p (cid_ok) (.inl rfl) ?_ | refine goDCall_p (p1) (.inl rfl) ?_ | refine goDCall_p (p2) (.inl rfl) ?_ | refine goDCall_p (cid_ok) (.inl rfl) ?_)
         | refine go_drawX (id := 5) C_ok (fun _ => trivial) mixed [(27, 9), (30, 9)] 2 Try.f97.ntmps rfl (by kernel_rfl) (by decide) ?_
         | refine goRound ?_ C_ok Try.f97.ntmps rfl (by decide)
         | skip) <;> simp only [h, ↓upd_eq, ↓envL_cons, WZ, reduceIte, reduceEqDiff, reduceAdd, reduceLT, reduceLeDiff, reduceCtorEq, reduceMul, reducePow, W1, W1C, Go.Ab.W3, Int.reduceAdd, Int.reduceLT, Int.reduceToNat, Int.reduceBEq, Int.reduceBNe, Int.reduceLE, bk, kb, kb2, cutNormal_normal]
theorem formed_list (a b : K) (h1 : JoinOK 70 a b) :
    ∃ x : Co, PCalls Try.prog 97 [embC (K.list a).co, embC (K.list b).co] (.tup [embC x, .bool ((joinK a b).map mkList).isSome]) ∧ ∀ j, (joinK a b).map mkList = some j → x = j.co := by
  have bk : ((4 : Int) == 2) = false := rfl
  obtain ⟨x1, p1, q1⟩ := h1
  cases e1 : joinK a b with
  | none =>
    rw [e1] at p1
    refine ⟨coNone, ?_, fun j h => by cases h⟩
    show PCalls Try.prog 97 _ (.tup [embC coNone, .bool false])
    simp only [K.co, Option.isSome_none] at *
    refine pcalls_text C_ok Try.func97 rfl (by decide) (Nat.le_of_ble_eq_true rfl) (by decide) (tup_bel _ _) fun ok H => ?_
    rw [Try.results97]
    have h := True.intro
    repeat' (first
     | (with_reducible first | apply bA | apply bB | apply bC | apply bD | apply bE | apply bF) <;> intro h
     | ((first | refine goCall_norm ?_ | refine goDCall_norm ?_); simp only [AV.norm, AV.normL, W2, W2C, Go.Ab.W3, Int.reduceAdd, Int.reduceLT, Int.reduceToNat, Int.reduceBEq, Int.reduceBNe, Int.reduceLE, bk, coNone]; first | refine goCall_p (p1) (.inl rfl) ?_ | refine goDCall_p (p1) (.inl rfl) ?_)
     | refine go_drawX (id := 5) C_ok (fun _ => trivial) mixed [(27, 9), (30, 9)] 2 Try.f97.ntmps rfl (by kernel_rfl) (by decide) ?_
     | refine goRound ?_ C_ok Try.f97.ntmps rfl (by decide)
     | skip) <;> simp only [h, ↓upd_eq, ↓envL_cons, WZ, reduceIte, reduceEqDiff, reduceAdd, reduceLT, reduceLeDiff, reduceCtorEq, reduceMul, reducePow, W1, W1C, Go.Ab.W3, Int.reduceAdd, Int.reduceLT, Int.reduceToNat, Int.reduceBEq, Int.reduceBNe, Int.reduceLE, bk, coNone, cutNormal_normal]
  | some j1 =>
    rw [e1] at p1
    obtain rfl := q1 _ e1
    refine ⟨(mkList j1).co, ?_, fun j h => by cases h; rfl⟩
    show PCalls Try.prog 97 _ (.tup [embC (mkList j1).co, .bool true])
    have kb := kindb_id j1
    simp only [K.co, Option.isSome_some] at *
    cases hi1 : j1.isId <;> rw [hi1] at kb
    all_goals simp only [mkList, hi1, Bool.false_eq_true, if_true, if_false, K.co]
    all_goals
      refine pcalls_text C_ok Try.func97 rfl (by decide) (Nat.le_of_ble_eq_true rfl) (by decide) (tup_bel _ _) fun ok H => ?_
      rw [Try.results97]
      have h := True.intro
      repeat' (first
       | (with_reducible first | apply bA | apply bB | apply bC | apply bD | apply bE | apply bF) <;> intro h
       | ((first | refine goCall_norm ?_ | refine goDCall_norm ?_); simp only [AV.norm, AV.normL, W2, W2C, Go.Ab.W3, Int.reduceAdd, Int.reduceLT, Int.reduceToNat, Int.reduceBEq, Int.reduceBNe, Int.reduceLE, bk, kb]; first | refine goCall_p (p1) (.inl rfl) ?_ | refine goCall_p (cid_ok) (.inl rfl) ?_ | refine goDCall_p (p1) (.inl rfl) ?_ | refine goDCall_p (cid_ok) (.inl rfl) ?_)
       | refine go_drawX (id := 5) C_ok (fun _ => trivial) mixed [(27, 9), (30, 9)] 2 Try.f97.ntmps rfl (by kernel_rfl) (by decide) ?_
       | refine goRound ?_ C_ok Try.f97.ntmps rfl (by decide)
       | skip) <;> simp only [h, ↓upd_eq, ↓envL_cons, WZ, reduceIte, reduceEqDiff, reduceAdd, reduceLT, reduceLeDiff, reduceCtorEq, reduceMul, reducePow, W1, W1C, Go.Ab.W3, Int.reduceAdd, Int.reduceLT, Int.reduceToNat, Int.reduceBEq, Int.reduceBNe, Int.reduceLE, bk, kb, cutNormal_normal]

end Go.Proofs.Ytofogicgnldfhaa
end

section
/- Walks: joints, whole. No condition. -/
set_option linter.unusedSimpArgs false
set_option linter.unusedVariables false
set_option maxHeartbeats 4000000
set_option maxRecDepth 100000
namespace Go.Proofs.Ytofogicgnldfhaa
open Go Go.Ab
open Nat (reduceEqDiff reduceAdd reduceLT reduceLeDiff reduceMul reducePow)
attribute [local irreducible] PCalls ACalls CallK GoCall GoDCall GoIf GoGb GoDGb GoO GoD GoX GoDX GoG GoDG GoGv GoDGv Go ALoop

theorem bk_of {k : K} {n : Int} (h : k.co.kind ≠ n) : (k.co.kind == n) = false := by simpa using h
theorem bk_eq {a b : Int} (h : a ≠ b) : (a != b) = true := by simpa using h

/-- What does not depend on the second one's form. -/
theorem join_id_r (c : K) (hc : c ≠ .id) : PCalls Try.prog 70 [embC c.co, embC K.id.co] (.tup [embC c.co, .bool true]) := by
  have b1 : (c.co.kind == 1) = false := bk_of (by intro h; exact hc (isId_iff.1 (by rw [← K.kind_id]; simpa using h)))
  simp only [show K.id.co = .mk 1 0 0 false [] from rfl]
  refine pcalls_text C_ok Try.func70 rfl (by decide) (Nat.le_of_ble_eq_true rfl) (by decide) (tup_bel _ _) fun ok H => ?_
  rw [Try.results70]
  have h := True.intro
  repeat' (first
   | (with_reducible first | apply bA | apply bB | apply bC | apply bD | apply bE | apply bF) <;> intro h
   | refine go_draw (id := 6) C_ok (fun _ => trivial) mixed 1 Try.f70.ntmps rfl (by kernel_rfl) (by decide) ?_
   | refine go_draw (id := 11) C_ok (fun _ => trivial) mixed 0 Try.f70.ntmps rfl (by kernel_rfl) (by decide) ?_
   | refine go_draw (id := 17) C_ok (fun _ => trivial) mixed 1 Try.f70.ntmps rfl (by kernel_rfl) (by decide) ?_
   | skip) <;> simp only [h, ↓upd_eq, ↓envL_cons, WZ, reduceIte, reduceEqDiff, reduceAdd, reduceLT, reduceLeDiff, reduceCtorEq, reduceMul, reducePow, W1, W1C, b1]
theorem join_step (c d : K) (ih : ∀ x y : K, x.size + y.size < c.size + d.size → JoinOK 70 x y) : JoinOK 70 c d := by
  have none_ : joinK c d = none → PCalls Try.prog 70 [embC c.co, embC d.co] (.tup [embC (.mk 0 0 0 false []), .bool false]) → JoinOK 70 c d := fun h p =>
    ⟨_, by rw [h]; exact p, fun j hj => by rw [h] at hj; cases hj⟩
  have some_ : ∀ j, joinK c d = some j → PCalls Try.prog 70 [embC c.co, embC d.co] (.tup [embC j.co, .bool true]) → JoinOK 70 c d := fun j h p =>
    ⟨_, by rw [h]; exact p, fun j' hj => by rw [h] at hj; cases hj; rfl⟩
  by_cases hcid : c = .id
  · subst hcid
    refine some_ d (joinK_id d) ?_
    simp only [show K.id.co = .mk 1 0 0 false [] from rfl]
    refine pcalls_text C_ok Try.func70 rfl (by decide) (Nat.le_of_ble_eq_true rfl) (by decide) (tup_bel _ _) fun ok H => ?_
    rw [Try.results70]
    have h := True.intro
    repeat' (first
     | (with_reducible first | apply bA | apply bB | apply bC | apply bD | apply bE | apply bF) <;> intro h
     | refine go_draw (id := 6) C_ok (fun _ => trivial) mixed 1 Try.f70.ntmps rfl (by kernel_rfl) (by decide) ?_
     | refine go_draw (id := 11) C_ok (fun _ => trivial) mixed 0 Try.f70.ntmps rfl (by kernel_rfl) (by decide) ?_
     | refine go_draw (id := 17) C_ok (fun _ => trivial) mixed 1 Try.f70.ntmps rfl (by kernel_rfl) (by decide) ?_
     | skip) <;> simp only [h, ↓upd_eq, ↓envL_cons, WZ, reduceIte, reduceEqDiff, reduceAdd, reduceLT, reduceLeDiff, reduceCtorEq, reduceMul, reducePow, W1, W1C]
  by_cases hdid : d = .id
  · subst hdid
    exact some_ c joinK_form_id (join_id_r c hcid)
  have bd1 : (d.co.kind == 1) = false := bk_of (by intro h; exact hdid (isId_iff.1 (by rw [← K.kind_id]; simpa using h)))
  cases c with
  | id => exact absurd rfl hcid
  | fail l n =>
    refine some_ _ (joinK_fail l n d) ?_
    simp only [K.co]
    refine pcalls_text C_ok Try.func70 rfl (by decide) (Nat.le_of_ble_eq_true rfl) (by decide) (tup_bel _ _) fun ok H => ?_
    rw [Try.results70]
    have h := True.intro
    repeat' (first
     | (with_reducible first | apply bA | apply bB | apply bC | apply bD | apply bE | apply bF) <;> intro h
     | refine go_draw (id := 6) C_ok (fun _ => trivial) mixed 1 Try.f70.ntmps rfl (by kernel_rfl) (by decide) ?_
     | refine go_draw (id := 11) C_ok (fun _ => trivial) mixed 0 Try.f70.ntmps rfl (by kernel_rfl) (by decide) ?_
     | refine go_draw (id := 17) C_ok (fun _ => trivial) mixed 1 Try.f70.ntmps rfl (by kernel_rfl) (by decide) ?_
     | refine goRound ?_ C_ok Try.f70.ntmps rfl (by decide)
     | skip) <;> simp only [h, ↓upd_eq, ↓envL_cons, WZ, reduceIte, reduceEqDiff, reduceAdd, reduceLT, reduceLeDiff, reduceCtorEq, reduceMul, reducePow, W1, W1C, Go.Ab.W3, Int.reduceAdd, Int.reduceLT, Int.reduceToNat, Int.reduceBEq, Int.reduceBNe, Int.reduceLE, bd1, cutNormal_normal]
  | proj h l n k =>
    obtain ⟨x, p, q⟩ := ih k d (by simp only [K.size]; omega)
    refine ⟨.mk 6 h l n [x], ?_, fun j hj => ?_⟩
    · rw [joinK_proj, Option.isSome_map]
      simp only [K.co]
      refine pcalls_text C_ok Try.func70 rfl (by decide) (Nat.le_of_ble_eq_true rfl) (by decide) (tup_bel _ _) fun ok H => ?_
      rw [Try.results70]
      have h := True.intro
      repeat' (first
       | (with_reducible first | apply bA | apply bB | apply bC | apply bD | apply bE | apply bF) <;> intro h
       | ((first | refine goCall_norm ?_ | refine goDCall_norm ?_); simp only [AV.norm, AV.normL, W2, W2C, Go.Ab.W3, Int.reduceAdd, Int.reduceLT, Int.reduceToNat, Int.reduceBEq, Int.reduceBNe, Int.reduceLE, bd1]; first | refine goCall_p (p) (.inl rfl) ?_ | refine goCall_p (inner_ok _ _) (.inl rfl) ?_ | refine goDCall_p (p) (.inl rfl) ?_ | refine goDCall_p (inner_ok _ _) (.inl rfl) ?_)
       | refine go_draw (id := 6) C_ok (fun _ => trivial) mixed 1 Try.f70.ntmps rfl (by kernel_rfl) (by decide) ?_
       | refine go_draw (id := 11) C_ok (fun _ => trivial) mixed 0 Try.f70.ntmps rfl (by kernel_rfl) (by decide) ?_
       | refine go_draw (id := 17) C_ok (fun _ => trivial) mixed 1 Try.f70.ntmps rfl (by kernel_rfl) (by decide) ?_
       | refine goRound ?_ C_ok Try.f70.ntmps rfl (by decide)
       | skip) <;> simp only [h, ↓upd_eq, ↓envL_cons, WZ, reduceIte, reduceEqDiff, reduceAdd, reduceLT, reduceLeDiff, reduceCtorEq, reduceMul, reducePow, W1, W1C, Go.Ab.W3, Int.reduceAdd, Int.reduceLT, Int.reduceToNat, Int.reduceBEq, Int.reduceBNe, Int.reduceLE, bd1, cutNormal_normal]
    · rw [joinK_proj] at hj
      obtain ⟨j', h1, rfl⟩ := map_some' hj
      rw [q j' h1]; rfl
  | inj h k =>
    by_cases hdp : ∃ h' l n k', d = .proj h' l n k'
    · obtain ⟨h', l, n, k', rfl⟩ := hdp
      by_cases hh : h = h'
      · subst hh
        obtain ⟨x, p, q⟩ := ih k k' (by simp only [K.size]; omega)
        have e : joinK (.inj h k) (.proj h l n k') = joinK k k' := by rw [joinK_inj_proj, if_pos rfl]
        refine ⟨x, ?_, fun j hj => q j (by rw [← e]; exact hj)⟩
        rw [e]
        simp only [K.co]
        refine pcalls_text C_ok Try.func70 rfl (by decide) (Nat.le_of_ble_eq_true rfl) (by decide) (tup_bel _ _) fun ok H => ?_
        rw [Try.results70]
        have h := True.intro
        repeat' (first
         | (with_reducible first | apply bA | apply bB | apply bC | apply bD | apply bE | apply bF) <;> intro h
         | ((first | refine goCall_norm ?_ | refine goDCall_norm ?_); simp only [AV.norm, AV.normL, W2, W2C, Go.Ab.W3, Int.reduceAdd, Int.reduceLT, Int.reduceToNat, Int.reduceBEq, Int.reduceBNe, Int.reduceLE, bne_self_eq_false]; first | refine goCall_p (p) (.inl rfl) ?_ | refine goDCall_p (p) (.inl rfl) ?_)
         | refine go_draw (id := 6) C_ok (fun _ => trivial) mixed 1 Try.f70.ntmps rfl (by kernel_rfl) (by decide) ?_
         | refine go_draw (id := 11) C_ok (fun _ => trivial) mixed 0 Try.f70.ntmps rfl (by kernel_rfl) (by decide) ?_
         | refine go_draw (id := 17) C_ok (fun _ => trivial) mixed 1 Try.f70.ntmps rfl (by kernel_rfl) (by decide) ?_
         | refine goRound ?_ C_ok Try.f70.ntmps rfl (by decide)
         | skip) <;> simp only [h, ↓upd_eq, ↓envL_cons, WZ, reduceIte, reduceEqDiff, reduceAdd, reduceLT, reduceLeDiff, reduceCtorEq, reduceMul, reducePow, W1, W1C, Go.Ab.W3, Int.reduceAdd, Int.reduceLT, Int.reduceToNat, Int.reduceBEq, Int.reduceBNe, Int.reduceLE, bne_self_eq_false, cutNormal_normal]
      · refine some_ (.fail l n) (by rw [joinK_inj_proj, if_neg hh]) ?_
        have bh := bk_eq hh
        simp only [K.co]
        refine pcalls_text C_ok Try.func70 rfl (by decide) (Nat.le_of_ble_eq_true rfl) (by decide) (tup_bel _ _) fun ok H => ?_
        rw [Try.results70]
        have h := True.intro
        repeat' (first
         | (with_reducible first | apply bA | apply bB | apply bC | apply bD | apply bE | apply bF) <;> intro h
         | refine go_draw (id := 6) C_ok (fun _ => trivial) mixed 1 Try.f70.ntmps rfl (by kernel_rfl) (by decide) ?_
         | refine go_draw (id := 11) C_ok (fun _ => trivial) mixed 0 Try.f70.ntmps rfl (by kernel_rfl) (by decide) ?_
         | refine go_draw (id := 17) C_ok (fun _ => trivial) mixed 1 Try.f70.ntmps rfl (by kernel_rfl) (by decide) ?_
         | refine goRound ?_ C_ok Try.f70.ntmps rfl (by decide)
         | skip) <;> simp only [h, ↓upd_eq, ↓envL_cons, WZ, reduceIte, reduceEqDiff, reduceAdd, reduceLT, reduceLeDiff, reduceCtorEq, reduceMul, reducePow, W1, W1C, Go.Ab.W3, Int.reduceAdd, Int.reduceLT, Int.reduceToNat, Int.reduceBEq, Int.reduceBNe, Int.reduceLE, bh, cutNormal_normal]
    · have b6 : (d.co.kind == 6) = false := bk_of (by cases d <;> simp [K.co, Co.kind]; exact absurd ⟨_, _, _, _, rfl⟩ hdp)
      refine none_ (joinK_inj_none _ _ _ (by cases d <;> first | rfl | exact absurd rfl hdid) (fun h' l n k' e => hdp ⟨_, _, _, _, e⟩)) ?_
      simp only [K.co]
      refine pcalls_text C_ok Try.func70 rfl (by decide) (Nat.le_of_ble_eq_true rfl) (by decide) (tup_bel _ _) fun ok H => ?_
      rw [Try.results70]
      have h := True.intro
      repeat' (first
       | (with_reducible first | apply bA | apply bB | apply bC | apply bD | apply bE | apply bF) <;> intro h
       | refine go_draw (id := 6) C_ok (fun _ => trivial) mixed 1 Try.f70.ntmps rfl (by kernel_rfl) (by decide) ?_
       | refine go_draw (id := 11) C_ok (fun _ => trivial) mixed 0 Try.f70.ntmps rfl (by kernel_rfl) (by decide) ?_
       | refine go_draw (id := 17) C_ok (fun _ => trivial) mixed 1 Try.f70.ntmps rfl (by kernel_rfl) (by decide) ?_
       | refine goRound ?_ C_ok Try.f70.ntmps rfl (by decide)
       | skip) <;> simp only [h, ↓upd_eq, ↓envL_cons, WZ, reduceIte, reduceEqDiff, reduceAdd, reduceLT, reduceLeDiff, reduceCtorEq, reduceMul, reducePow, W1, W1C, Go.Ab.W3, Int.reduceAdd, Int.reduceLT, Int.reduceToNat, Int.reduceBEq, Int.reduceBNe, Int.reduceLE, bd1, b6, cutNormal_normal]
  | fn x y =>
    have hcf : (K.fn x y).isForm = true := rfl
    cases d with
    | id => exact absurd rfl hdid
    | fail l n =>
      refine some_ _ (joinK_form_fail hcf l n) ?_
      simp only [K.co]
      refine pcalls_text C_ok Try.func70 rfl (by decide) (Nat.le_of_ble_eq_true rfl) (by decide) (tup_bel _ _) fun ok H => ?_
      rw [Try.results70]
      have h := True.intro
      repeat' (first
       | (with_reducible first | apply bA | apply bB | apply bC | apply bD | apply bE | apply bF) <;> intro h
       | refine go_draw (id := 6) C_ok (fun _ => trivial) mixed 1 Try.f70.ntmps rfl (by kernel_rfl) (by decide) ?_
       | refine go_draw (id := 11) C_ok (fun _ => trivial) mixed 0 Try.f70.ntmps rfl (by kernel_rfl) (by decide) ?_
       | refine go_draw (id := 17) C_ok (fun _ => trivial) mixed 1 Try.f70.ntmps rfl (by kernel_rfl) (by decide) ?_
       | refine goRound ?_ C_ok Try.f70.ntmps rfl (by decide)
       | skip) <;> simp only [h, ↓upd_eq, ↓envL_cons, WZ, reduceIte, reduceEqDiff, reduceAdd, reduceLT, reduceLeDiff, reduceCtorEq, reduceMul, reducePow, W1, W1C, Go.Ab.W3, Int.reduceAdd, Int.reduceLT, Int.reduceToNat, Int.reduceBEq, Int.reduceBNe, Int.reduceLE, cutNormal_normal]
    | proj h l n k =>
      refine none_ (joinK_form_proj hcf h l n k) ?_
      simp only [K.co]
      refine pcalls_text C_ok Try.func70 rfl (by decide) (Nat.le_of_ble_eq_true rfl) (by decide) (tup_bel _ _) fun ok H => ?_
      rw [Try.results70]
      have h := True.intro
      repeat' (first
       | (with_reducible first | apply bA | apply bB | apply bC | apply bD | apply bE | apply bF) <;> intro h
       | refine go_draw (id := 6) C_ok (fun _ => trivial) mixed 1 Try.f70.ntmps rfl (by kernel_rfl) (by decide) ?_
       | refine go_draw (id := 11) C_ok (fun _ => trivial) mixed 0 Try.f70.ntmps rfl (by kernel_rfl) (by decide) ?_
       | refine go_draw (id := 17) C_ok (fun _ => trivial) mixed 1 Try.f70.ntmps rfl (by kernel_rfl) (by decide) ?_
       | refine goRound ?_ C_ok Try.f70.ntmps rfl (by decide)
       | skip) <;> simp only [h, ↓upd_eq, ↓envL_cons, WZ, reduceIte, reduceEqDiff, reduceAdd, reduceLT, reduceLeDiff, reduceCtorEq, reduceMul, reducePow, W1, W1C, Go.Ab.W3, Int.reduceAdd, Int.reduceLT, Int.reduceToNat, Int.reduceBEq, Int.reduceBNe, Int.reduceLE, cutNormal_normal]
    | inj h k =>
      obtain ⟨x, p, q⟩ := ih (.fn x y) k (by simp only [K.size]; omega)
      refine ⟨.mk 5 h 0 false [x], ?_, fun j hj => ?_⟩
      · rw [joinK_form_inj hcf, Option.isSome_map]
        simp only [K.co] at p ⊢
        refine pcalls_text C_ok Try.func70 rfl (by decide) (Nat.le_of_ble_eq_true rfl) (by decide) (tup_bel _ _) fun ok H => ?_
        rw [Try.results70]
        have h := True.intro
        repeat' (first
         | (with_reducible first | apply bA | apply bB | apply bC | apply bD | apply bE | apply bF) <;> intro h
         | ((first | refine goCall_norm ?_ | refine goDCall_norm ?_); simp only [AV.norm, AV.normL, W2, W2C, Go.Ab.W3, Int.reduceAdd, Int.reduceLT, Int.reduceToNat, Int.reduceBEq, Int.reduceBNe, Int.reduceLE]; first | refine goCall_p (p) (.inl rfl) ?_ | refine goCall_p (inner_ok _ _) (.inl rfl) ?_ | refine goDCall_p (p) (.inl rfl) ?_ | refine goDCall_p (inner_ok _ _) (.inl rfl) ?_)
         | refine go_draw (id := 6) C_ok (fun _ => trivial) mixed 1 Try.f70.ntmps rfl (by kernel_rfl) (by decide) ?_
         | refine go_draw (id := 11) C_ok (fun _ => trivial) mixed 0 Try.f70.ntmps rfl (by kernel_rfl) (by decide) ?_
         | refine go_draw (id := 17) C_ok (fun _ => trivial) mixed 1 Try.f70.ntmps rfl (by kernel_rfl) (by decide) ?_
         | refine goRound ?_ C_ok Try.f70.ntmps rfl (by decide)
         | skip) <;> simp only [h, ↓upd_eq, ↓envL_cons, WZ, reduceIte, reduceEqDiff, reduceAdd, reduceLT, reduceLeDiff, reduceCtorEq, reduceMul, reducePow, W1, W1C, Go.Ab.W3, Int.reduceAdd, Int.reduceLT, Int.reduceToNat, Int.reduceBEq, Int.reduceBNe, Int.reduceLE, cutNormal_normal]
      · rw [joinK_form_inj hcf] at hj
        obtain ⟨j', h1, rfl⟩ := map_some' hj
        rw [q j' h1]; rfl
    | fn x' y' =>
      obtain ⟨z, p, q⟩ := formed_fn _ _ _ _ (ih x' x (by simp only [K.size]; omega)) (ih y y' (by simp only [K.size]; omega))
      refine ⟨z, ?_, fun j hj => q j (by rw [← joinK_fn]; exact hj)⟩
      rw [joinK_fn]
      simp only [K.co] at p ⊢
      refine pcalls_text C_ok Try.func70 rfl (by decide) (Nat.le_of_ble_eq_true rfl) (by decide) (tup_bel _ _) fun ok H => ?_
      rw [Try.results70]
      have h := True.intro
      repeat' (first
       | (with_reducible first | apply bA | apply bB | apply bC | apply bD | apply bE | apply bF) <;> intro h
       | ((first | refine goCall_norm ?_ | refine goDCall_norm ?_); simp only [AV.norm, AV.normL, W2, W2C, Go.Ab.W3, Int.reduceAdd, Int.reduceLT, Int.reduceToNat, Int.reduceBEq, Int.reduceBNe, Int.reduceLE]; first | refine goCall_p (p) (.inl rfl) ?_ | refine goDCall_p (p) (.inl rfl) ?_)
       | refine go_draw (id := 6) C_ok (fun _ => trivial) mixed 1 Try.f70.ntmps rfl (by kernel_rfl) (by decide) ?_
       | refine go_draw (id := 11) C_ok (fun _ => trivial) mixed 0 Try.f70.ntmps rfl (by kernel_rfl) (by decide) ?_
       | refine go_draw (id := 17) C_ok (fun _ => trivial) mixed 1 Try.f70.ntmps rfl (by kernel_rfl) (by decide) ?_
       | refine goRound ?_ C_ok Try.f70.ntmps rfl (by decide)
       | skip) <;> simp only [h, ↓upd_eq, ↓envL_cons, WZ, reduceIte, reduceEqDiff, reduceAdd, reduceLT, reduceLeDiff, reduceCtorEq, reduceMul, reducePow, W1, W1C, Go.Ab.W3, Int.reduceAdd, Int.reduceLT, Int.reduceToNat, Int.reduceBEq, Int.reduceBNe, Int.reduceLE, cutNormal_normal]
    | pair x' y' =>
      refine none_ (joinK_forms hcf rfl (by simp [K.form])) ?_
      simp only [K.co]
      refine pcalls_text C_ok Try.func70 rfl (by decide) (Nat.le_of_ble_eq_true rfl) (by decide) (tup_bel _ _) fun ok H => ?_
      rw [Try.results70]
      have h := True.intro
      repeat' (first
       | (with_reducible first | apply bA | apply bB | apply bC | apply bD | apply bE | apply bF) <;> intro h
       | refine go_draw (id := 6) C_ok (fun _ => trivial) mixed 1 Try.f70.ntmps rfl (by kernel_rfl) (by decide) ?_
       | refine go_draw (id := 11) C_ok (fun _ => trivial) mixed 0 Try.f70.ntmps rfl (by kernel_rfl) (by decide) ?_
       | refine go_draw (id := 17) C_ok (fun _ => trivial) mixed 1 Try.f70.ntmps rfl (by kernel_rfl) (by decide) ?_
       | refine goRound ?_ C_ok Try.f70.ntmps rfl (by decide)
       | skip) <;> simp only [h, ↓upd_eq, ↓envL_cons, WZ, reduceIte, reduceEqDiff, reduceAdd, reduceLT, reduceLeDiff, reduceCtorEq, reduceMul, reducePow, W1, W1C, Go.Ab.W3, Int.reduceAdd, Int.reduceLT, Int.reduceToNat, Int.reduceBEq, Int.reduceBNe, Int.reduceLE, cutNormal_normal]
    | list x' =>
      refine none_ (joinK_forms hcf rfl (by simp [K.form])) ?_
      simp only [K.co]
      refine pcalls_text C_ok Try.func70 rfl (by decide) (Nat.le_of_ble_eq_true rfl) (by decide) (tup_bel _ _) fun ok H => ?_
      rw [Try.results70]
      have h := True.intro
      repeat' (first
       | (with_reducible first | apply bA | apply bB | apply bC | apply bD | apply bE | apply bF) <;> intro h
       | refine go_draw (id := 6) C_ok (fun _ => trivial) mixed 1 Try.f70.ntmps rfl (by kernel_rfl) (by decide) ?_
       | refine go_draw (id := 11) C_ok (fun _ => trivial) mixed 0 Try.f70.ntmps rfl (by kernel_rfl) (by decide) ?_
       | refine go_draw (id := 17) C_ok (fun _ => trivial) mixed 1 Try.f70.ntmps rfl (by kernel_rfl) (by decide) ?_
       | refine goRound ?_ C_ok Try.f70.ntmps rfl (by decide)
       | skip) <;> simp only [h, ↓upd_eq, ↓envL_cons, WZ, reduceIte, reduceEqDiff, reduceAdd, reduceLT, reduceLeDiff, reduceCtorEq, reduceMul, reducePow, W1, W1C, Go.Ab.W3, Int.reduceAdd, Int.reduceLT, Int.reduceToNat, Int.reduceBEq, Int.reduceBNe, Int.reduceLE, cutNormal_normal]
  | pair x y =>
    have hcf : (K.pair x y).isForm = true := rfl
    cases d with
    | id => exact absurd rfl hdid
    | fail l n =>
      refine some_ _ (joinK_form_fail hcf l n) ?_
      simp only [K.co]
      refine pcalls_text C_ok Try.func70 rfl (by decide) (Nat.le_of_ble_eq_true rfl) (by decide) (tup_bel _ _) fun ok H => ?_
      rw [Try.results70]
      have h := True.intro
      repeat' (first
       | (with_reducible first | apply bA | apply bB | apply bC | apply bD | apply bE | apply bF) <;> intro h
       | refine go_draw (id := 6) C_ok (fun _ => trivial) mixed 1 Try.f70.ntmps rfl (by kernel_rfl) (by decide) ?_
       | refine go_draw (id := 11) C_ok (fun _ => trivial) mixed 0 Try.f70.ntmps rfl (by kernel_rfl) (by decide) ?_
       | refine go_draw (id := 17) C_ok (fun _ => trivial) mixed 1 Try.f70.ntmps rfl (by kernel_rfl) (by decide) ?_
       | refine goRound ?_ C_ok Try.f70.ntmps rfl (by decide)
       | skip) <;> simp only [h, ↓upd_eq, ↓envL_cons, WZ, reduceIte, reduceEqDiff, reduceAdd, reduceLT, reduceLeDiff, reduceCtorEq, reduceMul, reducePow, W1, W1C, Go.Ab.W3, Int.reduceAdd, Int.reduceLT, Int.reduceToNat, Int.reduceBEq, Int.reduceBNe, Int.reduceLE, cutNormal_normal]
    | proj h l n k =>
      refine none_ (joinK_form_proj hcf h l n k) ?_
      simp only [K.co]
      refine pcalls_text C_ok Try.func70 rfl (by decide) (Nat.le_of_ble_eq_true rfl) (by decide) (tup_bel _ _) fun ok H => ?_
      rw [Try.results70]
      have h := True.intro
      repeat' (first
       | (with_reducible first | apply bA | apply bB | apply bC | apply bD | apply bE | apply bF) <;> intro h
       | refine go_draw (id := 6) C_ok (fun _ => trivial) mixed 1 Try.f70.ntmps rfl (by kernel_rfl) (by decide) ?_
       | refine go_draw (id := 11) C_ok (fun _ => trivial) mixed 0 Try.f70.ntmps rfl (by kernel_rfl) (by decide) ?_
       | refine go_draw (id := 17) C_ok (fun _ => trivial) mixed 1 Try.f70.ntmps rfl (by kernel_rfl) (by decide) ?_
       | refine goRound ?_ C_ok Try.f70.ntmps rfl (by decide)
       | skip) <;> simp only [h, ↓upd_eq, ↓envL_cons, WZ, reduceIte, reduceEqDiff, reduceAdd, reduceLT, reduceLeDiff, reduceCtorEq, reduceMul, reducePow, W1, W1C, Go.Ab.W3, Int.reduceAdd, Int.reduceLT, Int.reduceToNat, Int.reduceBEq, Int.reduceBNe, Int.reduceLE, cutNormal_normal]
    | inj h k =>
      obtain ⟨x, p, q⟩ := ih (.pair x y) k (by simp only [K.size]; omega)
      refine ⟨.mk 5 h 0 false [x], ?_, fun j hj => ?_⟩
      · rw [joinK_form_inj hcf, Option.isSome_map]
        simp only [K.co] at p ⊢
        refine pcalls_text C_ok Try.func70 rfl (by decide) (Nat.le_of_ble_eq_true rfl) (by decide) (tup_bel _ _) fun ok H => ?_
        rw [Try.results70]
        have h := True.intro
        repeat' (first
         | (with_reducible first | apply bA | apply bB | apply bC | apply bD | apply bE | apply bF) <;> intro h
         | ((first | refine goCall_norm ?_ | refine goDCall_norm ?_); simp only [AV.norm, AV.normL, W2, W2C, Go.Ab.W3, Int.reduceAdd, Int.reduceLT, Int.reduceToNat, Int.reduceBEq, Int.reduceBNe, Int.reduceLE]; first | refine goCall_p (p) (.inl rfl) ?_ | refine goCall_p (inner_ok _ _) (.inl rfl) ?_ | refine goDCall_p (p) (.inl rfl) ?_ | refine goDCall_p (inner_ok _ _) (.inl rfl) ?_)
         | refine go_draw (id := 6) C_ok (fun _ => trivial) mixed 1 Try.f70.ntmps rfl (by kernel_rfl) (by decide) ?_
         | refine go_draw (id := 11) C_ok (fun _ => trivial) mixed 0 Try.f70.ntmps rfl (by kernel_rfl) (by decide) ?_
         | refine go_draw (id := 17) C_ok (fun _ => trivial) mixed 1 Try.f70.ntmps rfl (by kernel_rfl) (by decide) ?_
         | refine goRound ?_ C_ok Try.f70.ntmps rfl (by decide)
         | skip) <;> simp only [h, ↓upd_eq, ↓envL_cons, WZ, reduceIte, reduceEqDiff, reduceAdd, reduceLT, reduceLeDiff, reduceCtorEq, reduceMul, reducePow, W1, W1C, Go.Ab.W3, Int.reduceAdd, Int.reduceLT, Int.reduceToNat, Int.reduceBEq, Int.reduceBNe, Int.reduceLE, cutNormal_normal]
      · rw [joinK_form_inj hcf] at hj
        obtain ⟨j', h1, rfl⟩ := map_some' hj
        rw [q j' h1]; rfl
    | fn x' y' =>
      refine none_ (joinK_forms hcf rfl (by simp [K.form])) ?_
      simp only [K.co]
      refine pcalls_text C_ok Try.func70 rfl (by decide) (Nat.le_of_ble_eq_true rfl) (by decide) (tup_bel _ _) fun ok H => ?_
      rw [Try.results70]
      have h := True.intro
      repeat' (first
       | (with_reducible first | apply bA | apply bB | apply bC | apply bD | apply bE | apply bF) <;> intro h
       | refine go_draw (id := 6) C_ok (fun _ => trivial) mixed 1 Try.f70.ntmps rfl (by kernel_rfl) (by decide) ?_
       | refine go_draw (id := 11) C_ok (fun _ => trivial) mixed 0 Try.f70.ntmps rfl (by kernel_rfl) (by decide) ?_
       | refine go_draw (id := 17) C_ok (fun _ => trivial) mixed 1 Try.f70.ntmps rfl (by kernel_rfl) (by decide) ?_
       | refine goRound ?_ C_ok Try.f70.ntmps rfl (by decide)
       | skip) <;> simp only [h, ↓upd_eq, ↓envL_cons, WZ, reduceIte, reduceEqDiff, reduceAdd, reduceLT, reduceLeDiff, reduceCtorEq, reduceMul, reducePow, W1, W1C, Go.Ab.W3, Int.reduceAdd, Int.reduceLT, Int.reduceToNat, Int.reduceBEq, Int.reduceBNe, Int.reduceLE, cutNormal_normal]
    | pair x' y' =>
      obtain ⟨z, p, q⟩ := formed_pair _ _ _ _ (ih x x' (by simp only [K.size]; omega)) (ih y y' (by simp only [K.size]; omega))
      refine ⟨z, ?_, fun j hj => q j (by rw [← joinK_pair]; exact hj)⟩
      rw [joinK_pair]
      simp only [K.co] at p ⊢
      refine pcalls_text C_ok Try.func70 rfl (by decide) (Nat.le_of_ble_eq_true rfl) (by decide) (tup_bel _ _) fun ok H => ?_
      rw [Try.results70]
      have h := True.intro
      repeat' (first
       | (with_reducible first | apply bA | apply bB | apply bC | apply bD | apply bE | apply bF) <;> intro h
       | ((first | refine goCall_norm ?_ | refine goDCall_norm ?_); simp only [AV.norm, AV.normL, W2, W2C, Go.Ab.W3, Int.reduceAdd, Int.reduceLT, Int.reduceToNat, Int.reduceBEq, Int.reduceBNe, Int.reduceLE]; first | refine goCall_p (p) (.inl rfl) ?_ | refine goDCall_p (p) (.inl rfl) ?_)
       | refine go_draw (id := 6) C_ok (fun _ => trivial) mixed 1 Try.f70.ntmps rfl (by kernel_rfl) (by decide) ?_
       | refine go_draw (id := 11) C_ok (fun _ => trivial) mixed 0 Try.f70.ntmps rfl (by kernel_rfl) (by decide) ?_
       | refine go_draw (id := 17) C_ok (fun _ => trivial) mixed 1 Try.f70.ntmps rfl (by kernel_rfl) (by decide) ?_
       | refine goRound ?_ C_ok Try.f70.ntmps rfl (by decide)
       | skip) <;> simp only [h, ↓upd_eq, ↓envL_cons, WZ, reduceIte, reduceEqDiff, reduceAdd, reduceLT, reduceLeDiff, reduceCtorEq, reduceMul, reducePow, W1, W1C, Go.Ab.W3, Int.reduceAdd, Int.reduceLT, Int.reduceToNat, Int.reduceBEq, Int.reduceBNe, Int.reduceLE, cutNormal_normal]
    | list x' =>
      refine none_ (joinK_forms hcf rfl (by simp [K.form])) ?_
      simp only [K.co]
      refine pcalls_text C_ok Try.func70 rfl (by decide) (Nat.le_of_ble_eq_true rfl) (by decide) (tup_bel _ _) fun ok H => ?_
      rw [Try.results70]
      have h := True.intro
      repeat' (first
       | (with_reducible first | apply bA | apply bB | apply bC | apply bD | apply bE | apply bF) <;> intro h
       | refine go_draw (id := 6) C_ok (fun _ => trivial) mixed 1 Try.f70.ntmps rfl (by kernel_rfl) (by decide) ?_
       | refine go_draw (id := 11) C_ok (fun _ => trivial) mixed 0 Try.f70.ntmps rfl (by kernel_rfl) (by decide) ?_
       | refine go_draw (id := 17) C_ok (fun _ => trivial) mixed 1 Try.f70.ntmps rfl (by kernel_rfl) (by decide) ?_
       | refine goRound ?_ C_ok Try.f70.ntmps rfl (by decide)
       | skip) <;> simp only [h, ↓upd_eq, ↓envL_cons, WZ, reduceIte, reduceEqDiff, reduceAdd, reduceLT, reduceLeDiff, reduceCtorEq, reduceMul, reducePow, W1, W1C, Go.Ab.W3, Int.reduceAdd, Int.reduceLT, Int.reduceToNat, Int.reduceBEq, Int.reduceBNe, Int.reduceLE, cutNormal_normal]
  | list x =>
    have hcf : (K.list x).isForm = true := rfl
    cases d with
    | id => exact absurd rfl hdid
    | fail l n =>
      refine some_ _ (joinK_form_fail hcf l n) ?_
      simp only [K.co]
      refine pcalls_text C_ok Try.func70 rfl (by decide) (Nat.le_of_ble_eq_true rfl) (by decide) (tup_bel _ _) fun ok H => ?_
      rw [Try.results70]
      have h := True.intro
      repeat' (first
       | (with_reducible first | apply bA | apply bB | apply bC | apply bD | apply bE | apply bF) <;> intro h
       | refine go_draw (id := 6) C_ok (fun _ => trivial) mixed 1 Try.f70.ntmps rfl (by kernel_rfl) (by decide) ?_
       | refine go_draw (id := 11) C_ok (fun _ => trivial) mixed 0 Try.f70.ntmps rfl (by kernel_rfl) (by decide) ?_
       | refine go_draw (id := 17) C_ok (fun _ => trivial) mixed 1 Try.f70.ntmps rfl (by kernel_rfl) (by decide) ?_
       | refine goRound ?_ C_ok Try.f70.ntmps rfl (by decide)
       | skip) <;> simp only [h, ↓upd_eq, ↓envL_cons, WZ, reduceIte, reduceEqDiff, reduceAdd, reduceLT, reduceLeDiff, reduceCtorEq, reduceMul, reducePow, W1, W1C, Go.Ab.W3, Int.reduceAdd, Int.reduceLT, Int.reduceToNat, Int.reduceBEq, Int.reduceBNe, Int.reduceLE, cutNormal_normal]
    | proj h l n k =>
      refine none_ (joinK_form_proj hcf h l n k) ?_
      simp only [K.co]
      refine pcalls_text C_ok Try.func70 rfl (by decide) (Nat.le_of_ble_eq_true rfl) (by decide) (tup_bel _ _) fun ok H => ?_
      rw [Try.results70]
      have h := True.intro
      repeat' (first
       | (with_reducible first | apply bA | apply bB | apply bC | apply bD | apply bE | apply bF) <;> intro h
       | refine go_draw (id := 6) C_ok (fun _ => trivial) mixed 1 Try.f70.ntmps rfl (by kernel_rfl) (by decide) ?_
       | refine go_draw (id := 11) C_ok (fun _ => trivial) mixed 0 Try.f70.ntmps rfl (by kernel_rfl) (by decide) ?_
       | refine go_draw (id := 17) C_ok (fun _ => trivial) mixed 1 Try.f70.ntmps rfl (by kernel_rfl) (by decide) ?_
       | refine goRound ?_ C_ok Try.f70.ntmps rfl (by decide)
       | skip) <;> simp only [h, ↓upd_eq, ↓envL_cons, WZ, reduceIte, reduceEqDiff, reduceAdd, reduceLT, reduceLeDiff, reduceCtorEq, reduceMul, reducePow, W1, W1C, Go.Ab.W3, Int.reduceAdd, Int.reduceLT, Int.reduceToNat, Int.reduceBEq, Int.reduceBNe, Int.reduceLE, cutNormal_normal]
    | inj h k =>
      obtain ⟨x, p, q⟩ := ih (.list x) k (by simp only [K.size]; omega)
      refine ⟨.mk 5 h 0 false [x], ?_, fun j hj => ?_⟩
      · rw [joinK_form_inj hcf, Option.isSome_map]
        simp only [K.co] at p ⊢
        refine pcalls_text C_ok Try.func70 rfl (by decide) (Nat.le_of_ble_eq_true rfl) (by decide) (tup_bel _ _) fun ok H => ?_
        rw [Try.results70]
        have h := True.intro
        repeat' (first
         | (with_reducible first | apply bA | apply bB | apply bC | apply bD | apply bE | apply bF) <;> intro h
         | ((first | refine goCall_norm ?_ | refine goDCall_norm ?_); simp only [AV.norm, AV.normL, W2, W2C, Go.Ab.W3, Int.reduceAdd, Int.reduceLT, Int.reduceToNat, Int.reduceBEq, Int.reduceBNe, Int.reduceLE]; first | refine goCall_p (p) (.inl rfl) ?_ | refine goCall_p (inner_ok _ _) (.inl rfl) ?_ | refine goDCall_p (p) (.inl rfl) ?_ | refine goDCall_p (inner_ok _ _) (.inl rfl) ?_)
         | refine go_draw (id := 6) C_ok (fun _ => trivial) mixed 1 Try.f70.ntmps rfl (by kernel_rfl) (by decide) ?_
         | refine go_draw (id := 11) C_ok (fun _ => trivial) mixed 0 Try.f70.ntmps rfl (by kernel_rfl) (by decide) ?_
         | refine go_draw (id := 17) C_ok (fun _ => trivial) mixed 1 Try.f70.ntmps rfl (by kernel_rfl) (by decide) ?_
         | refine goRound ?_ C_ok Try.f70.ntmps rfl (by decide)
         | skip) <;> simp only [h, ↓upd_eq, ↓envL_cons, WZ, reduceIte, reduceEqDiff, reduceAdd, reduceLT, reduceLeDiff, reduceCtorEq, reduceMul, reducePow, W1, W1C, Go.Ab.W3, Int.reduceAdd, Int.reduceLT, Int.reduceToNat, Int.reduceBEq, Int.reduceBNe, Int.reduceLE, cutNormal_normal]
      · rw [joinK_form_inj hcf] at hj
        obtain ⟨j', h1, rfl⟩ := map_some' hj
        rw [q j' h1]; rfl
    | fn x' y' =>
      refine none_ (joinK_forms hcf rfl (by simp [K.form])) ?_
      simp only [K.co]
      refine pcalls_text C_ok Try.func70 rfl (by decide) (Nat.le_of_ble_eq_true rfl) (by decide) (tup_bel _ _) fun ok H => ?_
      rw [Try.results70]
      have h := True.intro
      repeat' (first
       | (with_reducible first | apply bA | apply bB | apply bC | apply bD | apply bE | apply bF) <;> intro h
       | refine go_draw (id := 6) C_ok (fun _ => trivial) mixed 1 Try.f70.ntmps rfl (by kernel_rfl) (by decide) ?_
       | refine go_draw (id := 11) C_ok (fun _ => trivial) mixed 0 Try.f70.ntmps rfl (by kernel_rfl) (by decide) ?_
       | refine go_draw (id := 17) C_ok (fun _ => trivial) mixed 1 Try.f70.ntmps rfl (by kernel_rfl) (by decide) ?_
       | refine goRound ?_ C_ok Try.f70.ntmps rfl (by decide)
       | skip) <;> simp only [h, ↓upd_eq, ↓envL_cons, WZ, reduceIte, reduceEqDiff, reduceAdd, reduceLT, reduceLeDiff, reduceCtorEq, reduceMul, reducePow, W1, W1C, Go.Ab.W3, Int.reduceAdd, Int.reduceLT, Int.reduceToNat, Int.reduceBEq, Int.reduceBNe, Int.reduceLE, cutNormal_normal]
    | pair x' y' =>
      refine none_ (joinK_forms hcf rfl (by simp [K.form])) ?_
      simp only [K.co]
      refine pcalls_text C_ok Try.func70 rfl (by decide) (Nat.le_of_ble_eq_true rfl) (by decide) (tup_bel _ _) fun ok H => ?_
      rw [Try.results70]
      have h := True.intro
      repeat' (first
       | (with_reducible first | apply bA | apply bB | apply bC | apply bD | apply bE | apply bF) <;> intro h
       | refine go_draw (id := 6) C_ok (fun _ => trivial) mixed 1 Try.f70.ntmps rfl (by kernel_rfl) (by decide) ?_
       | refine go_draw (id := 11) C_ok (fun _ => trivial) mixed 0 Try.f70.ntmps rfl (by kernel_rfl) (by decide) ?_
       | refine go_draw (id := 17) C_ok (fun _ => trivial) mixed 1 Try.f70.ntmps rfl (by kernel_rfl) (by decide) ?_
       | refine goRound ?_ C_ok Try.f70.ntmps rfl (by decide)
       | skip) <;> simp only [h, ↓upd_eq, ↓envL_cons, WZ, reduceIte, reduceEqDiff, reduceAdd, reduceLT, reduceLeDiff, reduceCtorEq, reduceMul, reducePow, W1, W1C, Go.Ab.W3, Int.reduceAdd, Int.reduceLT, Int.reduceToNat, Int.reduceBEq, Int.reduceBNe, Int.reduceLE, cutNormal_normal]
    | list x' =>
      obtain ⟨z, p, q⟩ := formed_list _ _ (ih x x' (by simp only [K.size]; omega))
      refine ⟨z, ?_, fun j hj => q j (by rw [← joinK_list]; exact hj)⟩
      rw [joinK_list]
      simp only [K.co] at p ⊢
      refine pcalls_text C_ok Try.func70 rfl (by decide) (Nat.le_of_ble_eq_true rfl) (by decide) (tup_bel _ _) fun ok H => ?_
      rw [Try.results70]
      have h := True.intro
      repeat' (first
       | (with_reducible first | apply bA | apply bB | apply bC | apply bD | apply bE | apply bF) <;> intro h
       | ((first | refine goCall_norm ?_ | refine goDCall_norm ?_); simp only [AV.norm, AV.normL, W2, W2C, Go.Ab.W3, Int.reduceAdd, Int.reduceLT, Int.reduceToNat, Int.reduceBEq, Int.reduceBNe, Int.reduceLE]; first | refine goCall_p (p) (.inl rfl) ?_ | refine goDCall_p (p) (.inl rfl) ?_)
       | refine go_draw (id := 6) C_ok (fun _ => trivial) mixed 1 Try.f70.ntmps rfl (by kernel_rfl) (by decide) ?_
       | refine go_draw (id := 11) C_ok (fun _ => trivial) mixed 0 Try.f70.ntmps rfl (by kernel_rfl) (by decide) ?_
       | refine go_draw (id := 17) C_ok (fun _ => trivial) mixed 1 Try.f70.ntmps rfl (by kernel_rfl) (by decide) ?_
       | refine goRound ?_ C_ok Try.f70.ntmps rfl (by decide)
       | skip) <;> simp only [h, ↓upd_eq, ↓envL_cons, WZ, reduceIte, reduceEqDiff, reduceAdd, reduceLT, reduceLeDiff, reduceCtorEq, reduceMul, reducePow, W1, W1C, Go.Ab.W3, Int.reduceAdd, Int.reduceLT, Int.reduceToNat, Int.reduceBEq, Int.reduceBNe, Int.reduceLE, cutNormal_normal]


theorem join_ok : ∀ (n : Nat) (c d : K), c.size + d.size ≤ n → JoinOK 70 c d := by
  intro n
  induction n with
  | zero => intro c d h; have := c.size_pos; omega
  | succ n ih => intro c d h; exact join_step c d fun x y hxy => ih x y (by omega)
/-- Of right ones, a right joint. -/
def joinR (c d : K) : Option K := (joinK c d).filter K.ok
theorem joinR_some {c d j : K} : joinR c d = some j ↔ joinK c d = some j ∧ j.ok = true := by
  unfold joinR; rw [Option.filter_eq_some_iff]
def resC (r : Option K) (err : Int) : AV := match r with
  | some j => .tup [embC j.co, .int .i64 0]
  | none => .tup [embC coNone, .int .i64 err]
theorem cJoin_ok (c d : K) (hc : c.ok = true) (hd : d.ok = true) : PCalls Try.prog 29 [embC c.co, embC d.co] (resC (joinR c d) 8) := by
  have rc : rightC c.co = true := by rw [K.right_co]; exact hc
  have rd : rightC d.co = true := by rw [K.right_co]; exact hd
  obtain ⟨x, p, q⟩ := join_ok _ c d (Nat.le_refl _)
  cases e : joinK c d with
  | none =>
    have e' : joinR c d = none := by rw [joinR, e]; rfl
    rw [e] at p
    rw [e']
    simp only [Option.isSome_none] at p
    show PCalls Try.prog 29 _ (.tup [embC (.mk 0 0 0 false []), .int .i64 8])
    refine pcalls_text C_ok Try.func29 rfl (by decide) (Nat.le_of_ble_eq_true rfl) (by decide) (by simp only [AV.bel, AV.belL, embC_bel, Bool.and_self]) fun ok H => ?_
    rw [Try.results29]
    have h := True.intro
    repeat' (first
     | (with_reducible first | apply bA | apply bB | apply bC | apply bD | apply bE | apply bF) <;> intro h
     | ((first | refine goCall_norm ?_ | refine goDCall_norm ?_); simp only [AV.norm, AV.normL, W2, W2C, Go.Ab.W3, Int.reduceAdd, Int.reduceLT, Int.reduceToNat, Int.reduceBEq, Int.reduceBNe, Int.reduceLE, rc, rd]; first | refine goCall_p (ccheck_ok _) (.inl rfl) ?_ | refine goCall_p (p) (.inl rfl) ?_ | refine goDCall_p (ccheck_ok _) (.inl rfl) ?_ | refine goDCall_p (p) (.inl rfl) ?_)
     | refine goRound ?_ C_ok Try.f29.ntmps rfl (by decide)
     | skip) <;> simp only [h, ↓upd_eq, ↓envL_cons, WZ, reduceIte, reduceEqDiff, reduceAdd, reduceLT, reduceLeDiff, reduceCtorEq, reduceMul, reducePow, W1, W1C, Go.Ab.W3, Int.reduceAdd, Int.reduceLT, Int.reduceToNat, Int.reduceBEq, Int.reduceBNe, Int.reduceLE, rc, rd, cutNormal_normal]
  | some j =>
    rw [e] at p
    simp only [Option.isSome_some] at p
    obtain rfl := q j e
    cases hj : j.ok with
    | true =>
      have e' : joinR c d = some j := joinR_some.2 ⟨e, hj⟩
      have rj : rightC j.co = true := by rw [K.right_co]; exact hj
      rw [e']
      show PCalls Try.prog 29 _ (.tup [embC j.co, .int .i64 0])
      refine pcalls_text C_ok Try.func29 rfl (by decide) (Nat.le_of_ble_eq_true rfl) (by decide) (by simp only [AV.bel, AV.belL, embC_bel, Bool.and_self]) fun ok H => ?_
      rw [Try.results29]
      have h := True.intro
      repeat' (first
       | (with_reducible first | apply bA | apply bB | apply bC | apply bD | apply bE | apply bF) <;> intro h
       | ((first | refine goCall_norm ?_ | refine goDCall_norm ?_); simp only [AV.norm, AV.normL, W2, W2C, Go.Ab.W3, Int.reduceAdd, Int.reduceLT, Int.reduceToNat, Int.reduceBEq, Int.reduceBNe, Int.reduceLE, rc, rd, rj]; first | refine goCall_p (ccheck_ok _) (.inl rfl) ?_ | refine goCall_p (p) (.inl rfl) ?_ | refine goDCall_p (ccheck_ok _) (.inl rfl) ?_ | refine goDCall_p (p) (.inl rfl) ?_)
       | refine goRound ?_ C_ok Try.f29.ntmps rfl (by decide)
       | skip) <;> simp only [h, ↓upd_eq, ↓envL_cons, WZ, reduceIte, reduceEqDiff, reduceAdd, reduceLT, reduceLeDiff, reduceCtorEq, reduceMul, reducePow, W1, W1C, Go.Ab.W3, Int.reduceAdd, Int.reduceLT, Int.reduceToNat, Int.reduceBEq, Int.reduceBNe, Int.reduceLE, rc, rd, rj, cutNormal_normal]
    | false =>
      have e' : joinR c d = none := by rw [joinR, e]; simp [hj]
      have rj : rightC j.co = false := by rw [K.right_co]; exact hj
      rw [e']
      show PCalls Try.prog 29 _ (.tup [embC (.mk 0 0 0 false []), .int .i64 8])
      refine pcalls_text C_ok Try.func29 rfl (by decide) (Nat.le_of_ble_eq_true rfl) (by decide) (by simp only [AV.bel, AV.belL, embC_bel, Bool.and_self]) fun ok H => ?_
      rw [Try.results29]
      have h := True.intro
      repeat' (first
       | (with_reducible first | apply bA | apply bB | apply bC | apply bD | apply bE | apply bF) <;> intro h
       | ((first | refine goCall_norm ?_ | refine goDCall_norm ?_); simp only [AV.norm, AV.normL, W2, W2C, Go.Ab.W3, Int.reduceAdd, Int.reduceLT, Int.reduceToNat, Int.reduceBEq, Int.reduceBNe, Int.reduceLE, rc, rd, rj]; first | refine goCall_p (ccheck_ok _) (.inl rfl) ?_ | refine goCall_p (p) (.inl rfl) ?_ | refine goDCall_p (ccheck_ok _) (.inl rfl) ?_ | refine goDCall_p (p) (.inl rfl) ?_)
       | refine goRound ?_ C_ok Try.f29.ntmps rfl (by decide)
       | skip) <;> simp only [h, ↓upd_eq, ↓envL_cons, WZ, reduceIte, reduceEqDiff, reduceAdd, reduceLT, reduceLeDiff, reduceCtorEq, reduceMul, reducePow, W1, W1C, Go.Ab.W3, Int.reduceAdd, Int.reduceLT, Int.reduceToNat, Int.reduceBEq, Int.reduceBNe, Int.reduceLE, rc, rd, rj, cutNormal_normal]
/-- What is not right is not joined. -/
theorem cJoin_bad (c d : Co) (h : rightC c = false ∨ rightC d = false) : PCalls Try.prog 29 [embC c, embC d] (.tup [embC coNone, .int .i64 1]) := by
  have hx : rightC c = false ∨ (rightC c = true ∧ rightC d = false) := by
    cases hc : rightC c with
    | false => exact .inl rfl
    | true => rw [hc] at h; exact .inr ⟨rfl, h.resolve_left (by simp)⟩
  show PCalls Try.prog 29 _ (.tup [embC (.mk 0 0 0 false []), .int .i64 1])
  rcases hx with rc | ⟨rc, rd⟩
  · refine pcalls_text C_ok Try.func29 rfl (by decide) (Nat.le_of_ble_eq_true rfl) (by decide) (by simp only [AV.bel, AV.belL, embC_bel, Bool.and_self]) fun ok H => ?_
    rw [Try.results29]
    have h := True.intro
    repeat' (first
     | (with_reducible first | apply bA | apply bB | apply bC | apply bD | apply bE | apply bF) <;> intro h
     | ((first | refine goCall_norm ?_ | refine goDCall_norm ?_); simp only [AV.norm, AV.normL, W2, W2C, Go.Ab.W3, Int.reduceAdd, Int.reduceLT, Int.reduceToNat, Int.reduceBEq, Int.reduceBNe, Int.reduceLE, rc]; first | refine goCall_p (ccheck_ok _) (.inl rfl) ?_ | refine goDCall_p (ccheck_ok _) (.inl rfl) ?_)
     | refine goRound ?_ C_ok Try.f29.ntmps rfl (by decide)
     | skip) <;> simp only [h, ↓upd_eq, ↓envL_cons, WZ, reduceIte, reduceEqDiff, reduceAdd, reduceLT, reduceLeDiff, reduceCtorEq, reduceMul, reducePow, W1, W1C, Go.Ab.W3, Int.reduceAdd, Int.reduceLT, Int.reduceToNat, Int.reduceBEq, Int.reduceBNe, Int.reduceLE, rc, cutNormal_normal]
  · refine pcalls_text C_ok Try.func29 rfl (by decide) (Nat.le_of_ble_eq_true rfl) (by decide) (by simp only [AV.bel, AV.belL, embC_bel, Bool.and_self]) fun ok H => ?_
    rw [Try.results29]
    have h := True.intro
    repeat' (first
     | (with_reducible first | apply bA | apply bB | apply bC | apply bD | apply bE | apply bF) <;> intro h
     | ((first | refine goCall_norm ?_ | refine goDCall_norm ?_); simp only [AV.norm, AV.normL, W2, W2C, Go.Ab.W3, Int.reduceAdd, Int.reduceLT, Int.reduceToNat, Int.reduceBEq, Int.reduceBNe, Int.reduceLE, rc, rd]; first | refine goCall_p (ccheck_ok _) (.inl rfl) ?_ | refine goDCall_p (ccheck_ok _) (.inl rfl) ?_)
     | refine goRound ?_ C_ok Try.f29.ntmps rfl (by decide)
     | skip) <;> simp only [h, ↓upd_eq, ↓envL_cons, WZ, reduceIte, reduceEqDiff, reduceAdd, reduceLT, reduceLeDiff, reduceCtorEq, reduceMul, reducePow, W1, W1C, Go.Ab.W3, Int.reduceAdd, Int.reduceLT, Int.reduceToNat, Int.reduceBEq, Int.reduceBNe, Int.reduceLE, rc, rd, cutNormal_normal]

end Go.Proofs.Ytofogicgnldfhaa
end

section
/- Walks: the reference's joints. No condition. -/
set_option linter.unusedSimpArgs false
set_option linter.unusedVariables false
set_option maxHeartbeats 4000000
set_option maxRecDepth 100000
namespace Go.Proofs.Ytofogicgnldfhaa
open Go Go.Ab
open Nat (reduceEqDiff reduceAdd reduceLT reduceLeDiff reduceMul reducePow)
attribute [local irreducible] PCalls ACalls CallK GoCall GoDCall GoIf GoGb GoDGb GoO GoD GoX GoDX GoG GoDG GoGv GoDGv Go ALoop

theorem kindn_id (k : K) : (k.co.kind != 1) = !k.isId := by rw [bne, kindb_id]
theorem rformed_two (k : Int) (a b : K) : PCalls Try.prog 115 [.int .i64 k, .sl [embC a.co, embC b.co] .no] (embC (if a.isId && b.isId then .mk 1 0 0 false [] else .mk k 0 0 false [a.co, b.co])) := by
  have ha := kindn_id a
  have hb := kindn_id b
  cases h1 : a.isId <;> cases h2 : b.isId <;> rw [h1] at ha <;> rw [h2] at hb
  all_goals simp only [Bool.and_self, Bool.and_false, Bool.and_true, Bool.false_eq_true, if_true, if_false]
  all_goals
    refine pcalls_text C_ok Try.func115 rfl (by decide) (Nat.le_of_ble_eq_true rfl) (by decide) (embC_bel _ _) fun ok H => ?_
    rw [Try.results115]
    have h := True.intro
    repeat' (first
     | (with_reducible first | apply bA | apply bB | apply bC | apply bD | apply bE | apply bF) <;> intro h
     | ((first | refine goCall_norm ?_ | refine goDCall_norm ?_); simp only [AV.norm, AV.normL, W2, W2C, Go.Ab.W3, Int.reduceAdd, Int.reduceLT, Int.reduceToNat, Int.reduceBEq, Int.reduceBNe, Int.reduceLE, ha, hb]; first | refine goCall_p (rId_ok) (.inl rfl) ?_ | refine goDCall_p (rId_ok) (.inl rfl) ?_)
     | refine goRound ?_ C_ok Try.f115.ntmps rfl (by decide)
     | skip) <;> simp only [h, ↓upd_eq, ↓envL_cons, WZ, reduceIte, reduceEqDiff, reduceAdd, reduceLT, reduceLeDiff, reduceCtorEq, reduceMul, reducePow, W1, W1C, Go.Ab.W3, Int.reduceAdd, Int.reduceLT, Int.reduceToNat, Int.reduceBEq, Int.reduceBNe, Int.reduceLE, ha, hb, cutNormal_normal]
theorem rformed_one (k : Int) (a : K) : PCalls Try.prog 115 [.int .i64 k, .sl [embC a.co] .no] (embC (if a.isId then .mk 1 0 0 false [] else .mk k 0 0 false [a.co])) := by
  have ha := kindn_id a
  cases h1 : a.isId <;> rw [h1] at ha
  all_goals simp only [Bool.false_eq_true, if_true, if_false]
  all_goals
    refine pcalls_text C_ok Try.func115 rfl (by decide) (Nat.le_of_ble_eq_true rfl) (by decide) (embC_bel _ _) fun ok H => ?_
    rw [Try.results115]
    have h := True.intro
    repeat' (first
     | (with_reducible first | apply bA | apply bB | apply bC | apply bD | apply bE | apply bF) <;> intro h
     | ((first | refine goCall_norm ?_ | refine goDCall_norm ?_); simp only [AV.norm, AV.normL, W2, W2C, Go.Ab.W3, Int.reduceAdd, Int.reduceLT, Int.reduceToNat, Int.reduceBEq, Int.reduceBNe, Int.reduceLE, ha]; first | refine goCall_p (rId_ok) (.inl rfl) ?_ | refine goDCall_p (rId_ok) (.inl rfl) ?_)
     | refine goRound ?_ C_ok Try.f115.ntmps rfl (by decide)
     | skip) <;> simp only [h, ↓upd_eq, ↓envL_cons, WZ, reduceIte, reduceEqDiff, reduceAdd, reduceLT, reduceLeDiff, reduceCtorEq, reduceMul, reducePow, W1, W1C, Go.Ab.W3, Int.reduceAdd, Int.reduceLT, Int.reduceToNat, Int.reduceBEq, Int.reduceBNe, Int.reduceLE, ha, cutNormal_normal]
theorem mkFn_co (a b : K) : (if a.isId && b.isId then Co.mk 1 0 0 false [] else .mk 2 0 0 false [a.co, b.co]) = (mkFn a b).co := by unfold mkFn; split <;> rfl
theorem mkPair_co (a b : K) : (if a.isId && b.isId then Co.mk 1 0 0 false [] else .mk 3 0 0 false [a.co, b.co]) = (mkPair a b).co := by unfold mkPair; split <;> rfl
theorem mkList_co (a : K) : (if a.isId then Co.mk 1 0 0 false [] else .mk 4 0 0 false [a.co]) = (mkList a).co := by unfold mkList; split <;> rfl

theorem rjoin_fn (a a' b b' : K) (h1 : JoinOK 100 b a) (h2 : JoinOK 100 a' b') : JoinOK 100 (.fn a a') (.fn b b') := by
  obtain ⟨x1, p1, q1⟩ := h1
  obtain ⟨x2, p2, q2⟩ := h2
  cases e1 : joinK b a with
  | none =>
    rw [e1] at p1
    refine ⟨(K.fn a a').co, ?_, fun j h => by rw [joinK_fn, e1] at h; cases h⟩
    rw [joinK_fn, e1]
    show PCalls Try.prog 100 _ (.tup [embC (K.fn a a').co, .bool false])
    simp only [K.co, Option.isSome_none] at *
    refine pcalls_text C_ok Try.func100 rfl (by decide) (Nat.le_of_ble_eq_true rfl) (by decide) (tup_bel _ _) fun ok H => ?_
    rw [Try.results100]
    have h := True.intro
    repeat' (first
     | (with_reducible first | apply bA | apply bB | apply bC | apply bD | apply bE | apply bF) <;> intro h
     | ((first | refine goCall_norm ?_ | refine goDCall_norm ?_); simp only [AV.norm, AV.normL, W2, W2C, Go.Ab.W3, Int.reduceAdd, Int.reduceLT, Int.reduceToNat, Int.reduceBEq, Int.reduceBNe, Int.reduceLE]; first | refine goCall_p (p1) (.inl rfl) ?_ | refine goDCall_p (p1) (.inl rfl) ?_)
     | refine go_draw (id := 7) C_ok (fun _ => trivial) mixed 1 Try.f100.ntmps rfl (by kernel_rfl) (by decide) ?_
     | refine go_draw (id := 14) C_ok (fun _ => trivial) mixed 0 Try.f100.ntmps rfl (by kernel_rfl) (by decide) ?_
     | refine go_draw (id := 18) C_ok (fun _ => trivial) mixed 1 Try.f100.ntmps rfl (by kernel_rfl) (by decide) ?_
     | refine go_drawX (id := 26) C_ok (fun _ => trivial) mixed [(116, 12), (119, 12)] 2 Try.f100.ntmps rfl (by kernel_rfl) (by decide) ?_
     | refine goRound ?_ C_ok Try.f100.ntmps rfl (by decide)
     | skip) <;> simp only [h, ↓upd_eq, ↓envL_cons, WZ, reduceIte, reduceEqDiff, reduceAdd, reduceLT, reduceLeDiff, reduceCtorEq, reduceMul, reducePow, W1, W1C, Go.Ab.W3, Int.reduceAdd, Int.reduceLT, Int.reduceToNat, Int.reduceBEq, Int.reduceBNe, Int.reduceLE, cutNormal_normal]
  | some j1 =>
    rw [e1] at p1
    obtain rfl := q1 _ e1
    cases e2 : joinK a' b' with
    | none =>
      rw [e2] at p2
      refine ⟨(K.fn a a').co, ?_, fun j h => by rw [joinK_fn, e1, e2] at h; cases h⟩
      rw [joinK_fn, e1, e2]
      show PCalls Try.prog 100 _ (.tup [embC (K.fn a a').co, .bool false])
      simp only [K.co, Option.isSome_none, Option.isSome_some] at *
      refine pcalls_text C_ok Try.func100 rfl (by decide) (Nat.le_of_ble_eq_true rfl) (by decide) (tup_bel _ _) fun ok H => ?_
      rw [Try.results100]
      have h := True.intro
      repeat' (first
       | (with_reducible first | apply bA | apply bB | apply bC | apply bD | apply bE | apply bF) <;> intro h
       | ((first | refine goCall_norm ?_ | refine goDCall_norm ?_); simp only [AV.norm, AV.normL, W2, W2C, Go.Ab.W3, Int.reduceAdd, Int.reduceLT, Int.reduceToNat, Int.reduceBEq, Int.reduceBNe, Int.reduceLE]; first | refine goCall_p (p1) (.inl rfl) ?_ | refine goCall_p (p2) (.inl rfl) ?_ | refine goDCall_p (p1) (.inl rfl) ?_ | refine goDCall_p (p2) (.inl rfl) ?_)
       | refine go_draw (id := 7) C_ok (fun _ => trivial) mixed 1 Try.f100.ntmps rfl (by kernel_rfl) (by decide) ?_
       | refine go_draw (id := 14) C_ok (fun _ => trivial) mixed 0 Try.f100.ntmps rfl (by kernel_rfl) (by decide) ?_
       | refine go_draw (id := 18) C_ok (fun _ => trivial) mixed 1 Try.f100.ntmps rfl (by kernel_rfl) (by decide) ?_
       | refine go_drawX (id := 26) C_ok (fun _ => trivial) mixed [(116, 12), (119, 12)] 2 Try.f100.ntmps rfl (by kernel_rfl) (by decide) ?_
       | refine goRound ?_ C_ok Try.f100.ntmps rfl (by decide)
       | skip) <;> simp only [h, ↓upd_eq, ↓envL_cons, WZ, reduceIte, reduceEqDiff, reduceAdd, reduceLT, reduceLeDiff, reduceCtorEq, reduceMul, reducePow, W1, W1C, Go.Ab.W3, Int.reduceAdd, Int.reduceLT, Int.reduceToNat, Int.reduceBEq, Int.reduceBNe, Int.reduceLE, cutNormal_normal]
    | some j2 =>
      rw [e2] at p2
      obtain rfl := q2 _ e2
      refine ⟨(mkFn j1 j2).co, ?_, fun j h => by rw [joinK_fn, e1, e2] at h; cases h; rfl⟩
      rw [joinK_fn, e1, e2]
      show PCalls Try.prog 100 _ (.tup [embC (mkFn j1 j2).co, .bool true])
      have hf := rformed_two 2 j1 j2
      rw [mkFn_co] at hf
      simp only [K.co, Option.isSome_some] at p1 p2 ⊢
      refine pcalls_text C_ok Try.func100 rfl (by decide) (Nat.le_of_ble_eq_true rfl) (by decide) (tup_bel _ _) fun ok H => ?_
      rw [Try.results100]
      have h := True.intro
      repeat' (first
       | (with_reducible first | apply bA | apply bB | apply bC | apply bD | apply bE | apply bF) <;> intro h
       | ((first | refine goCall_norm ?_ | refine goDCall_norm ?_); simp only [AV.norm, AV.normL, W2, W2C, Go.Ab.W3, Int.reduceAdd, Int.reduceLT, Int.reduceToNat, Int.reduceBEq, Int.reduceBNe, Int.reduceLE]; first | refine goCall_p (p1) (.inl rfl) ?_ | refine goCall_p (p2) (.inl rfl) ?_ | refine goCall_p (hf) (.inl rfl) ?_ | refine goDCall_p (p1) (.inl rfl) ?_ | refine goDCall_p (p2) (.inl rfl) ?_ | refine goDCall_p (hf) (.inl rfl) ?_)
       | refine go_draw (id := 7) C_ok (fun _ => trivial) mixed 1 Try.f100.ntmps rfl (by kernel_rfl) (by decide) ?_
       | refine go_draw (id := 14) C_ok (fun _ => trivial) mixed 0 Try.f100.ntmps rfl (by kernel_rfl) (by decide) ?_
       | refine go_draw (id := 18) C_ok (fun _ => trivial) mixed 1 Try.f100.ntmps rfl (by kernel_rfl) (by decide) ?_
       | refine go_drawX (id := 26) C_ok (fun _ => trivial) mixed [(116, 12), (119, 12)] 2 Try.f100.ntmps rfl (by kernel_rfl) (by decide) ?_
       | refine goRound ?_ C_ok Try.f100.ntmps rfl (by decide)
       | skip) <;> simp only [h, ↓upd_eq, ↓envL_cons, WZ, reduceIte, reduceEqDiff, reduceAdd, reduceLT, reduceLeDiff, reduceCtorEq, reduceMul, reducePow, W1, W1C, Go.Ab.W3, Int.reduceAdd, Int.reduceLT, Int.reduceToNat, Int.reduceBEq, Int.reduceBNe, Int.reduceLE, cutNormal_normal]

end Go.Proofs.Ytofogicgnldfhaa
end

section
/- Walks: the reference's joints of pairs, of lists. No condition. -/
set_option linter.unusedSimpArgs false
set_option linter.unusedVariables false
set_option maxHeartbeats 4000000
set_option maxRecDepth 100000
namespace Go.Proofs.Ytofogicgnldfhaa
open Go Go.Ab
open Nat (reduceEqDiff reduceAdd reduceLT reduceLeDiff reduceMul reducePow)
attribute [local irreducible] PCalls ACalls CallK GoCall GoDCall GoIf GoGb GoDGb GoO GoD GoX GoDX GoG GoDG GoGv GoDGv Go ALoop

theorem rjoin_pair (a a' b b' : K) (h1 : JoinOK 100 a b) (h2 : JoinOK 100 a' b') : JoinOK 100 (.pair a a') (.pair b b') := by
  obtain ⟨x1, p1, q1⟩ := h1
  obtain ⟨x2, p2, q2⟩ := h2
  cases e1 : joinK a b with
  | none =>
    rw [e1] at p1
    refine ⟨(K.pair a a').co, ?_, fun j h => by rw [joinK_pair, e1] at h; cases h⟩
    rw [joinK_pair, e1]
    show PCalls Try.prog 100 _ (.tup [embC (K.pair a a').co, .bool false])
    simp only [K.co, Option.isSome_none] at *
    refine pcalls_text C_ok Try.func100 rfl (by decide) (Nat.le_of_ble_eq_true rfl) (by decide) (tup_bel _ _) fun ok H => ?_
    rw [Try.results100]
    have h := True.intro
    repeat' (first
     | (with_reducible first | apply bA | apply bB | apply bC | apply bD | apply bE | apply bF) <;> intro h
     | ((first | refine goCall_norm ?_ | refine goDCall_norm ?_); simp only [AV.norm, AV.normL, W2, W2C, Go.Ab.W3, Int.reduceAdd, Int.reduceLT, Int.reduceToNat, Int.reduceBEq, Int.reduceBNe, Int.reduceLE]; first | refine goCall_p (p1) (.inl rfl) ?_ | refine goDCall_p (p1) (.inl rfl) ?_)
     | refine go_draw (id := 7) C_ok (fun _ => trivial) mixed 1 Try.f100.ntmps rfl (by kernel_rfl) (by decide) ?_
     | refine go_draw (id := 14) C_ok (fun _ => trivial) mixed 0 Try.f100.ntmps rfl (by kernel_rfl) (by decide) ?_
     | refine go_draw (id := 18) C_ok (fun _ => trivial) mixed 1 Try.f100.ntmps rfl (by kernel_rfl) (by decide) ?_
     | refine go_drawX (id := 26) C_ok (fun _ => trivial) mixed [(116, 12), (119, 12)] 2 Try.f100.ntmps rfl (by kernel_rfl) (by decide) ?_
     | refine goRound ?_ C_ok Try.f100.ntmps rfl (by decide)
     | skip) <;> simp only [h, ↓upd_eq, ↓envL_cons, WZ, reduceIte, reduceEqDiff, reduceAdd, reduceLT, reduceLeDiff, reduceCtorEq, reduceMul, reducePow, W1, W1C, Go.Ab.W3, Int.reduceAdd, Int.reduceLT, Int.reduceToNat, Int.reduceBEq, Int.reduceBNe, Int.reduceLE, cutNormal_normal]
  | some j1 =>
    rw [e1] at p1
    obtain rfl := q1 _ e1
    cases e2 : joinK a' b' with
    | none =>
      rw [e2] at p2
      refine ⟨(K.pair a a').co, ?_, fun j h => by rw [joinK_pair, e1, e2] at h; cases h⟩
      rw [joinK_pair, e1, e2]
      show PCalls Try.prog 100 _ (.tup [embC (K.pair a a').co, .bool false])
      simp only [K.co, Option.isSome_none, Option.isSome_some] at *
      refine pcalls_text C_ok Try.func100 rfl (by decide) (Nat.le_of_ble_eq_true rfl) (by decide) (tup_bel _ _) fun ok H => ?_
      rw [Try.results100]
      have h := True.intro
      repeat' (first
       | (with_reducible first | apply bA | apply bB | apply bC | apply bD | apply bE | apply bF) <;> intro h
       | ((first | refine goCall_norm ?_ | refine goDCall_norm ?_); simp only [AV.norm, AV.normL, W2, W2C, Go.Ab.W3, Int.reduceAdd, Int.reduceLT, Int.reduceToNat, Int.reduceBEq, Int.reduceBNe, Int.reduceLE]; first | refine goCall_p (p1) (.inl rfl) ?_ | refine goCall_p (p2) (.inl rfl) ?_ | refine goDCall_p (p1) (.inl rfl) ?_ | refine goDCall_p (p2) (.inl rfl) ?_)
       | refine go_draw (id := 7) C_ok (fun _ => trivial) mixed 1 Try.f100.ntmps rfl (by kernel_rfl) (by decide) ?_
       | refine go_draw (id := 14) C_ok (fun _ => trivial) mixed 0 Try.f100.ntmps rfl (by kernel_rfl) (by decide) ?_
       | refine go_draw (id := 18) C_ok (fun _ => trivial) mixed 1 Try.f100.ntmps rfl (by kernel_rfl) (by decide) ?_
       | refine go_drawX (id := 26) C_ok (fun _ => trivial) mixed [(116, 12), (119, 12)] 2 Try.f100.ntmps rfl (by kernel_rfl) (by decide) ?_
       | refine goRound ?_ C_ok Try.f100.ntmps rfl (by decide)
       | skip) <;> simp only [h, ↓upd_eq, ↓envL_cons, WZ, reduceIte, reduceEqDiff, reduceAdd, reduceLT, reduceLeDiff, reduceCtorEq, reduceMul, reducePow, W1, W1C, Go.Ab.W3, Int.reduceAdd, Int.reduceLT, Int.reduceToNat, Int.reduceBEq, Int.reduceBNe, Int.reduceLE, cutNormal_normal]
    | some j2 =>
      rw [e2] at p2
      obtain rfl := q2 _ e2
      refine ⟨(mkPair j1 j2).co, ?_, fun j h => by rw [joinK_pair, e1, e2] at h; cases h; rfl⟩
      rw [joinK_pair, e1, e2]
      show PCalls Try.prog 100 _ (.tup [embC (mkPair j1 j2).co, .bool true])
      have hf := rformed_two 3 j1 j2
      rw [mkPair_co] at hf
      simp only [K.co, Option.isSome_some] at p1 p2 ⊢
      refine pcalls_text C_ok Try.func100 rfl (by decide) (Nat.le_of_ble_eq_true rfl) (by decide) (tup_bel _ _) fun ok H => ?_
      rw [Try.results100]
      have h := True.intro
      repeat' (first
       | (with_reducible first | apply bA | apply bB | apply bC | apply bD | apply bE | apply bF) <;> intro h
       | ((first | refine goCall_norm ?_ | refine goDCall_norm ?_); simp only [AV.norm, AV.normL, W2, W2C, Go.Ab.W3, Int.reduceAdd, Int.reduceLT, Int.reduceToNat, Int.reduceBEq, Int.reduceBNe, Int.reduceLE]; first | refine goCall_p (p1) (.inl rfl) ?_ | refine goCall_p (p2) (.inl rfl) ?_ | refine goCall_p (hf) (.inl rfl) ?_ | refine goDCall_p (p1) (.inl rfl) ?_ | refine goDCall_p (p2) (.inl rfl) ?_ | refine goDCall_p (hf) (.inl rfl) ?_)
       | refine go_draw (id := 7) C_ok (fun _ => trivial) mixed 1 Try.f100.ntmps rfl (by kernel_rfl) (by decide) ?_
       | refine go_draw (id := 14) C_ok (fun _ => trivial) mixed 0 Try.f100.ntmps rfl (by kernel_rfl) (by decide) ?_
       | refine go_draw (id := 18) C_ok (fun _ => trivial) mixed 1 Try.f100.ntmps rfl (by kernel_rfl) (by decide) ?_
       | refine go_drawX (id := 26) C_ok (fun _ => trivial) mixed [(116, 12), (119, 12)] 2 Try.f100.ntmps rfl (by kernel_rfl) (by decide) ?_
       | refine goRound ?_ C_ok Try.f100.ntmps rfl (by decide)
       | skip) <;> simp only [h, ↓upd_eq, ↓envL_cons, WZ, reduceIte, reduceEqDiff, reduceAdd, reduceLT, reduceLeDiff, reduceCtorEq, reduceMul, reducePow, W1, W1C, Go.Ab.W3, Int.reduceAdd, Int.reduceLT, Int.reduceToNat, Int.reduceBEq, Int.reduceBNe, Int.reduceLE, cutNormal_normal]
theorem rjoin_list (a b : K) (h1 : JoinOK 100 a b) : JoinOK 100 (.list a) (.list b) := by
  obtain ⟨x1, p1, q1⟩ := h1
  cases e1 : joinK a b with
  | none =>
    rw [e1] at p1
    refine ⟨(K.list a).co, ?_, fun j h => by rw [joinK_list, e1] at h; cases h⟩
    rw [joinK_list, e1]
    show PCalls Try.prog 100 _ (.tup [embC (K.list a).co, .bool false])
    simp only [K.co, Option.isSome_none] at *
    refine pcalls_text C_ok Try.func100 rfl (by decide) (Nat.le_of_ble_eq_true rfl) (by decide) (tup_bel _ _) fun ok H => ?_
    rw [Try.results100]
    have h := True.intro
    repeat' (first
     | (with_reducible first | apply bA | apply bB | apply bC | apply bD | apply bE | apply bF) <;> intro h
     | ((first | refine goCall_norm ?_ | refine goDCall_norm ?_); simp only [AV.norm, AV.normL, W2, W2C, Go.Ab.W3, Int.reduceAdd, Int.reduceLT, Int.reduceToNat, Int.reduceBEq, Int.reduceBNe, Int.reduceLE]; first | refine goCall_p (p1) (.inl rfl) ?_ | refine goDCall_p (p1) (.inl rfl) ?_)
     | refine go_draw (id := 7) C_ok (fun _ => trivial) mixed 1 Try.f100.ntmps rfl (by kernel_rfl) (by decide) ?_
     | refine go_draw (id := 14) C_ok (fun _ => trivial) mixed 0 Try.f100.ntmps rfl (by kernel_rfl) (by decide) ?_
     | refine go_draw (id := 18) C_ok (fun _ => trivial) mixed 1 Try.f100.ntmps rfl (by kernel_rfl) (by decide) ?_
     | refine go_drawX (id := 26) C_ok (fun _ => trivial) mixed [(116, 12), (119, 12)] 2 Try.f100.ntmps rfl (by kernel_rfl) (by decide) ?_
     | refine goRound ?_ C_ok Try.f100.ntmps rfl (by decide)
     | skip) <;> simp only [h, ↓upd_eq, ↓envL_cons, WZ, reduceIte, reduceEqDiff, reduceAdd, reduceLT, reduceLeDiff, reduceCtorEq, reduceMul, reducePow, W1, W1C, Go.Ab.W3, Int.reduceAdd, Int.reduceLT, Int.reduceToNat, Int.reduceBEq, Int.reduceBNe, Int.reduceLE, cutNormal_normal]
  | some j1 =>
    rw [e1] at p1
    obtain rfl := q1 _ e1
    refine ⟨(mkList j1).co, ?_, fun j h => by rw [joinK_list, e1] at h; cases h; rfl⟩
    rw [joinK_list, e1]
    show PCalls Try.prog 100 _ (.tup [embC (mkList j1).co, .bool true])
    have hf := rformed_one 4 j1
    rw [mkList_co] at hf
    simp only [K.co, Option.isSome_some] at p1 ⊢
    refine pcalls_text C_ok Try.func100 rfl (by decide) (Nat.le_of_ble_eq_true rfl) (by decide) (tup_bel _ _) fun ok H => ?_
    rw [Try.results100]
    have h := True.intro
    repeat' (first
     | (with_reducible first | apply bA | apply bB | apply bC | apply bD | apply bE | apply bF) <;> intro h
     | ((first | refine goCall_norm ?_ | refine goDCall_norm ?_); simp only [AV.norm, AV.normL, W2, W2C, Go.Ab.W3, Int.reduceAdd, Int.reduceLT, Int.reduceToNat, Int.reduceBEq, Int.reduceBNe, Int.reduceLE]; first | refine goCall_p (p1) (.inl rfl) ?_ | refine goCall_p (hf) (.inl rfl) ?_ | refine goDCall_p (p1) (.inl rfl) ?_ | refine goDCall_p (hf) (.inl rfl) ?_)
     | refine go_draw (id := 7) C_ok (fun _ => trivial) mixed 1 Try.f100.ntmps rfl (by kernel_rfl) (by decide) ?_
     | refine go_draw (id := 14) C_ok (fun _ => trivial) mixed 0 Try.f100.ntmps rfl (by kernel_rfl) (by decide) ?_
     | refine go_draw (id := 18) C_ok (fun _ => trivial) mixed 1 Try.f100.ntmps rfl (by kernel_rfl) (by decide) ?_
     | refine go_drawX (id := 26) C_ok (fun _ => trivial) mixed [(116, 12), (119, 12)] 2 Try.f100.ntmps rfl (by kernel_rfl) (by decide) ?_
     | refine goRound ?_ C_ok Try.f100.ntmps rfl (by decide)
     | skip) <;> simp only [h, ↓upd_eq, ↓envL_cons, WZ, reduceIte, reduceEqDiff, reduceAdd, reduceLT, reduceLeDiff, reduceCtorEq, reduceMul, reducePow, W1, W1C, Go.Ab.W3, Int.reduceAdd, Int.reduceLT, Int.reduceToNat, Int.reduceBEq, Int.reduceBNe, Int.reduceLE, cutNormal_normal]

end Go.Proofs.Ytofogicgnldfhaa
end

section
/- Walks: the reference's joints, whole. No condition. -/
set_option linter.unusedSimpArgs false
set_option linter.unusedVariables false
set_option maxHeartbeats 4000000
set_option maxRecDepth 100000
namespace Go.Proofs.Ytofogicgnldfhaa
open Go Go.Ab
open Nat (reduceEqDiff reduceAdd reduceLT reduceLeDiff reduceMul reducePow)
attribute [local irreducible] PCalls ACalls CallK GoCall GoDCall GoIf GoGb GoDGb GoO GoD GoX GoDX GoG GoDG GoGv GoDGv Go ALoop

theorem rjoin_id_r (c : K) (hc : c ≠ .id) : PCalls Try.prog 100 [embC c.co, embC K.id.co] (.tup [embC c.co, .bool true]) := by
  have b1 : (c.co.kind == 1) = false := bk_of (by intro h; exact hc (isId_iff.1 (by rw [← K.kind_id]; simpa using h)))
  simp only [show K.id.co = .mk 1 0 0 false [] from rfl]
  refine pcalls_text C_ok Try.func100 rfl (by decide) (Nat.le_of_ble_eq_true rfl) (by decide) (tup_bel _ _) fun ok H => ?_
  rw [Try.results100]
  have h := True.intro
  repeat' (first
   | (with_reducible first | apply bA | apply bB | apply bC | apply bD | apply bE | apply bF) <;> intro h
   | refine go_draw (id := 7) C_ok (fun _ => trivial) mixed 1 Try.f100.ntmps rfl (by kernel_rfl) (by decide) ?_
   | refine go_draw (id := 14) C_ok (fun _ => trivial) mixed 0 Try.f100.ntmps rfl (by kernel_rfl) (by decide) ?_
   | refine go_draw (id := 18) C_ok (fun _ => trivial) mixed 1 Try.f100.ntmps rfl (by kernel_rfl) (by decide) ?_
   | refine go_drawX (id := 26) C_ok (fun _ => trivial) mixed [(116, 12), (119, 12)] 2 Try.f100.ntmps rfl (by kernel_rfl) (by decide) ?_
   | skip) <;> simp only [h, ↓upd_eq, ↓envL_cons, WZ, reduceIte, reduceEqDiff, reduceAdd, reduceLT, reduceLeDiff, reduceCtorEq, reduceMul, reducePow, W1, W1C, b1]
theorem rjoin_step (c d : K) (ih : ∀ x y : K, x.size + y.size < c.size + d.size → JoinOK 100 x y) : JoinOK 100 c d := by
  have none_ : joinK c d = none → PCalls Try.prog 100 [embC c.co, embC d.co] (.tup [embC c.co, .bool false]) → JoinOK 100 c d := fun h p =>
    ⟨_, by rw [h]; exact p, fun j hj => by rw [h] at hj; cases hj⟩
  have some_ : ∀ j, joinK c d = some j → PCalls Try.prog 100 [embC c.co, embC d.co] (.tup [embC j.co, .bool true]) → JoinOK 100 c d := fun j h p =>
    ⟨_, by rw [h]; exact p, fun j' hj => by rw [h] at hj; cases hj; rfl⟩
  by_cases hcid : c = .id
  · subst hcid
    refine some_ d (joinK_id d) ?_
    simp only [show K.id.co = .mk 1 0 0 false [] from rfl]
    refine pcalls_text C_ok Try.func100 rfl (by decide) (Nat.le_of_ble_eq_true rfl) (by decide) (tup_bel _ _) fun ok H => ?_
    rw [Try.results100]
    have h := True.intro
    repeat' (first
     | (with_reducible first | apply bA | apply bB | apply bC | apply bD | apply bE | apply bF) <;> intro h
     | refine go_draw (id := 7) C_ok (fun _ => trivial) mixed 1 Try.f100.ntmps rfl (by kernel_rfl) (by decide) ?_
     | refine go_draw (id := 14) C_ok (fun _ => trivial) mixed 0 Try.f100.ntmps rfl (by kernel_rfl) (by decide) ?_
     | refine go_draw (id := 18) C_ok (fun _ => trivial) mixed 1 Try.f100.ntmps rfl (by kernel_rfl) (by decide) ?_
     | refine go_drawX (id := 26) C_ok (fun _ => trivial) mixed [(116, 12), (119, 12)] 2 Try.f100.ntmps rfl (by kernel_rfl) (by decide) ?_
     | skip) <;> simp only [h, ↓upd_eq, ↓envL_cons, WZ, reduceIte, reduceEqDiff, reduceAdd, reduceLT, reduceLeDiff, reduceCtorEq, reduceMul, reducePow, W1, W1C]
  by_cases hdid : d = .id
  · subst hdid
    exact some_ c joinK_form_id (rjoin_id_r c hcid)
  have bd1 : (d.co.kind == 1) = false := bk_of (by intro h; exact hdid (isId_iff.1 (by rw [← K.kind_id]; simpa using h)))
  cases c with
  | id => exact absurd rfl hcid
  | fail l n =>
    refine some_ _ (joinK_fail l n d) ?_
    simp only [K.co]
    refine pcalls_text C_ok Try.func100 rfl (by decide) (Nat.le_of_ble_eq_true rfl) (by decide) (tup_bel _ _) fun ok H => ?_
    rw [Try.results100]
    have h := True.intro
    repeat' (first
     | (with_reducible first | apply bA | apply bB | apply bC | apply bD | apply bE | apply bF) <;> intro h
     | refine go_draw (id := 7) C_ok (fun _ => trivial) mixed 1 Try.f100.ntmps rfl (by kernel_rfl) (by decide) ?_
     | refine go_draw (id := 14) C_ok (fun _ => trivial) mixed 0 Try.f100.ntmps rfl (by kernel_rfl) (by decide) ?_
     | refine go_draw (id := 18) C_ok (fun _ => trivial) mixed 1 Try.f100.ntmps rfl (by kernel_rfl) (by decide) ?_
     | refine go_drawX (id := 26) C_ok (fun _ => trivial) mixed [(116, 12), (119, 12)] 2 Try.f100.ntmps rfl (by kernel_rfl) (by decide) ?_
     | refine goRound ?_ C_ok Try.f100.ntmps rfl (by decide)
     | skip) <;> simp only [h, ↓upd_eq, ↓envL_cons, WZ, reduceIte, reduceEqDiff, reduceAdd, reduceLT, reduceLeDiff, reduceCtorEq, reduceMul, reducePow, W1, W1C, Go.Ab.W3, Int.reduceAdd, Int.reduceLT, Int.reduceToNat, Int.reduceBEq, Int.reduceBNe, Int.reduceLE, bd1, cutNormal_normal]
  | proj h l n k =>
    obtain ⟨x, p, q⟩ := ih k d (by simp only [K.size]; omega)
    refine ⟨.mk 6 h l n [x], ?_, fun j hj => ?_⟩
    · rw [joinK_proj, Option.isSome_map]
      simp only [K.co]
      refine pcalls_text C_ok Try.func100 rfl (by decide) (Nat.le_of_ble_eq_true rfl) (by decide) (tup_bel _ _) fun ok H => ?_
      rw [Try.results100]
      have h := True.intro
      repeat' (first
       | (with_reducible first | apply bA | apply bB | apply bC | apply bD | apply bE | apply bF) <;> intro h
       | ((first | refine goCall_norm ?_ | refine goDCall_norm ?_); simp only [AV.norm, AV.normL, W2, W2C, Go.Ab.W3, Int.reduceAdd, Int.reduceLT, Int.reduceToNat, Int.reduceBEq, Int.reduceBNe, Int.reduceLE, bd1]; first | refine goCall_p (p) (.inl rfl) ?_ | refine goCall_p (around_ok _ _) (.inl rfl) ?_ | refine goDCall_p (p) (.inl rfl) ?_ | refine goDCall_p (around_ok _ _) (.inl rfl) ?_)
       | refine go_draw (id := 7) C_ok (fun _ => trivial) mixed 1 Try.f100.ntmps rfl (by kernel_rfl) (by decide) ?_
       | refine go_draw (id := 14) C_ok (fun _ => trivial) mixed 0 Try.f100.ntmps rfl (by kernel_rfl) (by decide) ?_
       | refine go_draw (id := 18) C_ok (fun _ => trivial) mixed 1 Try.f100.ntmps rfl (by kernel_rfl) (by decide) ?_
       | refine go_drawX (id := 26) C_ok (fun _ => trivial) mixed [(116, 12), (119, 12)] 2 Try.f100.ntmps rfl (by kernel_rfl) (by decide) ?_
       | refine goRound ?_ C_ok Try.f100.ntmps rfl (by decide)
       | skip) <;> simp only [h, ↓upd_eq, ↓envL_cons, WZ, reduceIte, reduceEqDiff, reduceAdd, reduceLT, reduceLeDiff, reduceCtorEq, reduceMul, reducePow, W1, W1C, Go.Ab.W3, Int.reduceAdd, Int.reduceLT, Int.reduceToNat, Int.reduceBEq, Int.reduceBNe, Int.reduceLE, bd1, cutNormal_normal]
    · rw [joinK_proj] at hj
      obtain ⟨j', h1, rfl⟩ := map_some' hj
      rw [q j' h1]; rfl
  | inj h k =>
    by_cases hdp : ∃ h' l n k', d = .proj h' l n k'
    · obtain ⟨h', l, n, k', rfl⟩ := hdp
      by_cases hh : h = h'
      · subst hh
        obtain ⟨x, p, q⟩ := ih k k' (by simp only [K.size]; omega)
        have e : joinK (.inj h k) (.proj h l n k') = joinK k k' := by rw [joinK_inj_proj, if_pos rfl]
        refine ⟨x, ?_, fun j hj => q j (by rw [← e]; exact hj)⟩
        rw [e]
        simp only [K.co]
        refine pcalls_text C_ok Try.func100 rfl (by decide) (Nat.le_of_ble_eq_true rfl) (by decide) (tup_bel _ _) fun ok H => ?_
        rw [Try.results100]
        have h := True.intro
        repeat' (first
         | (with_reducible first | apply bA | apply bB | apply bC | apply bD | apply bE | apply bF) <;> intro h
         | ((first | refine goCall_norm ?_ | refine goDCall_norm ?_); simp only [AV.norm, AV.normL, W2, W2C, Go.Ab.W3, Int.reduceAdd, Int.reduceLT, Int.reduceToNat, Int.reduceBEq, Int.reduceBNe, Int.reduceLE, bne_self_eq_false]; first | refine goCall_p (p) (.inl rfl) ?_ | refine goDCall_p (p) (.inl rfl) ?_)
         | refine go_draw (id := 7) C_ok (fun _ => trivial) mixed 1 Try.f100.ntmps rfl (by kernel_rfl) (by decide) ?_
         | refine go_draw (id := 14) C_ok (fun _ => trivial) mixed 0 Try.f100.ntmps rfl (by kernel_rfl) (by decide) ?_
         | refine go_draw (id := 18) C_ok (fun _ => trivial) mixed 1 Try.f100.ntmps rfl (by kernel_rfl) (by decide) ?_
         | refine go_drawX (id := 26) C_ok (fun _ => trivial) mixed [(116, 12), (119, 12)] 2 Try.f100.ntmps rfl (by kernel_rfl) (by decide) ?_
         | refine goRound ?_ C_ok Try.f100.ntmps rfl (by decide)
         | skip) <;> simp only [h, ↓upd_eq, ↓envL_cons, WZ, reduceIte, reduceEqDiff, reduceAdd, reduceLT, reduceLeDiff, reduceCtorEq, reduceMul, reducePow, W1, W1C, Go.Ab.W3, Int.reduceAdd, Int.reduceLT, Int.reduceToNat, Int.reduceBEq, Int.reduceBNe, Int.reduceLE, bne_self_eq_false, cutNormal_normal]
      · refine some_ (.fail l n) (by rw [joinK_inj_proj, if_neg hh]) ?_
        have bh := bk_eq hh
        simp only [K.co]
        refine pcalls_text C_ok Try.func100 rfl (by decide) (Nat.le_of_ble_eq_true rfl) (by decide) (tup_bel _ _) fun ok H => ?_
        rw [Try.results100]
        have h := True.intro
        repeat' (first
         | (with_reducible first | apply bA | apply bB | apply bC | apply bD | apply bE | apply bF) <;> intro h
         | refine go_draw (id := 7) C_ok (fun _ => trivial) mixed 1 Try.f100.ntmps rfl (by kernel_rfl) (by decide) ?_
         | refine go_draw (id := 14) C_ok (fun _ => trivial) mixed 0 Try.f100.ntmps rfl (by kernel_rfl) (by decide) ?_
         | refine go_draw (id := 18) C_ok (fun _ => trivial) mixed 1 Try.f100.ntmps rfl (by kernel_rfl) (by decide) ?_
         | refine go_drawX (id := 26) C_ok (fun _ => trivial) mixed [(116, 12), (119, 12)] 2 Try.f100.ntmps rfl (by kernel_rfl) (by decide) ?_
         | refine goRound ?_ C_ok Try.f100.ntmps rfl (by decide)
         | skip) <;> simp only [h, ↓upd_eq, ↓envL_cons, WZ, reduceIte, reduceEqDiff, reduceAdd, reduceLT, reduceLeDiff, reduceCtorEq, reduceMul, reducePow, W1, W1C, Go.Ab.W3, Int.reduceAdd, Int.reduceLT, Int.reduceToNat, Int.reduceBEq, Int.reduceBNe, Int.reduceLE, bh, cutNormal_normal]
    · have b6 : (d.co.kind != 6) = true := by
        have : d.co.kind ≠ 6 := by cases d <;> simp [K.co, Co.kind]; exact absurd ⟨_, _, _, _, rfl⟩ hdp
        simpa using this
      refine none_ (joinK_inj_none _ _ _ (by cases d <;> first | rfl | exact absurd rfl hdid) (fun h' l n k' e => hdp ⟨_, _, _, _, e⟩)) ?_
      simp only [K.co]
      refine pcalls_text C_ok Try.func100 rfl (by decide) (Nat.le_of_ble_eq_true rfl) (by decide) (tup_bel _ _) fun ok H => ?_
      rw [Try.results100]
      have h := True.intro
      repeat' (first
       | (with_reducible first | apply bA | apply bB | apply bC | apply bD | apply bE | apply bF) <;> intro h
       | refine go_draw (id := 7) C_ok (fun _ => trivial) mixed 1 Try.f100.ntmps rfl (by kernel_rfl) (by decide) ?_
       | refine go_draw (id := 14) C_ok (fun _ => trivial) mixed 0 Try.f100.ntmps rfl (by kernel_rfl) (by decide) ?_
       | refine go_draw (id := 18) C_ok (fun _ => trivial) mixed 1 Try.f100.ntmps rfl (by kernel_rfl) (by decide) ?_
       | refine go_drawX (id := 26) C_ok (fun _ => trivial) mixed [(116, 12), (119, 12)] 2 Try.f100.ntmps rfl (by kernel_rfl) (by decide) ?_
       | refine goRound ?_ C_ok Try.f100.ntmps rfl (by decide)
       | skip) <;> simp only [h, ↓upd_eq, ↓envL_cons, WZ, reduceIte, reduceEqDiff, reduceAdd, reduceLT, reduceLeDiff, reduceCtorEq, reduceMul, reducePow, W1, W1C, Go.Ab.W3, Int.reduceAdd, Int.reduceLT, Int.reduceToNat, Int.reduceBEq, Int.reduceBNe, Int.reduceLE, bd1, b6, cutNormal_normal]
  | fn x y =>
    have hcf : (K.fn x y).isForm = true := rfl
    cases d with
    | id => exact absurd rfl hdid
    | fail l n =>
      refine some_ _ (joinK_form_fail hcf l n) ?_
      simp only [K.co]
      refine pcalls_text C_ok Try.func100 rfl (by decide) (Nat.le_of_ble_eq_true rfl) (by decide) (tup_bel _ _) fun ok H => ?_
      rw [Try.results100]
      have h := True.intro
      repeat' (first
       | (with_reducible first | apply bA | apply bB | apply bC | apply bD | apply bE | apply bF) <;> intro h
       | refine go_draw (id := 7) C_ok (fun _ => trivial) mixed 1 Try.f100.ntmps rfl (by kernel_rfl) (by decide) ?_
       | refine go_draw (id := 14) C_ok (fun _ => trivial) mixed 0 Try.f100.ntmps rfl (by kernel_rfl) (by decide) ?_
       | refine go_draw (id := 18) C_ok (fun _ => trivial) mixed 1 Try.f100.ntmps rfl (by kernel_rfl) (by decide) ?_
       | refine go_drawX (id := 26) C_ok (fun _ => trivial) mixed [(116, 12), (119, 12)] 2 Try.f100.ntmps rfl (by kernel_rfl) (by decide) ?_
       | refine goRound ?_ C_ok Try.f100.ntmps rfl (by decide)
       | skip) <;> simp only [h, ↓upd_eq, ↓envL_cons, WZ, reduceIte, reduceEqDiff, reduceAdd, reduceLT, reduceLeDiff, reduceCtorEq, reduceMul, reducePow, W1, W1C, Go.Ab.W3, Int.reduceAdd, Int.reduceLT, Int.reduceToNat, Int.reduceBEq, Int.reduceBNe, Int.reduceLE, cutNormal_normal]
    | proj h l n k =>
      refine none_ (joinK_form_proj hcf h l n k) ?_
      simp only [K.co]
      refine pcalls_text C_ok Try.func100 rfl (by decide) (Nat.le_of_ble_eq_true rfl) (by decide) (tup_bel _ _) fun ok H => ?_
      rw [Try.results100]
      have h := True.intro
      repeat' (first
       | (with_reducible first | apply bA | apply bB | apply bC | apply bD | apply bE | apply bF) <;> intro h
       | refine go_draw (id := 7) C_ok (fun _ => trivial) mixed 1 Try.f100.ntmps rfl (by kernel_rfl) (by decide) ?_
       | refine go_draw (id := 14) C_ok (fun _ => trivial) mixed 0 Try.f100.ntmps rfl (by kernel_rfl) (by decide) ?_
       | refine go_draw (id := 18) C_ok (fun _ => trivial) mixed 1 Try.f100.ntmps rfl (by kernel_rfl) (by decide) ?_
       | refine go_drawX (id := 26) C_ok (fun _ => trivial) mixed [(116, 12), (119, 12)] 2 Try.f100.ntmps rfl (by kernel_rfl) (by decide) ?_
       | refine goRound ?_ C_ok Try.f100.ntmps rfl (by decide)
       | skip) <;> simp only [h, ↓upd_eq, ↓envL_cons, WZ, reduceIte, reduceEqDiff, reduceAdd, reduceLT, reduceLeDiff, reduceCtorEq, reduceMul, reducePow, W1, W1C, Go.Ab.W3, Int.reduceAdd, Int.reduceLT, Int.reduceToNat, Int.reduceBEq, Int.reduceBNe, Int.reduceLE, cutNormal_normal]
    | inj h k =>
      obtain ⟨x, p, q⟩ := ih (.fn x y) k (by simp only [K.size]; omega)
      refine ⟨.mk 5 h 0 false [x], ?_, fun j hj => ?_⟩
      · rw [joinK_form_inj hcf, Option.isSome_map]
        simp only [K.co] at p ⊢
        refine pcalls_text C_ok Try.func100 rfl (by decide) (Nat.le_of_ble_eq_true rfl) (by decide) (tup_bel _ _) fun ok H => ?_
        rw [Try.results100]
        have h := True.intro
        repeat' (first
         | (with_reducible first | apply bA | apply bB | apply bC | apply bD | apply bE | apply bF) <;> intro h
         | ((first | refine goCall_norm ?_ | refine goDCall_norm ?_); simp only [AV.norm, AV.normL, W2, W2C, Go.Ab.W3, Int.reduceAdd, Int.reduceLT, Int.reduceToNat, Int.reduceBEq, Int.reduceBNe, Int.reduceLE]; first | refine goCall_p (p) (.inl rfl) ?_ | refine goCall_p (around_ok _ _) (.inl rfl) ?_ | refine goDCall_p (p) (.inl rfl) ?_ | refine goDCall_p (around_ok _ _) (.inl rfl) ?_)
         | refine go_draw (id := 7) C_ok (fun _ => trivial) mixed 1 Try.f100.ntmps rfl (by kernel_rfl) (by decide) ?_
         | refine go_draw (id := 14) C_ok (fun _ => trivial) mixed 0 Try.f100.ntmps rfl (by kernel_rfl) (by decide) ?_
         | refine go_draw (id := 18) C_ok (fun _ => trivial) mixed 1 Try.f100.ntmps rfl (by kernel_rfl) (by decide) ?_
         | refine go_drawX (id := 26) C_ok (fun _ => trivial) mixed [(116, 12), (119, 12)] 2 Try.f100.ntmps rfl (by kernel_rfl) (by decide) ?_
         | refine goRound ?_ C_ok Try.f100.ntmps rfl (by decide)
         | skip) <;> simp only [h, ↓upd_eq, ↓envL_cons, WZ, reduceIte, reduceEqDiff, reduceAdd, reduceLT, reduceLeDiff, reduceCtorEq, reduceMul, reducePow, W1, W1C, Go.Ab.W3, Int.reduceAdd, Int.reduceLT, Int.reduceToNat, Int.reduceBEq, Int.reduceBNe, Int.reduceLE, cutNormal_normal]
      · rw [joinK_form_inj hcf] at hj
        obtain ⟨j', h1, rfl⟩ := map_some' hj
        rw [q j' h1]; rfl
    | fn x' y' => exact rjoin_fn _ _ _ _ (ih x' x (by simp only [K.size]; omega)) (ih y y' (by simp only [K.size]; omega))
    | pair x' y' =>
      refine none_ (joinK_forms hcf rfl (by simp [K.form])) ?_
      simp only [K.co]
      refine pcalls_text C_ok Try.func100 rfl (by decide) (Nat.le_of_ble_eq_true rfl) (by decide) (tup_bel _ _) fun ok H => ?_
      rw [Try.results100]
      have h := True.intro
      repeat' (first
       | (with_reducible first | apply bA | apply bB | apply bC | apply bD | apply bE | apply bF) <;> intro h
       | refine go_draw (id := 7) C_ok (fun _ => trivial) mixed 1 Try.f100.ntmps rfl (by kernel_rfl) (by decide) ?_
       | refine go_draw (id := 14) C_ok (fun _ => trivial) mixed 0 Try.f100.ntmps rfl (by kernel_rfl) (by decide) ?_
       | refine go_draw (id := 18) C_ok (fun _ => trivial) mixed 1 Try.f100.ntmps rfl (by kernel_rfl) (by decide) ?_
       | refine go_drawX (id := 26) C_ok (fun _ => trivial) mixed [(116, 12), (119, 12)] 2 Try.f100.ntmps rfl (by kernel_rfl) (by decide) ?_
       | refine goRound ?_ C_ok Try.f100.ntmps rfl (by decide)
       | skip) <;> simp only [h, ↓upd_eq, ↓envL_cons, WZ, reduceIte, reduceEqDiff, reduceAdd, reduceLT, reduceLeDiff, reduceCtorEq, reduceMul, reducePow, W1, W1C, Go.Ab.W3, Int.reduceAdd, Int.reduceLT, Int.reduceToNat, Int.reduceBEq, Int.reduceBNe, Int.reduceLE, cutNormal_normal]
    | list x' =>
      refine none_ (joinK_forms hcf rfl (by simp [K.form])) ?_
      simp only [K.co]
      refine pcalls_text C_ok Try.func100 rfl (by decide) (Nat.le_of_ble_eq_true rfl) (by decide) (tup_bel _ _) fun ok H => ?_
      rw [Try.results100]
      have h := True.intro
      repeat' (first
       | (with_reducible first | apply bA | apply bB | apply bC | apply bD | apply bE | apply bF) <;> intro h
       | refine go_draw (id := 7) C_ok (fun _ => trivial) mixed 1 Try.f100.ntmps rfl (by kernel_rfl) (by decide) ?_
       | refine go_draw (id := 14) C_ok (fun _ => trivial) mixed 0 Try.f100.ntmps rfl (by kernel_rfl) (by decide) ?_
       | refine go_draw (id := 18) C_ok (fun _ => trivial) mixed 1 Try.f100.ntmps rfl (by kernel_rfl) (by decide) ?_
       | refine go_drawX (id := 26) C_ok (fun _ => trivial) mixed [(116, 12), (119, 12)] 2 Try.f100.ntmps rfl (by kernel_rfl) (by decide) ?_
       | refine goRound ?_ C_ok Try.f100.ntmps rfl (by decide)
       | skip) <;> simp only [h, ↓upd_eq, ↓envL_cons, WZ, reduceIte, reduceEqDiff, reduceAdd, reduceLT, reduceLeDiff, reduceCtorEq, reduceMul, reducePow, W1, W1C, Go.Ab.W3, Int.reduceAdd, Int.reduceLT, Int.reduceToNat, Int.reduceBEq, Int.reduceBNe, Int.reduceLE, cutNormal_normal]
  | pair x y =>
    have hcf : (K.pair x y).isForm = true := rfl
    cases d with
    | id => exact absurd rfl hdid
    | fail l n =>
      refine some_ _ (joinK_form_fail hcf l n) ?_
      simp only [K.co]
      refine pcalls_text C_ok Try.func100 rfl (by decide) (Nat.le_of_ble_eq_true rfl) (by decide) (tup_bel _ _) fun ok H => ?_
      rw [Try.results100]
      have h := True.intro
      repeat' (first
       | (with_reducible first | apply bA | apply bB | apply bC | apply bD | apply bE | apply bF) <;> intro h
       | refine go_draw (id := 7) C_ok (fun _ => trivial) mixed 1 Try.f100.ntmps rfl (by kernel_rfl) (by decide) ?_
       | refine go_draw (id := 14) C_ok (fun _ => trivial) mixed 0 Try.f100.ntmps rfl (by kernel_rfl) (by decide) ?_
       | refine go_draw (id := 18) C_ok (fun _ => trivial) mixed 1 Try.f100.ntmps rfl (by kernel_rfl) (by decide) ?_
       | refine go_drawX (id := 26) C_ok (fun _ => trivial) mixed [(116, 12), (119, 12)] 2 Try.f100.ntmps rfl (by kernel_rfl) (by decide) ?_
       | refine goRound ?_ C_ok Try.f100.ntmps rfl (by decide)
       | skip) <;> simp only [h, ↓upd_eq, ↓envL_cons, WZ, reduceIte, reduceEqDiff, reduceAdd, reduceLT, reduceLeDiff, reduceCtorEq, reduceMul, reducePow, W1, W1C, Go.Ab.W3, Int.reduceAdd, Int.reduceLT, Int.reduceToNat, Int.reduceBEq, Int.reduceBNe, Int.reduceLE, cutNormal_normal]
    | proj h l n k =>
      refine none_ (joinK_form_proj hcf h l n k) ?_
      simp only [K.co]
      refine pcalls_text C_ok Try.func100 rfl (by decide) (Nat.le_of_ble_eq_true rfl) (by decide) (tup_bel _ _) fun ok H => ?_
      rw [Try.results100]
      have h := True.intro
      repeat' (first
       | (with_reducible first | apply bA | apply bB | apply bC | apply bD | apply bE | apply bF) <;> intro h
       | refine go_draw (id := 7) C_ok (fun _ => trivial) mixed 1 Try.f100.ntmps rfl (by kernel_rfl) (by decide) ?_
       | refine go_draw (id := 14) C_ok (fun _ => trivial) mixed 0 Try.f100.ntmps rfl (by kernel_rfl) (by decide) ?_
       | refine go_draw (id := 18) C_ok (fun _ => trivial) mixed 1 Try.f100.ntmps rfl (by kernel_rfl) (by decide) ?_
       | refine go_drawX (id := 26) C_ok (fun _ => trivial) mixed [(116, 12), (119, 12)] 2 Try.f100.ntmps rfl (by kernel_rfl) (by decide) ?_
       | refine goRound ?_ C_ok Try.f100.ntmps rfl (by decide)
       | skip) <;> simp only [h, ↓upd_eq, ↓envL_cons, WZ, reduceIte, reduceEqDiff, reduceAdd, reduceLT, reduceLeDiff, reduceCtorEq, reduceMul, reducePow, W1, W1C, Go.Ab.W3, Int.reduceAdd, Int.reduceLT, Int.reduceToNat, Int.reduceBEq, Int.reduceBNe, Int.reduceLE, cutNormal_normal]
    | inj h k =>
      obtain ⟨x, p, q⟩ := ih (.pair x y) k (by simp only [K.size]; omega)
      refine ⟨.mk 5 h 0 false [x], ?_, fun j hj => ?_⟩
      · rw [joinK_form_inj hcf, Option.isSome_map]
        simp only [K.co] at p ⊢
        refine pcalls_text C_ok Try.func100 rfl (by decide) (Nat.le_of_ble_eq_true rfl) (by decide) (tup_bel _ _) fun ok H => ?_
        rw [Try.results100]
        have h := True.intro
        repeat' (first
         | (with_reducible first | apply bA | apply bB | apply bC | apply bD | apply bE | apply bF) <;> intro h
         | ((first | refine goCall_norm ?_ | refine goDCall_norm ?_); simp only [AV.norm, AV.normL, W2, W2C, Go.Ab.W3, Int.reduceAdd, Int.reduceLT, Int.reduceToNat, Int.reduceBEq, Int.reduceBNe, Int.reduceLE]; first | refine goCall_p (p) (.inl rfl) ?_ | refine goCall_p (around_ok _ _) (.inl rfl) ?_ | refine goDCall_p (p) (.inl rfl) ?_ | refine goDCall_p (around_ok _ _) (.inl rfl) ?_)
         | refine go_draw (id := 7) C_ok (fun _ => trivial) mixed 1 Try.f100.ntmps rfl (by kernel_rfl) (by decide) ?_
         | refine go_draw (id := 14) C_ok (fun _ => trivial) mixed 0 Try.f100.ntmps rfl (by kernel_rfl) (by decide) ?_
         | refine go_draw (id := 18) C_ok (fun _ => trivial) mixed 1 Try.f100.ntmps rfl (by kernel_rfl) (by decide) ?_
         | refine go_drawX (id := 26) C_ok (fun _ => trivial) mixed [(116, 12), (119, 12)] 2 Try.f100.ntmps rfl (by kernel_rfl) (by decide) ?_
         | refine goRound ?_ C_ok Try.f100.ntmps rfl (by decide)
         | skip) <;> simp only [h, ↓upd_eq, ↓envL_cons, WZ, reduceIte, reduceEqDiff, reduceAdd, reduceLT, reduceLeDiff, reduceCtorEq, reduceMul, reducePow, W1, W1C, Go.Ab.W3, Int.reduceAdd, Int.reduceLT, Int.reduceToNat, Int.reduceBEq, Int.reduceBNe, Int.reduceLE, cutNormal_normal]
      · rw [joinK_form_inj hcf] at hj
        obtain ⟨j', h1, rfl⟩ := map_some' hj
        rw [q j' h1]; rfl
    | fn x' y' =>
      refine none_ (joinK_forms hcf rfl (by simp [K.form])) ?_
      simp only [K.co]
      refine pcalls_text C_ok Try.func100 rfl (by decide) (Nat.le_of_ble_eq_true rfl) (by decide) (tup_bel _ _) fun ok H => ?_
      rw [Try.results100]
      have h := True.intro
      repeat' (first
       | (with_reducible first | apply bA | apply bB | apply bC | apply bD | apply bE | apply bF) <;> intro h
       | refine go_draw (id := 7) C_ok (fun _ => trivial) mixed 1 Try.f100.ntmps rfl (by kernel_rfl) (by decide) ?_
       | refine go_draw (id := 14) C_ok (fun _ => trivial) mixed 0 Try.f100.ntmps rfl (by kernel_rfl) (by decide) ?_
       | refine go_draw (id := 18) C_ok (fun _ => trivial) mixed 1 Try.f100.ntmps rfl (by kernel_rfl) (by decide) ?_
       | refine go_drawX (id := 26) C_ok (fun _ => trivial) mixed [(116, 12), (119, 12)] 2 Try.f100.ntmps rfl (by kernel_rfl) (by decide) ?_
       | refine goRound ?_ C_ok Try.f100.ntmps rfl (by decide)
       | skip) <;> simp only [h, ↓upd_eq, ↓envL_cons, WZ, reduceIte, reduceEqDiff, reduceAdd, reduceLT, reduceLeDiff, reduceCtorEq, reduceMul, reducePow, W1, W1C, Go.Ab.W3, Int.reduceAdd, Int.reduceLT, Int.reduceToNat, Int.reduceBEq, Int.reduceBNe, Int.reduceLE, cutNormal_normal]
    | pair x' y' => exact rjoin_pair _ _ _ _ (ih x x' (by simp only [K.size]; omega)) (ih y y' (by simp only [K.size]; omega))
    | list x' =>
      refine none_ (joinK_forms hcf rfl (by simp [K.form])) ?_
      simp only [K.co]
      refine pcalls_text C_ok Try.func100 rfl (by decide) (Nat.le_of_ble_eq_true rfl) (by decide) (tup_bel _ _) fun ok H => ?_
      rw [Try.results100]
      have h := True.intro
      repeat' (first
       | (with_reducible first | apply bA | apply bB | apply bC | apply bD | apply bE | apply bF) <;> intro h
       | refine go_draw (id := 7) C_ok (fun _ => trivial) mixed 1 Try.f100.ntmps rfl (by kernel_rfl) (by decide) ?_
       | refine go_draw (id := 14) C_ok (fun _ => trivial) mixed 0 Try.f100.ntmps rfl (by kernel_rfl) (by decide) ?_
       | refine go_draw (id := 18) C_ok (fun _ => trivial) mixed 1 Try.f100.ntmps rfl (by kernel_rfl) (by decide) ?_
       | refine go_drawX (id := 26) C_ok (fun _ => trivial) mixed [(116, 12), (119, 12)] 2 Try.f100.ntmps rfl (by kernel_rfl) (by decide) ?_
       | refine goRound ?_ C_ok Try.f100.ntmps rfl (by decide)
       | skip) <;> simp only [h, ↓upd_eq, ↓envL_cons, WZ, reduceIte, reduceEqDiff, reduceAdd, reduceLT, reduceLeDiff, reduceCtorEq, reduceMul, reducePow, W1, W1C, Go.Ab.W3, Int.reduceAdd, Int.reduceLT, Int.reduceToNat, Int.reduceBEq, Int.reduceBNe, Int.reduceLE, cutNormal_normal]
  | list x =>
    have hcf : (K.list x).isForm = true := rfl
    cases d with
    | id => exact absurd rfl hdid
    | fail l n =>
      refine some_ _ (joinK_form_fail hcf l n) ?_
      simp only [K.co]
      refine pcalls_text C_ok Try.func100 rfl (by decide) (Nat.le_of_ble_eq_true rfl) (by decide) (tup_bel _ _) fun ok H => ?_
      rw [Try.results100]
      have h := True.intro
      repeat' (first
       | (with_reducible first | apply bA | apply bB | apply bC | apply bD | apply bE | apply bF) <;> intro h
       | refine go_draw (id := 7) C_ok (fun _ => trivial) mixed 1 Try.f100.ntmps rfl (by kernel_rfl) (by decide) ?_
       | refine go_draw (id := 14) C_ok (fun _ => trivial) mixed 0 Try.f100.ntmps rfl (by kernel_rfl) (by decide) ?_
       | refine go_draw (id := 18) C_ok (fun _ => trivial) mixed 1 Try.f100.ntmps rfl (by kernel_rfl) (by decide) ?_
       | refine go_drawX (id := 26) C_ok (fun _ => trivial) mixed [(116, 12), (119, 12)] 2 Try.f100.ntmps rfl (by kernel_rfl) (by decide) ?_
       | refine goRound ?_ C_ok Try.f100.ntmps rfl (by decide)
       | skip) <;> simp only [h, ↓upd_eq, ↓envL_cons, WZ, reduceIte, reduceEqDiff, reduceAdd, reduceLT, reduceLeDiff, reduceCtorEq, reduceMul, reducePow, W1, W1C, Go.Ab.W3, Int.reduceAdd, Int.reduceLT, Int.reduceToNat, Int.reduceBEq, Int.reduceBNe, Int.reduceLE, cutNormal_normal]
    | proj h l n k =>
      refine none_ (joinK_form_proj hcf h l n k) ?_
      simp only [K.co]
      refine pcalls_text C_ok Try.func100 rfl (by decide) (Nat.le_of_ble_eq_true rfl) (by decide) (tup_bel _ _) fun ok H => ?_
      rw [Try.results100]
      have h := True.intro
      repeat' (first
       | (with_reducible first | apply bA | apply bB | apply bC | apply bD | apply bE | apply bF) <;> intro h
       | refine go_draw (id := 7) C_ok (fun _ => trivial) mixed 1 Try.f100.ntmps rfl (by kernel_rfl) (by decide) ?_
       | refine go_draw (id := 14) C_ok (fun _ => trivial) mixed 0 Try.f100.ntmps rfl (by kernel_rfl) (by decide) ?_
       | refine go_draw (id := 18) C_ok (fun _ => trivial) mixed 1 Try.f100.ntmps rfl (by kernel_rfl) (by decide) ?_
       | refine go_drawX (id := 26) C_ok (fun _ => trivial) mixed [(116, 12), (119, 12)] 2 Try.f100.ntmps rfl (by kernel_rfl) (by decide) ?_
       | refine goRound ?_ C_ok Try.f100.ntmps rfl (by decide)
       | skip) <;> simp only [h, ↓upd_eq, ↓envL_cons, WZ, reduceIte, reduceEqDiff, reduceAdd, reduceLT, reduceLeDiff, reduceCtorEq, reduceMul, reducePow, W1, W1C, Go.Ab.W3, Int.reduceAdd, Int.reduceLT, Int.reduceToNat, Int.reduceBEq, Int.reduceBNe, Int.reduceLE, cutNormal_normal]
    | inj h k =>
      obtain ⟨x, p, q⟩ := ih (.list x) k (by simp only [K.size]; omega)
      refine ⟨.mk 5 h 0 false [x], ?_, fun j hj => ?_⟩
      · rw [joinK_form_inj hcf, Option.isSome_map]
        simp only [K.co] at p ⊢
        refine pcalls_text C_ok Try.func100 rfl (by decide) (Nat.le_of_ble_eq_true rfl) (by decide) (tup_bel _ _) fun ok H => ?_
        rw [Try.results100]
        have h := True.intro
        repeat' (first
         | (with_reducible first | apply bA | apply bB | apply bC | apply bD | apply bE | apply bF) <;> intro h
         | ((first | refine goCall_norm ?_ | refine goDCall_norm ?_); simp only [AV.norm, AV.normL, W2, W2C, Go.Ab.W3, Int.reduceAdd, Int.reduceLT, Int.reduceToNat, Int.reduceBEq, Int.reduceBNe, Int.reduceLE]; first | refine goCall_p (p) (.inl rfl) ?_ | refine goCall_p (around_ok _ _) (.inl rfl) ?_ | refine goDCall_p (p) (.inl rfl) ?_ | refine goDCall_p (around_ok _ _) (.inl rfl) ?_)
         | refine go_draw (id := 7) C_ok (fun _ => trivial) mixed 1 Try.f100.ntmps rfl (by kernel_rfl) (by decide) ?_
         | refine go_draw (id := 14) C_ok (fun _ => trivial) mixed 0 Try.f100.ntmps rfl (by kernel_rfl) (by decide) ?_
         | refine go_draw (id := 18) C_ok (fun _ => trivial) mixed 1 Try.f100.ntmps rfl (by kernel_rfl) (by decide) ?_
         | refine go_drawX (id := 26) C_ok (fun _ => trivial) mixed [(116, 12), (119, 12)] 2 Try.f100.ntmps rfl (by kernel_rfl) (by decide) ?_
         | refine goRound ?_ C_ok Try.f100.ntmps rfl (by decide)
         | skip) <;> simp only [h, ↓upd_eq, ↓envL_cons, WZ, reduceIte, reduceEqDiff, reduceAdd, reduceLT, reduceLeDiff, reduceCtorEq, reduceMul, reducePow, W1, W1C, Go.Ab.W3, Int.reduceAdd, Int.reduceLT, Int.reduceToNat, Int.reduceBEq, Int.reduceBNe, Int.reduceLE, cutNormal_normal]
      · rw [joinK_form_inj hcf] at hj
        obtain ⟨j', h1, rfl⟩ := map_some' hj
        rw [q j' h1]; rfl
    | fn x' y' =>
      refine none_ (joinK_forms hcf rfl (by simp [K.form])) ?_
      simp only [K.co]
      refine pcalls_text C_ok Try.func100 rfl (by decide) (Nat.le_of_ble_eq_true rfl) (by decide) (tup_bel _ _) fun ok H => ?_
      rw [Try.results100]
      have h := True.intro
      repeat' (first
       | (with_reducible first | apply bA | apply bB | apply bC | apply bD | apply bE | apply bF) <;> intro h
       | refine go_draw (id := 7) C_ok (fun _ => trivial) mixed 1 Try.f100.ntmps rfl (by kernel_rfl) (by decide) ?_
       | refine go_draw (id := 14) C_ok (fun _ => trivial) mixed 0 Try.f100.ntmps rfl (by kernel_rfl) (by decide) ?_
       | refine go_draw (id := 18) C_ok (fun _ => trivial) mixed 1 Try.f100.ntmps rfl (by kernel_rfl) (by decide) ?_
       | refine go_drawX (id := 26) C_ok (fun _ => trivial) mixed [(116, 12), (119, 12)] 2 Try.f100.ntmps rfl (by kernel_rfl) (by decide) ?_
       | refine goRound ?_ C_ok Try.f100.ntmps rfl (by decide)
       | skip) <;> simp only [h, ↓upd_eq, ↓envL_cons, WZ, reduceIte, reduceEqDiff, reduceAdd, reduceLT, reduceLeDiff, reduceCtorEq, reduceMul, reducePow, W1, W1C, Go.Ab.W3, Int.reduceAdd, Int.reduceLT, Int.reduceToNat, Int.reduceBEq, Int.reduceBNe, Int.reduceLE, cutNormal_normal]
    | pair x' y' =>
      refine none_ (joinK_forms hcf rfl (by simp [K.form])) ?_
      simp only [K.co]
      refine pcalls_text C_ok Try.func100 rfl (by decide) (Nat.le_of_ble_eq_true rfl) (by decide) (tup_bel _ _) fun ok H => ?_
      rw [Try.results100]
      have h := True.intro
      repeat' (first
       | (with_reducible first | apply bA | apply bB | apply bC | apply bD | apply bE | apply bF) <;> intro h
       | refine go_draw (id := 7) C_ok (fun _ => trivial) mixed 1 Try.f100.ntmps rfl (by kernel_rfl) (by decide) ?_
       | refine go_draw (id := 14) C_ok (fun _ => trivial) mixed 0 Try.f100.ntmps rfl (by kernel_rfl) (by decide) ?_
       | refine go_draw (id := 18) C_ok (fun _ => trivial) mixed 1 Try.f100.ntmps rfl (by kernel_rfl) (by decide) ?_
       | refine go_drawX (id := 26) C_ok (fun _ => trivial) mixed [(116, 12), (119, 12)] 2 Try.f100.ntmps rfl (by kernel_rfl) (by decide) ?_
       | refine goRound ?_ C_ok Try.f100.ntmps rfl (by decide)
       | skip) <;> simp only [h, ↓upd_eq, ↓envL_cons, WZ, reduceIte, reduceEqDiff, reduceAdd, reduceLT, reduceLeDiff, reduceCtorEq, reduceMul, reducePow, W1, W1C, Go.Ab.W3, Int.reduceAdd, Int.reduceLT, Int.reduceToNat, Int.reduceBEq, Int.reduceBNe, Int.reduceLE, cutNormal_normal]
    | list x' => exact rjoin_list _ _ (ih x x' (by simp only [K.size]; omega))

theorem rjoin_ok : ∀ (n : Nat) (c d : K), c.size + d.size ≤ n → JoinOK 100 c d := by
  intro n
  induction n with
  | zero => intro c d h; have := c.size_pos; omega
  | succ n ih => intro c d h; exact rjoin_step c d fun x y hxy => ih x y (by omega)
def resB (r : Option K) : AV := match r with
  | some j => .tup [embC j.co, .bool true]
  | none => .tup [embC coNone, .bool false]
theorem rJoin_ok (c d : K) : PCalls Try.prog 79 [embC c.co, embC d.co] (resB (joinR c d)) := by
  obtain ⟨x, p, q⟩ := rjoin_ok _ c d (Nat.le_refl _)
  cases e : joinK c d with
  | none =>
    have e' : joinR c d = none := by rw [joinR, e]; rfl
    rw [e] at p
    rw [e']
    simp only [Option.isSome_none] at p
    show PCalls Try.prog 79 _ (.tup [embC (.mk 0 0 0 false []), .bool false])
    refine pcalls_text C_ok Try.func79 rfl (by decide) (Nat.le_of_ble_eq_true rfl) (by decide) (tup_bel _ _) fun ok H => ?_
    rw [Try.results79]
    have h := True.intro
    repeat' (first
     | (with_reducible first | apply bA | apply bB | apply bC | apply bD | apply bE | apply bF) <;> intro h
     | ((first | refine goCall_norm ?_ | refine goDCall_norm ?_); simp only [AV.norm, AV.normL, W2, W2C, Go.Ab.W3, Int.reduceAdd, Int.reduceLT, Int.reduceToNat, Int.reduceBEq, Int.reduceBNe, Int.reduceLE]; first | refine goCall_p (p) (.inl rfl) ?_ | refine goDCall_p (p) (.inl rfl) ?_)
     | refine goRound ?_ C_ok Try.f79.ntmps rfl (by decide)
     | skip) <;> simp only [h, ↓upd_eq, ↓envL_cons, WZ, reduceIte, reduceEqDiff, reduceAdd, reduceLT, reduceLeDiff, reduceCtorEq, reduceMul, reducePow, W1, W1C, Go.Ab.W3, Int.reduceAdd, Int.reduceLT, Int.reduceToNat, Int.reduceBEq, Int.reduceBNe, Int.reduceLE, cutNormal_normal]
  | some j =>
    rw [e] at p
    simp only [Option.isSome_some] at p
    obtain rfl := q j e
    cases hj : j.ok with
    | true =>
      have e' : joinR c d = some j := joinR_some.2 ⟨e, hj⟩
      have rj : rightC j.co = true := by rw [K.right_co]; exact hj
      rw [e']
      show PCalls Try.prog 79 _ (.tup [embC j.co, .bool true])
      refine pcalls_text C_ok Try.func79 rfl (by decide) (Nat.le_of_ble_eq_true rfl) (by decide) (tup_bel _ _) fun ok H => ?_
      rw [Try.results79]
      have h := True.intro
      repeat' (first
       | (with_reducible first | apply bA | apply bB | apply bC | apply bD | apply bE | apply bF) <;> intro h
       | ((first | refine goCall_norm ?_ | refine goDCall_norm ?_); simp only [AV.norm, AV.normL, W2, W2C, Go.Ab.W3, Int.reduceAdd, Int.reduceLT, Int.reduceToNat, Int.reduceBEq, Int.reduceBNe, Int.reduceLE, rj]; first | refine goCall_p (rrightC_ok _) (.inl rfl) ?_ | refine goCall_p (p) (.inl rfl) ?_ | refine goDCall_p (rrightC_ok _) (.inl rfl) ?_ | refine goDCall_p (p) (.inl rfl) ?_)
       | refine goRound ?_ C_ok Try.f79.ntmps rfl (by decide)
       | skip) <;> simp only [h, ↓upd_eq, ↓envL_cons, WZ, reduceIte, reduceEqDiff, reduceAdd, reduceLT, reduceLeDiff, reduceCtorEq, reduceMul, reducePow, W1, W1C, Go.Ab.W3, Int.reduceAdd, Int.reduceLT, Int.reduceToNat, Int.reduceBEq, Int.reduceBNe, Int.reduceLE, rj, cutNormal_normal]
    | false =>
      have e' : joinR c d = none := by rw [joinR, e]; simp [hj]
      have rj : rightC j.co = false := by rw [K.right_co]; exact hj
      rw [e']
      show PCalls Try.prog 79 _ (.tup [embC (.mk 0 0 0 false []), .bool false])
      refine pcalls_text C_ok Try.func79 rfl (by decide) (Nat.le_of_ble_eq_true rfl) (by decide) (tup_bel _ _) fun ok H => ?_
      rw [Try.results79]
      have h := True.intro
      repeat' (first
       | (with_reducible first | apply bA | apply bB | apply bC | apply bD | apply bE | apply bF) <;> intro h
       | ((first | refine goCall_norm ?_ | refine goDCall_norm ?_); simp only [AV.norm, AV.normL, W2, W2C, Go.Ab.W3, Int.reduceAdd, Int.reduceLT, Int.reduceToNat, Int.reduceBEq, Int.reduceBNe, Int.reduceLE, rj]; first | refine goCall_p (rrightC_ok _) (.inl rfl) ?_ | refine goCall_p (p) (.inl rfl) ?_ | refine goDCall_p (rrightC_ok _) (.inl rfl) ?_ | refine goDCall_p (p) (.inl rfl) ?_)
       | refine goRound ?_ C_ok Try.f79.ntmps rfl (by decide)
       | skip) <;> simp only [h, ↓upd_eq, ↓envL_cons, WZ, reduceIte, reduceEqDiff, reduceAdd, reduceLT, reduceLeDiff, reduceCtorEq, reduceMul, reducePow, W1, W1C, Go.Ab.W3, Int.reduceAdd, Int.reduceLT, Int.reduceToNat, Int.reduceBEq, Int.reduceBNe, Int.reduceLE, rj, cutNormal_normal]

end Go.Proofs.Ytofogicgnldfhaa
end

