/- Lemmas: the functions that the laws of coercions share. No condition. -/
import Derived.Test.YtofogicgnldfhaaPVa
import Derived.Test.YtofogicgnldfhaaPFa
import Derived.Test.YtofogicgnldfhaaPMa
import Derived.Test.YtofogicgnldfhaaPGb
import Derived.Test.YtofogicgnldfhaaTO
import Derived.Test.YtofogicgnldfhaaPGc

section
/- The guard of the laws of layers 11 and up. No condition. -/
set_option linter.unusedSimpArgs false
set_option linter.unusedVariables false
set_option maxHeartbeats 4000000
set_option maxRecDepth 100000
namespace Go.Proofs.Ytofogicgnldfhaa
open Go Go.Ab
open Nat (reduceEqDiff reduceAdd reduceLT reduceLeDiff reduceMul reducePow)
attribute [local irreducible] PCalls ACalls CallK GoCall GoDCall GoIf GoGb GoDGb GoO GoD GoX GoDX GoG GoDG GoGv GoDGv Go ALoop

def deepT : Nat → Ty → Bool
  | 0, _ => true
  | n + 1, t => !allN t.kids.length fun i => !deepT n (t.kid i)
def small1 (t : Ty) : Bool := !(heavy [t] || deepT 60 t || decide (8 < (varsT t).length))
def small (l : List Ty) : Bool := allN l.length fun i => small1 (l.getD i default)
end Go.Proofs.Ytofogicgnldfhaa
end

section
/- What is done of any coercions and types, right or not. No condition. -/
set_option linter.unusedSimpArgs false
set_option linter.unusedVariables false
set_option maxHeartbeats 4000000
set_option maxRecDepth 100000
namespace Go.Proofs.Ytofogicgnldfhaa
open Go Go.Ab

open Classical in
noncomputable def kOf (c : Co) : K := if h : ∃ k : K, c = k.co then h.choose else .id
open Classical in
theorem kOf_co (k : K) : kOf k.co = k := by
  have h : ∃ k' : K, k.co = k'.co := ⟨k, rfl⟩
  unfold kOf; rw [dif_pos h]; exact (K.co_inj h.choose_spec).symm
theorem K.of_right' {c : Co} (h : rightC c = true) : ∃ k : K, c = k.co ∧ k.ok = true := by
  obtain ⟨k, rfl⟩ := K.of_right c h
  exact ⟨k, rfl, by rw [← K.right_co]; exact h⟩
noncomputable def fitsC (c : Co) (a b : Ty) : Bool := rightC c && right a && right b && fitsK (kOf c) (tOf a) (tOf b)
/-- Casts. -/
def castE (a b : Ty) (l : Int) : Int := if (right a && right b && labelOK l) = true then if agree a b = true then 0 else 4 else 1
noncomputable def castC (a b : Ty) (l : Int) (n : Bool) : Co := if castE a b l = 0 then (castT l (tOf a) (tOf b) n).co else coNone
/-- Joints. -/
noncomputable def joinO (c d : Co) : Option K := if (rightC c && rightC d) = true then joinR (kOf c) (kOf d) else none
noncomputable def joinE (c d : Co) : Int := if (rightC c && rightC d) = true then (if (joinO c d).isSome = true then 0 else 8) else 1
noncomputable def joinC (c d : Co) : Co := match joinO c d with | some j => j.co | none => coNone
theorem joinO_co {c d : K} (hc : c.ok = true) (hd : d.ok = true) : joinO c.co d.co = joinR c d := by
  simp only [joinO, kOf_co, K.right_co, hc, hd, Bool.and_self, if_true]
theorem cJoinC_ok (c d : Co) : PCalls Try.prog 29 [embC c, embC d] (.tup [embC (joinC c d), .int .i64 (joinE c d)]) := by
  cases h : (rightC c && rightC d) with
  | false =>
    have e : joinO c d = none := by rw [joinO, h]; rfl
    rw [joinC, joinE, h, e]
    exact cJoin_bad c d (by rwa [Bool.and_eq_false_iff] at h)
  | true =>
    simp only [Bool.and_eq_true] at h
    obtain ⟨k, rfl, hk⟩ := K.of_right' h.1
    obtain ⟨m, rfl, hm⟩ := K.of_right' h.2
    have c := cJoin_ok k m hk hm
    rw [joinC, joinE, joinO_co hk hm, h.1, h.2]
    cases e : joinR k m with
    | none => rw [e] at c; exact c
    | some j => rw [e] at c; exact c
theorem rJoinC_ok (c d : Co) (hc : rightC c = true) (hd : rightC d = true) : PCalls Try.prog 79 [embC c, embC d] (.tup [embC (joinC c d), .bool (joinE c d == 0)]) := by
  obtain ⟨k, rfl, hk⟩ := K.of_right' hc
  obtain ⟨m, rfl, hm⟩ := K.of_right' hd
  have c := rJoin_ok k m
  rw [joinC, joinE, joinO_co hk hm, hc, hd]
  cases e : joinR k m with
  | none => rw [e] at c; exact c
  | some j => rw [e] at c; exact c

def injC (h : Int) : Co := .mk 5 h 0 false [.mk 1 0 0 false []]
def projC (h l : Int) : Co := .mk 6 h l false [.mk 1 0 0 false []]
end Go.Proofs.Ytofogicgnldfhaa
end

