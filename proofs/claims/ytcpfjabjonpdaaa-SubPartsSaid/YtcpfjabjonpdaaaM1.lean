/- Types: the plain functions. No condition. -/
import Derived.Test.YtcpfjabjonpdaaaEmb
namespace Go.Proofs.Ytcpfjabjonpdaaa
open Go Go.Ab

theorem Ty.ind {p : Ty → Prop} (h : ∀ t, (∀ x ∈ t.kids, p x) → p t) : ∀ t, p t := by
  intro t
  have key : ∀ (n : Nat) (t : Ty), SizeOf.sizeOf t ≤ n → p t := by
    intro n
    induction n with
    | zero => intro t hs; cases t; simp at hs
    | succ n ih =>
      rintro ⟨k, m, l⟩ hs
      refine h _ fun x hx => ih x ?_
      have := List.sizeOf_lt_of_mem (show x ∈ l from hx)
      simp only [Ty.mk.sizeOf_spec] at hs; omega
  exact key _ t (Nat.le_refl _)

def Ty.kid (t : Ty) (i : Nat) : Ty := t.kids.getD i default

def allN (n : Nat) (g : Nat → Bool) : Bool := (List.range n).all g
theorem allN_false {n i : Nat} {g : Nat → Bool} (h : i < n) (hg : g i = false) : allN n g = false := by
  cases h0 : allN n g with
  | false => rfl
  | true => simp only [allN, List.all_eq_true, List.mem_range] at h0; rw [h0 i h] at hg; cases hg
theorem allN_true {n : Nat} {g : Nat → Bool} (h : ∀ i, i < n → g i = true) : allN n g = true := by
  simp only [allN, List.all_eq_true, List.mem_range]; exact h
theorem allN_iff {n : Nat} {g : Nat → Bool} : allN n g = true ↔ ∀ i, i < n → g i = true := by
  simp only [allN, List.all_eq_true, List.mem_range]
theorem allN_zero (g : Nat → Bool) : allN 0 g = true := rfl
theorem allN_succ (n : Nat) (g : Nat → Bool) : allN (n + 1) g = (g 0 && allN n fun i => g (i + 1)) := by
  rw [Bool.eq_iff_iff, Bool.and_eq_true, allN_iff, allN_iff]
  constructor
  · intro h; exact ⟨h 0 (by omega), fun i hi => h (i + 1) (by omega)⟩
  · rintro ⟨h0, h1⟩ i hi
    cases i with
    | zero => exact h0
    | succ i => exact h1 i (by omega)

def arity (k : Int) : Int :=
  if k = 1 ∨ k = 2 ∨ k = 3 ∨ k = 4 ∨ k = 5 ∨ k = 6 then 0 else if k = 8 then 1 else if k = 7 ∨ k = 9 then 2 else -1

/-- Its own node is right. -/
def okN (t : Ty) : Bool := decide ((t.kids.length : Int) = arity t.kind) && (if t.kind = 6 then decide (0 ≤ t.num) && decide (t.num ≤ 1048576) else decide (t.num = 0))

mutual
def right : Ty → Bool
  | .mk k n l => okN (.mk k n l) && rightL l
def rightL : List Ty → Bool
  | [] => true
  | t :: l => right t && rightL l
end
theorem rightL_all : ∀ l, rightL l = allN l.length fun i => right (l.getD i default)
  | [] => rfl
  | t :: l => by rw [rightL, List.length_cons, allN_succ, rightL_all l]; rfl
theorem right_eq (t : Ty) : right t = (okN t && allN t.kids.length fun i => right (t.kid i)) := by
  cases t with | mk k n l => rw [right, rightL_all]; rfl

mutual
def same : Ty → Ty → Bool
  | .mk k n l, .mk k' n' l' => decide (k = k') && decide (n = n') && sameL l l'
def sameL : List Ty → List Ty → Bool
  | [], [] => true
  | a :: l, b :: l' => same a b && sameL l l'
  | _, _ => false
end
theorem sameL_all : ∀ l l', sameL l l' = (decide (l.length = l'.length) && allN l.length fun i => same (l.getD i default) (l'.getD i default))
  | [], [] => rfl
  | [], _ :: _ => rfl
  | _ :: _, [] => rfl
  | a :: l, b :: l' => by
    rw [sameL, List.length_cons, List.length_cons, allN_succ, sameL_all l l']
    simp [Bool.and_left_comm]
theorem same_eq (a b : Ty) : same a b = (decide (a.kind = b.kind) && decide (a.num = b.num) && decide (a.kids.length = b.kids.length) && allN a.kids.length fun i => same (a.kid i) (b.kid i)) := by
  cases a with | mk k n l => cases b with | mk k' n' l' => rw [same, sameL_all]; simp only [Ty.kind, Ty.num, Ty.kids, Ty.kid, Bool.and_assoc]; rfl

end Go.Proofs.Ytcpfjabjonpdaaa
