/- Lemmas: a store in plain Lean, second part. No condition. -/
import Derived.Test.YtpkdbhlpndibkaaPCa
import Derived.Test.YtpkdbhlpndibkaaPVa

section
/- Substitution, matching, numbering anew: plain laws over trees. No condition. -/
set_option linter.unusedSimpArgs false
set_option linter.unusedVariables false
namespace Go.Proofs.Ytpkdbhlpndibkaa
open Go Go.Ab

/-- Binds of trees, and what they put for a variable. -/
abbrev BT := Int × T
def lookT : List BT → Int → Option T
  | [], _ => none
  | p :: l, n => if p.1 = n then some p.2 else lookT l n
def sigT (l : List BT) (n : Int) : T := (lookT l n).getD (.var n)
theorem lookT_app (l m : List BT) (n : Int) : lookT (l ++ m) n = (lookT l n).or (lookT m n) := by
  induction l with
  | nil => simp [lookT]
  | cons p l ih => simp only [List.cons_append, lookT]; split <;> simp [ih]
theorem lookT_mem {l : List BT} {n : Int} {t : T} (h : lookT l n = some t) : (n, t) ∈ l := by
  induction l with
  | nil => cases h
  | cons p l ih =>
    rw [lookT] at h
    split at h
    · rename_i e; cases h; subst e; exact List.mem_cons_self
    · exact List.mem_cons_of_mem _ (ih h)

/-! Twice. -/
theorem put_twice {l m : List BT} (hl : ∀ p ∈ l, p.2.closed = true) : ∀ t : T, putS (sigT m) (putS (sigT l) t) = putS (sigT (l ++ m)) t := by
  intro t
  induction t with
  | var n =>
    simp only [putS, sigT, lookT_app]
    cases e : lookT l n with
    | none => simp [putS, sigT]
    | some v => simp only [Option.getD_some, Option.some_or]; exact putS_closed (hl _ (lookT_mem e))
  | pair a b ih1 ih2 => simp only [putS, ih1, ih2]
  | fn a b ih1 ih2 => simp only [putS, ih1, ih2]
  | list a ih1 => simp only [putS, ih1]
  | _ => rfl
theorem put_none : ∀ t : T, putS (sigT []) t = t := by
  intro t
  induction t <;> simp_all [putS, sigT, lookT]

/-! Variables of a tree. -/
def T.varsF : T → List Int → List Int
  | .var n, out => if n ∉ out then out ++ [n] else out
  | .pair a b, out => b.varsF (a.varsF out)
  | .fn a b, out => b.varsF (a.varsF out)
  | .list a, out => a.varsF out
  | _, out => out
theorem T.varsF_ty : ∀ (a : T) (out : List Int), Go.Proofs.Ytpkdbhlpndibkaa.varsF a.ty out = a.varsF out := by
  intro a
  induction a with
  | base k => intro out; have := base_ne k; simp only [T.ty, Go.Proofs.Ytpkdbhlpndibkaa.varsF, varsL, T.varsF, this.2.1, false_and, if_false]
  | dyn => intro out; simp [T.ty, Go.Proofs.Ytpkdbhlpndibkaa.varsF, varsL, T.varsF]
  | var n => intro out; simp [T.ty, Go.Proofs.Ytpkdbhlpndibkaa.varsF, varsL, T.varsF]
  | pair a b ih1 ih2 => intro out; simp [T.ty, Go.Proofs.Ytpkdbhlpndibkaa.varsF, varsL, T.varsF, ih1, ih2]
  | fn a b ih1 ih2 => intro out; simp [T.ty, Go.Proofs.Ytpkdbhlpndibkaa.varsF, varsL, T.varsF, ih1, ih2]
  | list a ih1 => intro out; simp [T.ty, Go.Proofs.Ytpkdbhlpndibkaa.varsF, varsL, T.varsF, ih1]
/-- Is a variable in a tree? -/
def T.has (n : Int) : T → Bool
  | .var m => decide (m = n)
  | .pair a b => a.has n || b.has n
  | .fn a b => a.has n || b.has n
  | .list a => a.has n
  | _ => false
theorem mem_varsF : ∀ (a : T) (out : List Int) (n : Int), n ∈ a.varsF out ↔ n ∈ out ∨ a.has n = true := by
  intro a
  induction a with
  | var m =>
    intro out n
    simp only [T.varsF, T.has, decide_eq_true_eq]
    by_cases h : m ∈ out
    · simp only [h, not_true_eq_false, if_false]
      exact ⟨.inl, fun h' => h'.elim id fun e => e ▸ h⟩
    · simp only [h, not_false_eq_true, if_true, List.mem_append, List.mem_singleton]
      exact ⟨fun h' => h'.imp id Eq.symm, fun h' => h'.imp id Eq.symm⟩
  | pair a b ih1 ih2 => intro out n; simp only [T.varsF, T.has, ih2, ih1, Bool.or_eq_true, or_assoc]
  | fn a b ih1 ih2 => intro out n; simp only [T.varsF, T.has, ih2, ih1, Bool.or_eq_true, or_assoc]
  | list a ih1 => intro out n; simp only [T.varsF, T.has, ih1]
  | _ => intro out n; simp [T.varsF, T.has]
theorem put_congr {σ τ : Int → T} : ∀ a : T, (∀ n, a.has n = true → σ n = τ n) → putS σ a = putS τ a := by
  intro a
  induction a with
  | var n => intro h; exact h n (by simp [T.has])
  | pair a b ih1 ih2 => intro h; simp only [putS]; rw [ih1 fun n hn => h n (by simp [T.has, hn]), ih2 fun n hn => h n (by simp [T.has, hn])]
  | fn a b ih1 ih2 => intro h; simp only [putS]; rw [ih1 fun n hn => h n (by simp [T.has, hn]), ih2 fun n hn => h n (by simp [T.has, hn])]
  | list a ih1 => intro h; simp only [putS]; rw [ih1 fun n hn => h n (by simp [T.has, hn])]
  | _ => intro _; rfl
/-! Matching. -/
def T.stat : T → Bool
  | .dyn => false
  | .pair a b => a.stat && b.stat
  | .fn a b => a.stat && b.stat
  | .list a => a.stat
  | _ => true
def matchT : T → T → List BT → Option (List BT)
  | .var n, u, l => match lookT l n with
    | some v => if v = u then some l else none
    | none => if u.stat = true then some (l ++ [(n, u)]) else none
  | .pair a b, .pair c d, l => (matchT a c l).bind (matchT b d)
  | .fn a b, .fn c d, l => (matchT a c l).bind (matchT b d)
  | .list a, .list c, l => matchT a c l
  | .dyn, .dyn, l => some l
  | .base k, .base k', l => if k = k' then some l else none
  | _, _, _ => none
def bindsOf (σ : Int → T) (L : List Int) : List BT := L.map fun n => (n, σ n)
end Go.Proofs.Ytpkdbhlpndibkaa
end

section
/- Numbering anew: plain laws over trees. No condition. -/
set_option linter.unusedSimpArgs false
set_option linter.unusedVariables false
namespace Go.Proofs.Ytpkdbhlpndibkaa
open Go Go.Ab

def idxI (vs : List Int) (n : Int) : Int := ((vs.idxOf n : Nat) : Int)
def canonT (a : T) : T := putS (fun n => .var (idxI (a.varsF []) n)) a
theorem mem_vars0 {a : T} {n : Int} : n ∈ a.varsF [] ↔ a.has n = true := by rw [mem_varsF]; simp
end Go.Proofs.Ytpkdbhlpndibkaa
end

