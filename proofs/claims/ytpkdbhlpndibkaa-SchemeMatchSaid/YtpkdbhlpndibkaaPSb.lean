/- Lemmas: a store in plain Lean, second part. No condition. -/
import Derived.Test.YtpkdbhlpndibkaaPCa
import Derived.Test.YtpkdbhlpndibkaaPVa

section
/- Substitution, matching, numbering anew: plain laws over trees. No condition. -/
set_option linter.unusedSimpArgs false
set_option linter.unusedVariables false
namespace Go.Proofs.Ytpkdbhlpndibkaa
open Go Go.Ab

/-- Binds of trees, and what they put for a variable. -/
abbrev BT := Int × T
def lookT : List BT → Int → Option T
  | [], _ => none
  | p :: l, n => if p.1 = n then some p.2 else lookT l n
def sigT (l : List BT) (n : Int) : T := (lookT l n).getD (.var n)
theorem lookT_app (l m : List BT) (n : Int) : lookT (l ++ m) n = (lookT l n).or (lookT m n) := by
  induction l with
  | nil => simp [lookT]
  | cons p l ih => simp only [List.cons_append, lookT]; split <;> simp [ih]
/-! Twice. -/
/-! Variables of a tree. -/
def T.varsF : T → List Int → List Int
  | .var n, out => if n ∉ out then out ++ [n] else out
  | .pair a b, out => b.varsF (a.varsF out)
  | .fn a b, out => b.varsF (a.varsF out)
  | .list a, out => a.varsF out
  | _, out => out
theorem T.varsF_ty : ∀ (a : T) (out : List Int), Go.Proofs.Ytpkdbhlpndibkaa.varsF a.ty out = a.varsF out := by
  intro a
  induction a with
  | base k => intro out; have := base_ne k; simp only [T.ty, Go.Proofs.Ytpkdbhlpndibkaa.varsF, varsL, T.varsF, this.2.1, false_and, if_false]
  | dyn => intro out; simp [T.ty, Go.Proofs.Ytpkdbhlpndibkaa.varsF, varsL, T.varsF]
  | var n => intro out; simp [T.ty, Go.Proofs.Ytpkdbhlpndibkaa.varsF, varsL, T.varsF]
  | pair a b ih1 ih2 => intro out; simp [T.ty, Go.Proofs.Ytpkdbhlpndibkaa.varsF, varsL, T.varsF, ih1, ih2]
  | fn a b ih1 ih2 => intro out; simp [T.ty, Go.Proofs.Ytpkdbhlpndibkaa.varsF, varsL, T.varsF, ih1, ih2]
  | list a ih1 => intro out; simp [T.ty, Go.Proofs.Ytpkdbhlpndibkaa.varsF, varsL, T.varsF, ih1]
/-- Is a variable in a tree? -/
def T.has (n : Int) : T → Bool
  | .var m => decide (m = n)
  | .pair a b => a.has n || b.has n
  | .fn a b => a.has n || b.has n
  | .list a => a.has n
  | _ => false
theorem mem_varsF : ∀ (a : T) (out : List Int) (n : Int), n ∈ a.varsF out ↔ n ∈ out ∨ a.has n = true := by
  intro a
  induction a with
  | var m =>
    intro out n
    simp only [T.varsF, T.has, decide_eq_true_eq]
    by_cases h : m ∈ out
    · simp only [h, not_true_eq_false, if_false]
      exact ⟨.inl, fun h' => h'.elim id fun e => e ▸ h⟩
    · simp only [h, not_false_eq_true, if_true, List.mem_append, List.mem_singleton]
      exact ⟨fun h' => h'.imp id Eq.symm, fun h' => h'.imp id Eq.symm⟩
  | pair a b ih1 ih2 => intro out n; simp only [T.varsF, T.has, ih2, ih1, Bool.or_eq_true, or_assoc]
  | fn a b ih1 ih2 => intro out n; simp only [T.varsF, T.has, ih2, ih1, Bool.or_eq_true, or_assoc]
  | list a ih1 => intro out n; simp only [T.varsF, T.has, ih1]
  | _ => intro out n; simp [T.varsF, T.has]
theorem nodup_varsF : ∀ (a : T) (out : List Int), out.Nodup → (a.varsF out).Nodup := by
  intro a
  induction a with
  | var m =>
    intro out h
    simp only [T.varsF]
    split
    · rename_i hm; exact List.nodup_append.2 ⟨h, by simp, by simp; rintro x hx rfl; exact hm hx⟩
    · exact h
  | pair a b ih1 ih2 => intro out h; exact ih2 _ (ih1 _ h)
  | fn a b ih1 ih2 => intro out h; exact ih2 _ (ih1 _ h)
  | list a ih1 => intro out h; exact ih1 _ h
  | _ => intro out h; exact h
theorem put_congr {σ τ : Int → T} : ∀ a : T, (∀ n, a.has n = true → σ n = τ n) → putS σ a = putS τ a := by
  intro a
  induction a with
  | var n => intro h; exact h n (by simp [T.has])
  | pair a b ih1 ih2 => intro h; simp only [putS]; rw [ih1 fun n hn => h n (by simp [T.has, hn]), ih2 fun n hn => h n (by simp [T.has, hn])]
  | fn a b ih1 ih2 => intro h; simp only [putS]; rw [ih1 fun n hn => h n (by simp [T.has, hn]), ih2 fun n hn => h n (by simp [T.has, hn])]
  | list a ih1 => intro h; simp only [putS]; rw [ih1 fun n hn => h n (by simp [T.has, hn])]
  | _ => intro _; rfl
/-! Matching. -/
def T.stat : T → Bool
  | .dyn => false
  | .pair a b => a.stat && b.stat
  | .fn a b => a.stat && b.stat
  | .list a => a.stat
  | _ => true
def matchT : T → T → List BT → Option (List BT)
  | .var n, u, l => match lookT l n with
    | some v => if v = u then some l else none
    | none => if u.stat = true then some (l ++ [(n, u)]) else none
  | .pair a b, .pair c d, l => (matchT a c l).bind (matchT b d)
  | .fn a b, .fn c d, l => (matchT a c l).bind (matchT b d)
  | .list a, .list c, l => matchT a c l
  | .dyn, .dyn, l => some l
  | .base k, .base k', l => if k = k' then some l else none
  | _, _, _ => none
def bindsOf (σ : Int → T) (L : List Int) : List BT := L.map fun n => (n, σ n)
theorem look_bindsOf (σ : Int → T) (L : List Int) (n : Int) : lookT (bindsOf σ L) n = if n ∈ L then some (σ n) else none := by
  induction L with
  | nil => rfl
  | cons m L ih =>
    simp only [bindsOf, List.map_cons, lookT]
    by_cases h : m = n
    · subst h; simp
    · simp only [h, if_false, List.mem_cons, Ne.symm h, false_or]; exact ih
theorem match_put {σ : Int → T} : ∀ (a : T) (L : List Int), (∀ n, a.has n = true → (σ n).stat = true) → matchT a (putS σ a) (bindsOf σ L) = some (bindsOf σ (a.varsF L)) := by
  intro a
  induction a with
  | var n =>
    intro L h
    simp only [putS, matchT, look_bindsOf, T.varsF]
    by_cases hn : n ∈ L
    · simp [hn]
    · simp [hn, h n (by simp [T.has]), bindsOf]
  | pair a b ih1 ih2 =>
    intro L h
    simp only [putS, matchT, T.varsF]
    rw [ih1 L fun n hn => h n (by simp [T.has, hn])]
    exact ih2 _ fun n hn => h n (by simp [T.has, hn])
  | fn a b ih1 ih2 =>
    intro L h
    simp only [putS, matchT, T.varsF]
    rw [ih1 L fun n hn => h n (by simp [T.has, hn])]
    exact ih2 _ fun n hn => h n (by simp [T.has, hn])
  | list a ih1 =>
    intro L h
    simp only [putS, matchT, T.varsF]
    exact ih1 L fun n hn => h n (by simp [T.has, hn])
  | base k => intro L _; simp [putS, matchT, T.varsF]
  | dyn => intro L _; simp [putS, matchT, T.varsF]
/-- What was found: binds that go on, static new ones, under which the first is the second. -/
theorem match_sound : ∀ (a u : T) (l l' : List BT), matchT a u l = some l' →
    ∃ m, l' = l ++ m ∧ (∀ p ∈ m, p.2.stat = true ∧ a.has p.1 = true) ∧ (∀ n, a.has n = true → (lookT l' n).isSome = true) ∧ putS (sigT l') a = u := by
  intro a
  induction a with
  | var n =>
    intro u l l' h
    rw [matchT] at h
    cases e : lookT l n with
    | some v =>
      rw [e] at h
      simp only at h
      split at h
      · rename_i hv; cases h; subst hv
        exact ⟨[], by simp, by simp, fun m hm => by simp only [T.has, decide_eq_true_eq] at hm; subst hm; rw [e]; rfl, by simp [putS, sigT, e]⟩
      · cases h
    | none =>
      rw [e] at h
      simp only at h
      split at h
      · rename_i hs; cases h
        refine ⟨[(n, u)], rfl, ?_, ?_, ?_⟩
        · intro p hp; simp only [List.mem_singleton] at hp; subst hp; exact ⟨hs, by simp [T.has]⟩
        · intro m hm; simp only [T.has, decide_eq_true_eq] at hm; subst hm; simp [lookT_app, e, lookT]
        · simp [putS, sigT, lookT_app, e, lookT]
      · cases h
  | pair a b ih1 ih2 =>
    intro u l l' h
    cases u <;> simp only [matchT, reduceCtorEq] at h
    rename_i c d
    obtain ⟨l1, h1, h2⟩ := Option.bind_eq_some_iff.1 h
    obtain ⟨m1, rfl, s1, k1, p1⟩ := ih1 _ _ _ h1
    obtain ⟨m2, rfl, s2, k2, p2⟩ := ih2 _ _ _ h2
    have go : ∀ n, a.has n = true → lookT (l ++ m1 ++ m2) n = lookT (l ++ m1) n := fun n hn => by
      rw [lookT_app]; have := k1 n hn; cases e : lookT (l ++ m1) n with
      | none => rw [e] at this; cases this
      | some v => rfl
    refine ⟨m1 ++ m2, by simp, ?_, ?_, ?_⟩
    · intro p hp
      rcases List.mem_append.1 hp with hp | hp
      · exact ⟨(s1 p hp).1, by simp [T.has, (s1 p hp).2]⟩
      · exact ⟨(s2 p hp).1, by simp [T.has, (s2 p hp).2]⟩
    · intro n hn
      simp only [T.has, Bool.or_eq_true] at hn
      rcases hn with hn | hn
      · rw [go n hn]; exact k1 n hn
      · exact k2 n hn
    · simp only [putS, p2]
      rw [put_congr (τ := sigT (l ++ m1)) a fun n hn => by simp only [sigT, go n hn], p1]
  | fn a b ih1 ih2 =>
    intro u l l' h
    cases u <;> simp only [matchT, reduceCtorEq] at h
    rename_i c d
    obtain ⟨l1, h1, h2⟩ := Option.bind_eq_some_iff.1 h
    obtain ⟨m1, rfl, s1, k1, p1⟩ := ih1 _ _ _ h1
    obtain ⟨m2, rfl, s2, k2, p2⟩ := ih2 _ _ _ h2
    have go : ∀ n, a.has n = true → lookT (l ++ m1 ++ m2) n = lookT (l ++ m1) n := fun n hn => by
      rw [lookT_app]; have := k1 n hn; cases e : lookT (l ++ m1) n with
      | none => rw [e] at this; cases this
      | some v => rfl
    refine ⟨m1 ++ m2, by simp, ?_, ?_, ?_⟩
    · intro p hp
      rcases List.mem_append.1 hp with hp | hp
      · exact ⟨(s1 p hp).1, by simp [T.has, (s1 p hp).2]⟩
      · exact ⟨(s2 p hp).1, by simp [T.has, (s2 p hp).2]⟩
    · intro n hn
      simp only [T.has, Bool.or_eq_true] at hn
      rcases hn with hn | hn
      · rw [go n hn]; exact k1 n hn
      · exact k2 n hn
    · simp only [putS, p2]
      rw [put_congr (τ := sigT (l ++ m1)) a fun n hn => by simp only [sigT, go n hn], p1]
  | list a ih1 =>
    intro u l l' h
    cases u <;> simp only [matchT, reduceCtorEq] at h
    obtain ⟨m1, rfl, s1, k1, p1⟩ := ih1 _ _ _ h
    exact ⟨m1, rfl, fun p hp => ⟨(s1 p hp).1, by simp [T.has, (s1 p hp).2]⟩, fun n hn => k1 n hn, by simp only [putS, p1]⟩
  | base k =>
    intro u l l' h
    cases u <;> simp only [matchT, reduceCtorEq] at h
    split at h
    · rename_i e; cases h; subst e; exact ⟨[], by simp, by simp, by simp [T.has], rfl⟩
    · cases h
  | dyn =>
    intro u l l' h
    cases u <;> simp only [matchT, reduceCtorEq] at h
    cases h; exact ⟨[], by simp, by simp, by simp [T.has], rfl⟩
end Go.Proofs.Ytpkdbhlpndibkaa
end

section
/- Numbering anew: plain laws over trees. No condition. -/
set_option linter.unusedSimpArgs false
set_option linter.unusedVariables false
namespace Go.Proofs.Ytpkdbhlpndibkaa
open Go Go.Ab

def idxI (vs : List Int) (n : Int) : Int := ((vs.idxOf n : Nat) : Int)
def canonT (a : T) : T := putS (fun n => .var (idxI (a.varsF []) n)) a
theorem mem_vars0 {a : T} {n : Int} : n ∈ a.varsF [] ↔ a.has n = true := by rw [mem_varsF]; simp
end Go.Proofs.Ytpkdbhlpndibkaa
end

