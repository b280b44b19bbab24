/- Variables of types that were made in a store, and levels. No condition. -/
import Derived.Test.YtdngjamjccjlmaaPSb
set_option linter.unusedSimpArgs false
set_option linter.unusedVariables false
namespace Go.Proofs.Ytdngjamjccjlmaa
open Go Go.Ab

theorem has_ren {ρ : Int → Int} : ∀ (a : T) (z : Int), (putS (fun k => .var (ρ k)) a).has z = true ↔ ∃ k, a.has k = true ∧ ρ k = z := by
  intro a
  induction a with
  | base k => intro z; simp [putS, T.has]
  | dyn => intro z; simp [putS, T.has]
  | var n => intro z; simp [putS, T.has]
  | pair a b ih1 ih2 => intro z; simp only [putS, T.has, Bool.or_eq_true, ih1, ih2, or_and_right, exists_or]
  | fn a b ih1 ih2 => intro z; simp only [putS, T.has, Bool.or_eq_true, ih1, ih2, or_and_right, exists_or]
  | list a ih1 => intro z; simp only [putS, T.has, ih1]
theorem vars_has {S : St} (h : Wf S) (hS : S.length ≤ 1048577) {n : Nat} (hn : n < S.length) {x : T} (hx : S.tree n = x.ty) (z : Nat) : z ∈ S.vars n ↔ x.has z = true := by
  obtain ⟨y, e, _, hy⟩ := h.tree_T hS n hn
  have exy : x = y := by rw [hx] at e; exact T.ty_inj e
  subst exy
  rw [h.mem_vars hn, hy]
theorem mget_key : ∀ (Z : List (Int × Int)) (k : Int), (mget Z k).isSome = true ↔ k ∈ Z.map Prod.fst := by
  intro Z k
  induction Z with
  | nil => simp [mget]
  | cons p Z ih =>
    obtain ⟨j, w⟩ := p
    simp only [mget, List.map_cons, List.mem_cons]
    by_cases e : j = k
    · simp [e]
    · rw [if_neg e, ih]
      constructor
      · exact .inr
      · rintro (h | h)
        · exact absurd h.symm e
        · exact h
theorem mput_new : ∀ (Z : List (Int × Int)) (k v : Int), mget Z k = none → mput Z k v = Z ++ [(k, v)] := by
  intro Z k v
  induction Z with
  | nil => intro _; rfl
  | cons p Z ih =>
    obtain ⟨j, w⟩ := p
    intro h
    simp only [mget] at h
    by_cases e : j = k
    · simp [e] at h
    · rw [if_neg e] at h
      simp only [mput, if_neg e, ih h]; rfl
theorem madeN_keys (lvl : Int) : ∀ (t : T) (S : St) (Z : List (Int × Int)), (madeN lvl t S Z).2.1.map Prod.fst = t.varsF (Z.map Prod.fst) := by
  intro t
  induction t with
  | base k => intro S Z; rfl
  | dyn => intro S Z; rfl
  | var k =>
    intro S Z
    have hk := mget_key Z k
    cases e : mget Z k with
    | some n =>
      rw [e] at hk
      have : k ∈ Z.map Prod.fst := hk.1 rfl
      simp only [madeN, e, T.varsF]
      rw [if_neg (by simpa using this)]
    | none =>
      rw [e] at hk
      have : k ∉ Z.map Prod.fst := fun h => by have := hk.2 h; cases this
      simp only [madeN, e, T.varsF, mput_new Z k _ e]
      rw [if_pos this]; simp
  | pair a b ih1 ih2 => intro S Z; simp only [madeN, T.varsF, ih1, ih2]
  | fn a b ih1 ih2 => intro S Z; simp only [madeN, T.varsF, ih1, ih2]
  | list a ih1 => intro S Z; simp only [madeN, T.varsF, ih1]
theorem madeN_le (lvl : Int) : ∀ (t : T) (S : St) (Z : List (Int × Int)), S.length ≤ (madeN lvl t S Z).1.length := by
  intro t
  induction t with
  | base k => intro S Z; exact Nat.le_refl _
  | dyn => intro S Z; exact Nat.le_refl _
  | var k => intro S Z; simp only [madeN]; split <;> simp
  | pair a b ih1 ih2 => intro S Z; have h1 := ih1 S Z; have h2 := ih2 (madeN lvl a S Z).1 (madeN lvl a S Z).2.1; simp only [madeN, List.length_append, List.length_cons, List.length_nil]; omega
  | fn a b ih1 ih2 => intro S Z; have h1 := ih1 S Z; have h2 := ih2 (madeN lvl a S Z).1 (madeN lvl a S Z).2.1; simp only [madeN, List.length_append, List.length_cons, List.length_nil]; omega
  | list a ih1 => intro S Z; have h1 := ih1 S Z; simp only [madeN, List.length_append, List.length_cons, List.length_nil]; omega
theorem madeN_new (lvl : Int) : ∀ (t : T) (S : St) (Z : List (Int × Int)) (k v : Int), mget (madeN lvl t S Z).2.1 k = some v → mget Z k = some v ∨ (S.length : Int) ≤ v := by
  intro t
  induction t with
  | base k => intro S Z k v h; exact .inl h
  | dyn => intro S Z k v h; exact .inl h
  | var j =>
    intro S Z k v h
    simp only [madeN] at h
    split at h
    · exact .inl h
    · rw [mget_put] at h
      split at h
      · cases h; exact .inr (Int.le_refl _)
      · exact .inl h
  | pair a b ih1 ih2 =>
    intro S Z k v h
    have h0 := madeN_le lvl a S Z
    rcases ih2 _ _ k v h with h1 | h1
    · exact ih1 _ _ k v h1
    · exact .inr (by omega)
  | fn a b ih1 ih2 =>
    intro S Z k v h
    have h0 := madeN_le lvl a S Z
    rcases ih2 _ _ k v h with h1 | h1
    · exact ih1 _ _ k v h1
    · exact .inr (by omega)
  | list a ih1 => intro S Z k v h; exact ih1 _ _ k v h
end Go.Proofs.Ytdngjamjccjlmaa
