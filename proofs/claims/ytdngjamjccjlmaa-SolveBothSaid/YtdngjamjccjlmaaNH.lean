/- What solving gives, put into plain words. No condition. -/
import Derived.Test.YtdngjamjccjlmaaPBd
import Derived.Test.YtdngjamjccjlmaaPEb
set_option linter.unusedSimpArgs false
set_option linter.unusedVariables false
namespace Go.Proofs.Ytdngjamjccjlmaa
open Go Go.Ab

theorem ok_of_has : ∀ a : T, (∀ z, a.has z = true → 0 ≤ z ∧ z ≤ 1048576) → a.ok = true := by
  intro a
  induction a with
  | var n => intro h; have := h n (by simp [T.has]); simp [T.ok, this.1, this.2]
  | pair a b ih1 ih2 => intro h; simp only [T.ok, Bool.and_eq_true]; exact ⟨ih1 fun z hz => h z (by simp [T.has, hz]), ih2 fun z hz => h z (by simp [T.has, hz])⟩
  | fn a b ih1 ih2 => intro h; simp only [T.ok, Bool.and_eq_true]; exact ⟨ih1 fun z hz => h z (by simp [T.has, hz]), ih2 fun z hz => h z (by simp [T.has, hz])⟩
  | list a ih1 => intro h; exact ih1 fun z hz => h z (by simp [T.has, hz])
  | _ => intro _; rfl
theorem Wf.tT_ok {S : St} (hw : Wf S) (hl : S.length ≤ 1000000) {n : Nat} (hn : n < S.length) : (S.tT n).ok = true :=
  ok_of_has _ fun z hz => by
    obtain ⟨m, rfl, h1, _⟩ := hw.has_nat n hn z hz
    omega
theorem rowOf_has {k : Int} : ∀ {l : List (T × T)} {p : T × T}, p ∈ l → p.1.has k = true ∨ p.2.has k = true → (rowOf l).has k = true
  | q :: l, p, hp, h => by
    rcases List.mem_cons.1 hp with rfl | hp
    · simp only [rowOf, T.has, Bool.or_eq_true]; exact .inl h
    · simp only [rowOf, T.has, Bool.or_eq_true]; exact .inr (rowOf_has hp h)
theorem stat_same : ∀ a : T, a.stat = a.static := by
  intro a; induction a <;> simp_all [T.stat, T.static]
end Go.Proofs.Ytdngjamjccjlmaa
