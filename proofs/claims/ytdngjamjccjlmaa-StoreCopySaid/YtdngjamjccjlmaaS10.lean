/- Variables of types that were made in a store, and levels. No condition. -/
import Derived.Test.YtdngjamjccjlmaaPSb
set_option linter.unusedSimpArgs false
set_option linter.unusedVariables false
namespace Go.Proofs.Ytdngjamjccjlmaa
open Go Go.Ab

theorem vars_has {S : St} (h : Wf S) (hS : S.length ≤ 1048577) {n : Nat} (hn : n < S.length) {x : T} (hx : S.tree n = x.ty) (z : Nat) : z ∈ S.vars n ↔ x.has z = true := by
  obtain ⟨y, e, _, hy⟩ := h.tree_T hS n hn
  have exy : x = y := by rw [hx] at e; exact T.ty_inj e
  subst exy
  rw [h.mem_vars hn, hy]
/-- A link turns no tree that the linked one is not within. -/
theorem tree_lk {S : St} (h : Wf S) {x y : Nat} (h' : Wf (S.lk x y)) (hx : x < S.length) (hlx : S.link x = none) (hly : S.link y = none) (hne : y ≠ x) : ∀ n, n < S.length → ¬ Rch S n x → (S.lk x y).tree n = S.tree n := by
  refine h.ind (p := fun n => n < S.length → ¬ Rch S n x → (S.lk x y).tree n = S.tree n) fun n ih hn hr => ?_
  have hrn : S.root n ≠ x := fun e => hr (rch_step.2 (.inl e.symm))
  have er : (S.lk x y).root n = S.root n := by rw [Wf.root_lk h h' hx hlx hly hne, if_neg hrn]
  have e1 : (S.lk x y).kind (S.root n) = S.kind (S.root n) := by simp only [St.kind, St.nd_lk hx]; rw [if_neg hrn]
  have e2 : (S.lk x y).kids (S.root n) = S.kids (S.root n) := by simp only [St.kids, St.nd_lk hx]; rw [if_neg hrn]
  rw [h'.tree_eq (by rw [St.lk_len]; exact hn), h.tree_eq hn, er, e1, e2]
  congr 1
  exact List.map_congr_left fun k hk => ih k hk (h.kid_lt' hk) fun hk' => hr (rch_step.2 (.inr ⟨k, hk, hk'⟩))
theorem mget_key : ∀ (Z : List (Int × Int)) (k : Int), (mget Z k).isSome = true ↔ k ∈ Z.map Prod.fst := by
  intro Z k
  induction Z with
  | nil => simp [mget]
  | cons p Z ih =>
    obtain ⟨j, w⟩ := p
    simp only [mget, List.map_cons, List.mem_cons]
    by_cases e : j = k
    · simp [e]
    · rw [if_neg e, ih]
      constructor
      · exact .inr
      · rintro (h | h)
        · exact absurd h.symm e
        · exact h
theorem mput_new : ∀ (Z : List (Int × Int)) (k v : Int), mget Z k = none → mput Z k v = Z ++ [(k, v)] := by
  intro Z k v
  induction Z with
  | nil => intro _; rfl
  | cons p Z ih =>
    obtain ⟨j, w⟩ := p
    intro h
    simp only [mget] at h
    by_cases e : j = k
    · simp [e] at h
    · rw [if_neg e] at h
      simp only [mput, if_neg e, ih h]; rfl
end Go.Proofs.Ytdngjamjccjlmaa
