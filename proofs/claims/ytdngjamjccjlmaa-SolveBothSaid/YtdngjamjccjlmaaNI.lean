/- Where types make all pairs agree, they are made to, and these types are what is found. No condition. -/
import Derived.Test.YtdngjamjccjlmaaNH
set_option linter.unusedSimpArgs false
set_option linter.unusedVariables false
namespace Go.Proofs.Ytdngjamjccjlmaa
open Go Go.Ab

theorem SolvedF.complete {l : List (T × T)} {n : Nat} {Z : List (Int × Int)} {σ0 : Sto} {ps : List (Nat × Nat)} {e : Int} {σ : Sto} (F : SolvedF l n Z σ0 ps e σ) (τ : Int → T) (hτ : ∀ k, (rowOf l).has k = true → (τ k).static = true)
    (ha : ∀ p ∈ l, agO (putS τ p.1) (putS τ p.2) = true) : e = 0 ∧ ∃ val : Int → T, (∀ z, (val z).static = true) ∧ putS val (σ.L.st.tT n) = putS τ (rowOf l) := by
  classical
  -- a node's value
  obtain ⟨val, hval⟩ : ∃ val : Int → T, val = fun z => if h : ∃ k, mget Z k = some z ∧ (rowOf l).has k = true then τ h.choose else .base 0 := ⟨_, rfl⟩
  have hs : ∀ z, (val z).static = true := fun z => by
    rw [hval]
    simp only
    split
    · rename_i h; exact hτ _ h.choose_spec.2
    · rfl
  have hv : ∀ k, (rowOf l).has k = true → val (nu Z k) = τ k := fun k hk => by
    obtain ⟨z, hz⟩ := Option.isSome_iff_exists.1 (F.dom k hk)
    have e1 : nu Z k = z := by rw [nu, hz]; rfl
    rw [e1, hval]
    simp only
    have hex : ∃ k, mget Z k = some z ∧ (rowOf l).has k = true := ⟨k, hz, hk⟩
    rw [dif_pos hex]
    have := F.vi.inj _ _ _ hex.choose_spec.1 hz
    rw [this]
  have hput : ∀ a : T, (∀ k, a.has k = true → (rowOf l).has k = true) → putS val (putS (fun k => .var (nu Z k)) a) = putS τ a := fun a h => by
    rw [put_put]
    exact put_congr a fun k hk => hv k (h k hk)
  have hag : ∀ p ∈ ps, agO (putS val (σ0.L.st.tT p.1)) (putS val (σ0.L.st.tT p.2)) = true := fun p hp => by
    have : (σ0.L.st.tT p.1, σ0.L.st.tT p.2) ∈ l.map (fun p => (putS (fun k => .var (nu Z k)) p.1, putS (fun k => .var (nu Z k)) p.2)) := by
      rw [← F.pairs]; exact List.mem_map.2 ⟨p, hp, rfl⟩
    obtain ⟨q, hq, e1⟩ := List.mem_map.1 this
    simp only [Prod.mk.injEq] at e1
    rw [← e1.1, ← e1.2, hput q.1 fun k hk => rowOf_has hq (.inl hk), hput q.2 fun k hk => rowOf_has hq (.inr hk)]
    exact ha q hq
  obtain ⟨e0, val', h1, h2⟩ := seq_comp ps σ0 (e, σ) val F.good0 F.lt F.seq (by rcases F.he with h | h | h <;> simp [h]) hs hag
  refine ⟨e0, val', h1, ?_⟩
  rw [h2 n F.hn, F.tree]
  exact hput _ fun k hk => hk
end Go.Proofs.Ytdngjamjccjlmaa
