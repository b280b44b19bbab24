/- Two types are made to agree in both orders, or in neither. No condition. -/
import Derived.Test.YtdngjamjccjlmaaNI
import Derived.Test.YtdngjamjccjlmaaPSb
set_option linter.unusedSimpArgs false
set_option linter.unusedVariables false
namespace Go.Proofs.Ytdngjamjccjlmaa
open Go Go.Ab

theorem SolvedF.theta {l : List (T × T)} {n : Nat} {Z : List (Int × Int)} {σ0 : Sto} {ps : List (Nat × Nat)} {σ : Sto} (F : SolvedF l n Z σ0 ps 0 σ) :
    ∃ τ : Int → T, (∀ k, (rowOf l).has k = true → (τ k).static = true) ∧ σ.L.st.tT n = putS τ (rowOf l) ∧ ∀ p ∈ l, agO (putS τ p.1) (putS τ p.2) = true := by
  have hw := F.good0.si.wf
  have hn : n < σ0.L.st.length := by rw [Mem.st_len]; exact F.hn
  refine ⟨fun k => σ.L.st.tT (nu Z k).toNat, fun k hk => ?_, ?_, fun p hp => ?_⟩
  · obtain ⟨z, hz⟩ := Option.isSome_iff_exists.1 (F.dom k hk)
    obtain ⟨m, rfl, h1, h2, h3⟩ := F.vi.at_ k z hz
    have e : (nu Z k).toNat = m := by rw [nu, hz]; simp
    simp only [e]
    exact F.stv m (Nat.lt_of_lt_of_le h1 F.ext.len) (by rw [F.ext.kind m h1]; exact h3)
  · rw [F.ext.tT hw n hn, F.tree, put_put]; rfl
  · obtain ⟨_, _, h⟩ := seq_sound ps σ0 (0, σ) F.good0 F.lt F.seq rfl
    have : (putS (fun k => .var (nu Z k)) p.1, putS (fun k => .var (nu Z k)) p.2) ∈ ps.map (fun p => (σ0.L.st.tT p.1, σ0.L.st.tT p.2)) := by
      rw [F.pairs]; exact List.mem_map.2 ⟨p, hp, rfl⟩
    obtain ⟨q, hq, e1⟩ := List.mem_map.1 this
    simp only [Prod.mk.injEq] at e1
    have hl := F.lt q hq
    rw [← Mem.st_len σ0.L] at hl
    have hqa := h q hq
    simp only at hqa
    rw [F.ext.tT hw _ hl.1, F.ext.tT hw _ hl.2, e1.1, e1.2, put_put, put_put] at hqa
    exact hqa
theorem row1 (a b : T) : rowOf [(a, b)] = .pair (.pair a b) (.base 3) := rfl
theorem swap_has {a b : T} {k : Int} (h : (rowOf [(b, a)]).has k = true) : (rowOf [(a, b)]).has k = true := by
  simp only [rowOf, T.has, Bool.or_eq_true, Bool.false_eq_true, or_false] at h ⊢
  exact h.symm
theorem solSwap {a b : T} {n m : Nat} {Z Z' : List (Int × Int)} {σ0 σ τ0 σ' : Sto} {ps ps' : List (Nat × Nat)} {e : Int} (F : SolvedF [(a, b)] n Z σ0 ps 0 σ) (F' : SolvedF [(b, a)] m Z' τ0 ps' e σ') :
    e = 0 ∧ ∃ A B A' B' : T, σ.L.st.tT n = .pair (.pair A B) (.base 3) ∧ σ'.L.st.tT m = .pair (.pair B' A') (.base 3) ∧ (matchT (.pair A' B') (.pair A B) []).isSome = true := by
  obtain ⟨τ, h1, h2, h3⟩ := F.theta
  have hh : ∀ k, (rowOf [(b, a)]).has k = true → (τ k).static = true := fun k hk => h1 k (swap_has hk)
  obtain ⟨rfl, val, v1, v2⟩ := F'.complete τ hh fun p hp => by
    rw [List.mem_singleton] at hp; subst hp
    have := h3 (a, b) (by simp)
    rw [agO_comm] at this; exact this
  obtain ⟨τ', _, g2, _⟩ := F'.theta
  refine ⟨rfl, putS τ a, putS τ b, putS τ' a, putS τ' b, h2, g2, ?_⟩
  rw [g2, row1] at v2
  simp only [putS, T.pair.injEq] at v2
  refine (match_iff _ _).2 ⟨val, ?_, fun k _ => by rw [stat_same]; exact v1 k⟩
  simp only [putS]
  rw [v2.1.1, v2.1.2]
theorem solB_ok {a b : T} {n m : Nat} {Z Z' : List (Int × Int)} {σ0 σ τ0 σ' : Sto} {ps ps' : List (Nat × Nat)} {e e' : Int} (F : SolvedF [(a, b)] n Z σ0 ps e σ) (F' : SolvedF [(b, a)] m Z' τ0 ps' e' σ') :
    (e ≠ 0 ∧ e' ≠ 0) ∨ (e = 0 ∧ e' = 0 ∧ ∃ A B A' B' : T, σ.L.st.tT n = .pair (.pair A B) (.base 3) ∧ σ'.L.st.tT m = .pair (.pair B' A') (.base 3) ∧ canonT (.pair A B) = canonT (.pair A' B')) := by
  by_cases h : e = 0
  · subst h
    obtain ⟨rfl, A, B, A', B', h1, h2, h3⟩ := solSwap F F'
    obtain ⟨_, B1, A1, B1', A1', g1, g2, g3⟩ := solSwap F' F
    right
    refine ⟨rfl, rfl, A, B, A', B', h1, h2, (canon_iff _ _).2 ⟨?_, h3⟩⟩
    rw [h2] at g1
    rw [h1] at g2
    simp only [T.pair.injEq] at g1 g2
    obtain ⟨⟨rfl, rfl⟩, _⟩ := g1
    obtain ⟨⟨rfl, rfl⟩, _⟩ := g2
    -- the pairs turned round
    obtain ⟨σv, p1, p2⟩ := (match_iff _ _).1 g3
    simp only [putS, T.pair.injEq] at p1
    refine (match_iff _ _).2 ⟨σv, by simp only [putS, p1], fun k hk => p2 k ?_⟩
    simp only [T.has, Bool.or_eq_true] at hk ⊢
    exact hk.symm
  · left
    refine ⟨h, fun h' => ?_⟩
    subst h'
    exact h (solSwap F' F).1

end Go.Proofs.Ytdngjamjccjlmaa
