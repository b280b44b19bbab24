/- One pair of the stack: bounds. No condition. -/
import Derived.Test.YtdngjamjccjlmaaN2
set_option linter.unusedSimpArgs false
set_option linter.unusedVariables false
namespace Go.Proofs.Ytdngjamjccjlmaa
open Go Go.Ab

/-- Sound, and grown by so much at most. -/
structure GrowS (σ σ' : Sto) (a b c : Nat) : Prop where
  good : GoodS σ'
  len1 : σ.L.length ≤ σ'.L.length
  len2 : σ'.L.length ≤ σ.L.length + a
  rd1 : σ.rd ≤ σ'.rd
  rd2 : σ'.rd ≤ σ.rd + b
  cnt1 : σ.cnt ≤ σ'.cnt
  cnt2 : σ'.cnt ≤ σ.cnt + c
theorem Sto.mark_grow {σ : Sto} (h : GoodS σ) (n : Nat) : GrowS σ (σ.mark n) 0 1 0 :=
  ⟨h.mark n, by rw [show (σ.mark n).L.length = σ.L.length from mkL_len _ _ _]; omega, by rw [show (σ.mark n).L.length = σ.L.length from mkL_len _ _ _]; omega, by show σ.rd ≤ σ.rd + 1; omega, by show σ.rd + 1 ≤ σ.rd + _; omega, Int.le_refl _, by show σ.cnt ≤ σ.cnt + _; omega⟩
theorem Sto.low_grow {σ : Sto} (h : GoodS σ) {n : Nat} (hn : n < σ.L.length) {lv : Int} (hl : 0 ≤ lv) : GrowS σ (σ.low n lv) 0 1 0 := by
  have e : (σ.low n lv).L.length = σ.L.length := by show (lowL _ _ _).length = _; rw [lowL_len, mkL_len]
  exact ⟨h.low hn hl, by omega, by omega, by show σ.rd ≤ σ.rd + 1; omega, by show σ.rd + 1 ≤ σ.rd + _; omega, Int.le_refl _, by show σ.cnt ≤ σ.cnt + _; omega⟩
theorem Sto.link_grow {σ : Sto} (h : GoodS σ) {x y : Nat} (hx : x < σ.L.length) (hy : y < σ.L.length) (ex : σ.L.st.root x = x) (ey : σ.L.st.root y = y) (h6 : σ.L.st.kind x = 6) : GrowS σ (σ.link x y).2 0 2 0 := by
  have hg := h.link hx hy ex ey h6
  unfold Sto.link at hg ⊢
  split
  · have := Sto.mark_grow h y
    exact ⟨this.good, this.len1, this.len2, this.rd1, by have := this.rd2; show (σ.mark y).rd ≤ _; omega, this.cnt1, this.cnt2⟩
  · rename_i hn
    rw [if_neg hn] at hg
    refine ⟨hg, ?_, ?_, ?_, ?_, Int.le_refl _, ?_⟩
    · show _ ≤ (linkM _ _ _ _).length; rw [linkM_len]; omega
    · show (linkM _ _ _ _).length ≤ _; rw [linkM_len]; omega
    · show σ.rd ≤ σ.rd + 2; omega
    · show σ.rd + 2 ≤ σ.rd + _; omega
    · show σ.cnt ≤ σ.cnt + _; omega
theorem GrowS.trans {σ τ υ : Sto} {a b c a' b' c' : Nat} (h : GrowS σ τ a b c) (h' : GrowS τ υ a' b' c') : GrowS σ υ (a + a') (b + b') (c + c') := by
  obtain ⟨g, l1, l2, r1, r2, c1, c2⟩ := h
  obtain ⟨g', l1', l2', r1', r2', c1', c2'⟩ := h'
  exact ⟨g', by omega, by omega, by omega, by push_cast; omega, by omega, by push_cast; omega⟩
theorem GrowS.mono {σ τ : Sto} {a b c a' b' c' : Nat} (h : GrowS σ τ a b c) (ha : a ≤ a') (hb : b ≤ b') (hc : c ≤ c') : GrowS σ τ a' b' c' := by
  obtain ⟨g, l1, l2, r1, r2, c1, c2⟩ := h
  exact ⟨g, l1, by omega, r1, by omega, c1, by omega⟩
theorem Sto.var_grow {σ : Sto} (h : GoodS σ) {lv : Int} (hl : 0 ≤ lv) : GrowS σ (σ.var lv) 1 0 1 := by
  have e : (σ.var lv).L.length = σ.L.length + 1 := by simp [Sto.var]
  exact ⟨h.var hl, by omega, by omega, Int.le_refl _, by show σ.rd ≤ σ.rd + _; omega, by show σ.cnt ≤ σ.cnt + 1; omega, by show σ.cnt + 1 ≤ σ.cnt + _; omega⟩
theorem Sto.mk_grow {σ : Sto} (h : GoodS σ) {k : Int} {ks : List Nat} (hk : (k = 7 ∨ k = 9) ∧ ks.length = 2 ∨ k = 8 ∧ ks.length = 1) (hks : ∀ a ∈ ks, a < σ.L.length) : GrowS σ (σ.mk' k ks) 1 0 1 := by
  have e : (σ.mk' k ks).L.length = σ.L.length + 1 := by simp [Sto.mk']
  exact ⟨h.mk' hk hks, by omega, by omega, Int.le_refl _, by show σ.rd ≤ σ.rd + _; omega, by show σ.cnt ≤ σ.cnt + 1; omega, by show σ.cnt + 1 ≤ σ.cnt + _; omega⟩

end Go.Proofs.Ytdngjamjccjlmaa
