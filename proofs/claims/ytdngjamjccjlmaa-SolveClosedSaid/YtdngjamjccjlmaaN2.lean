/- One pair of the stack: what stays as it should be. No condition. -/
import Derived.Test.YtdngjamjccjlmaaN1
set_option linter.unusedSimpArgs false
set_option linter.unusedVariables false
namespace Go.Proofs.Ytdngjamjccjlmaa
open Go Go.Ab

/-- Sound, and no variable's level is below zero. -/
structure GoodS (σ : Sto) : Prop where
  si : SI σ.L σ.rd
  lv : ∀ n, σ.L.st.kind n = 6 → 0 ≤ (σ.L.st.nd n).level
theorem GoodS.mark {σ : Sto} (h : GoodS σ) (n : Nat) : GoodS (σ.mark n) := ⟨h.si.mark _, by
  intro m; show (mkL _ _ _).st.kind m = 6 → 0 ≤ ((mkL _ _ _).st.nd m).level
  rw [mkL_st]; exact h.lv m⟩
theorem GoodS.low {σ : Sto} (h : GoodS σ) {n : Nat} (hn : n < σ.L.length) {lv : Int} (hl : 0 ≤ lv) : GoodS (σ.low n lv) := by
  obtain ⟨h1, h2⟩ := h.si.low hn lv
  refine ⟨h1, fun m hm => ?_⟩
  have hm' : σ.L.st.kind m = 6 := by
    have := h2.kind m
    rw [← this]; exact hm
  have h0 := h.lv m hm'
  show 0 ≤ ((lowL _ _ _).st.nd m).level
  rw [lowL_level _ _ (fun x hx => by
    have := vars_five h.si.wf (by rw [Mem.st_len]; exact hn) x hx
    rw [mkL_len]; rw [Mem.st_len] at this; exact this.2), mkL_st]
  split <;> omega
theorem GoodS.link {σ : Sto} (h : GoodS σ) {x y : Nat} (hx : x < σ.L.length) (hy : y < σ.L.length) (ex : σ.L.st.root x = x) (ey : σ.L.st.root y = y) (h6 : σ.L.st.kind x = 6) : GoodS (σ.link x y).2 := by
  unfold Sto.link
  split
  · exact h.mark y
  · rename_i hn
    have hlx := h.si.wf.root_link x
    have hly := h.si.wf.root_link y
    rw [ex] at hlx
    rw [ey] at hly
    obtain ⟨hw, h1, h2⟩ := h.si.link hx hy hlx h6 hly hn
    refine ⟨h1, fun m hm => ?_⟩
    have hxs : x < σ.L.st.length := by rw [Mem.st_len]; exact hx
    have e : ∀ i, ((σ.L.st.lk x y).nd i).kind = (σ.L.st.nd i).kind ∧ ((σ.L.st.lk x y).nd i).level = (σ.L.st.nd i).level := fun i => by
      rw [St.lk, St.nd_set]
      split
      · rename_i e; rw [e.1]; exact ⟨rfl, rfl⟩
      · exact ⟨rfl, rfl⟩
    have hm' : σ.L.st.kind m = 6 := by
      have := h2.kind m
      rw [St.kind, St.kind, (e m).1] at this
      rw [St.kind, ← this]; exact hm
    have h0 := h.lv m hm'
    have hx0 := h.lv x h6
    show 0 ≤ ((lowL _ _ _).st.nd m).level
    rw [lowL_level _ _ (fun z hz => by
      have := vars_five hw (by rw [St.lk_len, Mem.st_len]; exact hy) z hz
      rw [mkL_len, setLk_len, mkL_len]; rw [St.lk_len, Mem.st_len] at this; exact this.2), mkL_st, setLk_st, mkL_st, (e m).2]
    split <;> omega
theorem GoodS.var {σ : Sto} (h : GoodS σ) {lv : Int} (hl : 0 ≤ lv) : GoodS (σ.var lv) := by
  refine ⟨h.si.var lv, fun m hm => ?_⟩
  have e : (σ.var lv).L.st = σ.L.st ++ [⟨6, lv, none, []⟩] := by rw [Sto.var, Mem.st_app]; rfl
  rw [e] at hm ⊢
  by_cases hlt : m < σ.L.st.length
  · rw [St.kind, St.nd_app hlt] at hm
    rw [St.nd_app hlt]; exact h.lv m hm
  · by_cases he : m = σ.L.st.length
    · subst he; rw [St.nd_app0]; exact hl
    · rw [St.kind, St.nd_ge (by rw [List.length_append]; simp only [List.length_cons, List.length_nil]; omega)] at hm
      exact absurd hm (by decide)
theorem GoodS.mk' {σ : Sto} (h : GoodS σ) {k : Int} {ks : List Nat} (hk : (k = 7 ∨ k = 9) ∧ ks.length = 2 ∨ k = 8 ∧ ks.length = 1) (hks : ∀ a ∈ ks, a < σ.L.length) : GoodS (σ.mk' k ks) := by
  refine ⟨h.si.add (.inr ⟨rfl, hk⟩) rfl hks, fun m hm => ?_⟩
  have e : (σ.mk' k ks).L.st = σ.L.st ++ [⟨k, 0, none, ks⟩] := by rw [Sto.mk', Mem.st_app]
  rw [e] at hm ⊢
  by_cases hlt : m < σ.L.st.length
  · rw [St.kind, St.nd_app hlt] at hm
    rw [St.nd_app hlt]; exact h.lv m hm
  · by_cases he : m = σ.L.st.length
    · subst he; rw [St.nd_app0]; exact Int.le_refl 0
    · rw [St.kind, St.nd_ge (by rw [List.length_append]; simp only [List.length_cons, List.length_nil]; omega)] at hm
      exact absurd hm (by decide)

end Go.Proofs.Ytdngjamjccjlmaa
