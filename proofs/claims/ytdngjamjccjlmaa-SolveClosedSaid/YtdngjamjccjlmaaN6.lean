/- One pair of the stack: the copy. No condition. -/
import Derived.Test.YtdngjamjccjlmaaN5
set_option linter.unusedSimpArgs false
set_option linter.unusedVariables false
namespace Go.Proofs.Ytdngjamjccjlmaa
open Go Go.Ab

/-- What is so where a copy was made. -/
structure CopyS (σ σ' : Sto) (y m : Nat) : Prop where
  rm : σ'.L.st.root m = m
  ry : σ'.L.st.root y = y
  ky : σ'.L.st.kids y = σ.L.st.kids y
  km : (σ'.L.st.kids m).length = (σ.L.st.kids y).length
  lo : 1 ≤ (σ.L.st.kids y).length
  hi : (σ.L.st.kids y).length ≤ 2
  lt : m < σ'.L.length
theorem Sto.become_some {σ : Sto} (h : GoodS σ) {lim : Int} {x y : Nat} (hx : x < σ.L.length) (hy : y < σ.L.length) (ex : σ.L.st.root x = x) (ey : σ.L.st.root y = y) (h6 : σ.L.st.kind x = 6) (hxy : y ≠ x) {m : Nat} (hm : (σ.become lim x y).1 = some m) (he : (σ.become lim x y).2.1 = 0) :
    CopyS σ (σ.become lim x y).2.2 y m := by
  have hG := (Sto.become_grow h (lim := lim) hx hy ex ey h6).good
  have g1 := Sto.mark_grow h y
  have g2 := g1.trans (Sto.mark_grow g1.good y)
  have hl := h.lv x h6
  have g3 := g2.trans (Sto.var_grow g2.good hl)
  have g4 := g3.trans (Sto.var_grow g3.good hl)
  have e2 : ((σ.mark y).mark y).L.length = σ.L.length := by rw [Sto.mark1_len, Sto.mark1_len]
  have l3 : (((σ.mark y).mark y).var (σ.L.st.nd x).level).L.length = σ.L.length + 1 := by rw [Sto.var_len, e2]
  have l4 : ((((σ.mark y).mark y).var (σ.L.st.nd x).level).var (σ.L.st.nd x).level).L.length = σ.L.length + 2 := by rw [Sto.var_len, l3]
  have x2 : Ext0 σ ((σ.mark y).mark y) := ⟨by rw [Sto.mark2_st]; exact Nat.le_refl _, fun z _ => by rw [Sto.mark2_st]; exact ⟨rfl, rfl⟩⟩
  have x3 := x2.var (σ.L.st.nd x).level g2.good.si.wf g3.good.si.wf
  have x4 := x3.var (σ.L.st.nd x).level g3.good.si.wf g4.good.si.wf
  unfold Sto.become at hm he hG ⊢
  split at hm
  · cases hm
  rename_i c1
  rw [if_neg c1] at he hG ⊢
  split at hm
  · cases hm
  rename_i c2
  rw [if_neg c2] at he hG ⊢
  split at hm
  · cases hm
  rename_i c3
  rw [if_neg c3] at he hG ⊢
  rcases h.si.wf.shape6 (y := y) (by rw [Mem.st_len]; exact hy) with hk | ⟨_, _, hk⟩ | ⟨hk, a, hks⟩ | ⟨hk, a, b, hks⟩
  · exact absurd hk.1 c1
  · rw [hk] at hm; cases hm
  · rw [hks] at hm he hG ⊢
    simp only at hm he hG ⊢
    split at hm
    · cases hm
    rename_i d1
    rw [if_neg d1] at he hG ⊢
    split at hm
    · cases hm
    rename_i d2
    rw [if_neg d2] at he hG ⊢
    simp only [Option.some.injEq] at hm
    subst hm
    have g5 := g3.trans (Sto.mk_grow (k := σ.L.st.kind y) (ks := [σ.L.length]) g3.good (.inr ⟨hk, rfl⟩) (by intro a ha; simp at ha; omega))
    have x5 := x3.mk' (σ.L.st.kind y) [σ.L.length] g3.good.si.wf g5.good.si.wf
    have q := Sto.new_facts (k := 0) hx hy ex ey h6 hxy g5.good x5 x3 (by omega) (by rw [l3]; exact he)
    rw [l3] at q
    have gl := (Sto.link_grow g5.good (x := x) (y := σ.L.length + 1) (by rw [Sto.mk_len, l3]; omega) (by rw [Sto.mk_len, l3]; omega) (by rw [(x5.kind (by rw [Mem.st_len]; exact hx)).1]; exact ex) (by have := x3.mk_root (σ.L.st.kind y) [σ.L.length]; rwa [l3] at this) (by rw [(x5.kind (by rw [Mem.st_len]; exact hx)).2]; exact h6)).len1
    rw [Sto.mk_len, l3] at gl
    exact ⟨q.1.1, q.1.2, q.2.2.trans rfl, by rw [q.2.1, hks]; rfl, by rw [hks]; simp, by rw [hks]; simp, by simp only; omega⟩
  · rw [hks] at hm he hG ⊢
    simp only at hm he hG ⊢
    split at hm
    · cases hm
    rename_i d1
    rw [if_neg d1] at he hG ⊢
    split at hm
    · cases hm
    rename_i d2
    rw [if_neg d2] at he hG ⊢
    split at hm
    · cases hm
    rename_i d3
    rw [if_neg d3] at he hG ⊢
    simp only [Option.some.injEq] at hm
    subst hm
    have g5 := g4.trans (Sto.mk_grow (k := σ.L.st.kind y) (ks := [σ.L.length, σ.L.length + 1]) g4.good (.inl ⟨hk, rfl⟩) (by intro a ha; simp at ha; omega))
    have x5 := x4.mk' (σ.L.st.kind y) [σ.L.length, σ.L.length + 1] g4.good.si.wf g5.good.si.wf
    have q := Sto.new_facts (k := 0) hx hy ex ey h6 hxy g5.good x5 x4 (by omega) (by rw [l4]; exact he)
    rw [l4] at q
    have gl := (Sto.link_grow g5.good (x := x) (y := σ.L.length + 2) (by rw [Sto.mk_len, l4]; omega) (by rw [Sto.mk_len, l4]; omega) (by rw [(x5.kind (by rw [Mem.st_len]; exact hx)).1]; exact ex) (by have := x4.mk_root (σ.L.st.kind y) [σ.L.length, σ.L.length + 1]; rwa [l4] at this) (by rw [(x5.kind (by rw [Mem.st_len]; exact hx)).2]; exact h6)).len1
    rw [Sto.mk_len, l4] at gl
    exact ⟨q.1.1, q.1.2, q.2.2.trans rfl, by rw [q.2.1, hks]; rfl, by rw [hks]; simp, by rw [hks]; simp, by simp only; omega⟩

end Go.Proofs.Ytdngjamjccjlmaa
