/- One pair of the stack: become. No condition. -/
import Derived.Test.YtdngjamjccjlmaaN3
set_option linter.unusedSimpArgs false
set_option linter.unusedVariables false
namespace Go.Proofs.Ytdngjamjccjlmaa
open Go Go.Ab

/-- A root's node is one of six shapes. -/
theorem Wf.shape6 {S : St} (h : Wf S) {y : Nat} (hy : y < S.length) : S.kind y = 6 ∧ S.kids y = [] ∨ (y < 5 ∧ S.kind y = y + 1 ∧ S.kids y = []) ∨ (S.kind y = 8 ∧ ∃ a, S.kids y = [a]) ∨ ((S.kind y = 7 ∨ S.kind y = 9) ∧ ∃ a b, S.kids y = [a, b]) := by
  by_cases h5 : y < 5
  · right; left
    refine ⟨h5, ?_, ?_⟩
    · rw [St.kind, h.leaf y h5]
    · rw [St.kids, h.leaf y h5]
  · rcases h.node y (by omega) hy with hk | ⟨_, hk | hk⟩
    · exact .inl hk
    · right; right; right
      refine ⟨hk.1, ?_⟩
      have := hk.2
      rcases e : S.kids y with _ | ⟨a, _ | ⟨b, _ | ⟨c, l⟩⟩⟩ <;> simp [St.kids] at e <;> rw [e] at this <;> simp at this
      exact ⟨a, b, rfl⟩
    · right; right; left
      refine ⟨hk.1, ?_⟩
      have := hk.2
      rcases e : S.kids y with _ | ⟨a, _ | ⟨b, l⟩⟩ <;> simp [St.kids] at e <;> rw [e] at this <;> simp at this
      exact ⟨a, rfl⟩
theorem Sto.mark2_st (σ : Sto) (n k : Nat) : ((σ.mark n).mark k).L.st = σ.L.st := by
  show (mkL (mkL _ _ _) _ _).st = _
  rw [mkL_st, mkL_st]
theorem Sto.mark1_st (σ : Sto) (n : Nat) : (σ.mark n).L.st = σ.L.st := mkL_st _ _ _
theorem Sto.mark1_len (σ : Sto) (n : Nat) : (σ.mark n).L.length = σ.L.length := mkL_len _ _ _
theorem Sto.var_len (σ : Sto) (lv : Int) : (σ.var lv).L.length = σ.L.length + 1 := by simp [Sto.var]
theorem Sto.mk_len (σ : Sto) (k : Int) (ks : List Nat) : (σ.mk' k ks).L.length = σ.L.length + 1 := by simp [Sto.mk']
/-- Nodes were added. -/
def Ext0 (σ τ : Sto) : Prop := σ.L.st.length ≤ τ.L.st.length ∧ ∀ x, x < σ.L.st.length → τ.L.st.root x = σ.L.st.root x ∧ τ.L.st.nd x = σ.L.st.nd x
theorem Ext0.app {σ τ υ : Sto} (h : Ext0 σ τ) {d : Nd} (e : υ.L.st = τ.L.st ++ [d]) (hd : d.link = none) (hw : Wf τ.L.st) (hw' : Wf υ.L.st) : Ext0 σ υ := by
  rw [e] at hw'
  refine ⟨by rw [e, List.length_append]; have := h.1; omega, fun x hx => ?_⟩
  have hx' := Nat.lt_of_lt_of_le hx h.1
  rw [e, hw.root_add hw' hd x hx', St.nd_app hx']
  exact h.2 x hx
theorem Ext0.var {σ τ : Sto} (h : Ext0 σ τ) (lv : Int) (hw : Wf τ.L.st) (hw' : Wf (τ.var lv).L.st) : Ext0 σ (τ.var lv) :=
  h.app (d := ⟨6, lv, none, []⟩) (by rw [Sto.var, Mem.st_app]; rfl) rfl hw hw'
theorem Ext0.mk' {σ τ : Sto} (h : Ext0 σ τ) (k : Int) (ks : List Nat) (hw : Wf τ.L.st) (hw' : Wf (τ.mk' k ks).L.st) : Ext0 σ (τ.mk' k ks) :=
  h.app (d := ⟨k, 0, none, ks⟩) (by rw [Sto.mk', Mem.st_app]) rfl hw hw'
theorem Ext0.kind {σ τ : Sto} (h : Ext0 σ τ) {x : Nat} (hx : x < σ.L.st.length) : τ.L.st.root x = σ.L.st.root x ∧ τ.L.st.kind x = σ.L.st.kind x :=
  ⟨(h.2 x hx).1, by rw [St.kind, (h.2 x hx).2]; rfl⟩
theorem Ext0.mk_root {σ τ : Sto} (h : Ext0 σ τ) (k : Int) (ks : List Nat) : (τ.mk' k ks).L.st.root τ.L.length = τ.L.length := by
  have e : (τ.mk' k ks).L.st = τ.L.st ++ [⟨k, 0, none, ks⟩] := by rw [Sto.mk', Mem.st_app]
  have := root_new (S := τ.L.st) (x := ⟨k, 0, none, ks⟩) rfl
  rw [Mem.st_len] at this
  rw [e]; exact this
theorem Sto.become_grow {σ : Sto} (h : GoodS σ) {lim : Int} {x y : Nat} (hx : x < σ.L.length) (hy : y < σ.L.length) (ex : σ.L.st.root x = x) (ey : σ.L.st.root y = y) (h6 : σ.L.st.kind x = 6) : GrowS σ (σ.become lim x y).2.2 3 4 3 := by
  have g1 := Sto.mark_grow h y
  have g2 := g1.trans (Sto.mark_grow g1.good y)
  have hl := h.lv x h6
  unfold Sto.become
  split
  · exact (Sto.link_grow h hx hy ex ey h6).mono (by omega) (by omega) (by omega)
  split
  · exact (g1.trans (Sto.link_grow g1.good (by rw [Sto.mark1_len]; exact hx) (by rw [Sto.mark1_len]; exact hy) (by rw [Sto.mark1_st]; exact ex) (by rw [Sto.mark1_st]; exact ey) (by rw [Sto.mark1_st]; exact h6))).mono (by omega) (by omega) (by omega)
  split
  · exact g2.mono (by omega) (by omega) (by omega)
  have g3 := g2.trans (Sto.var_grow g2.good hl)
  have g4 := g3.trans (Sto.var_grow g3.good hl)
  have e2 : ((σ.mark y).mark y).L.length = σ.L.length := by rw [Sto.mark1_len, Sto.mark1_len]
  have l3 : (((σ.mark y).mark y).var (σ.L.st.nd x).level).L.length = σ.L.length + 1 := by rw [Sto.var_len, e2]
  have l4 : ((((σ.mark y).mark y).var (σ.L.st.nd x).level).var (σ.L.st.nd x).level).L.length = σ.L.length + 2 := by rw [Sto.var_len, l3]
  have x2 : Ext0 σ ((σ.mark y).mark y) := ⟨by rw [Sto.mark2_st]; exact Nat.le_refl _, fun z _ => by rw [Sto.mark2_st]; exact ⟨rfl, rfl⟩⟩
  have x3 := x2.var (σ.L.st.nd x).level g2.good.si.wf g3.good.si.wf
  have x4 := x3.var (σ.L.st.nd x).level g3.good.si.wf g4.good.si.wf
  split
  · rename_i k0 hks
    split
    · exact g2.mono (by omega) (by omega) (by omega)
    split
    · exact g3.mono (by omega) (by omega) (by omega)
    have hk : σ.L.st.kind y = 8 := by
      rcases h.si.wf.shape6 (y := y) (by rw [Mem.st_len]; exact hy) with hk | ⟨_, _, hk⟩ | ⟨hk, _⟩ | ⟨_, a, b, hk⟩
      · rw [hk.2] at hks; cases hks
      · rw [hk] at hks; cases hks
      · exact hk
      · rw [hk] at hks; cases hks
    have g5 := g3.trans (Sto.mk_grow (k := σ.L.st.kind y) (ks := [σ.L.length]) g3.good (.inr ⟨hk, rfl⟩) (by intro a ha; simp at ha; omega))
    have x5 := x3.mk' (σ.L.st.kind y) [σ.L.length] g3.good.si.wf g5.good.si.wf
    have q := x5.kind (x := x) (by rw [Mem.st_len]; exact hx)
    refine (g5.trans (Sto.link_grow g5.good (by rw [Sto.mk_len, l3]; omega) (by rw [Sto.mk_len, l3]; omega) (by rw [q.1]; exact ex) ?_ (by rw [q.2]; exact h6))).mono (by omega) (by omega) (by omega)
    have := x3.mk_root (σ.L.st.kind y) [σ.L.length]
    rwa [l3] at this
  · rename_i k0 k1 hks
    split
    · exact g2.mono (by omega) (by omega) (by omega)
    split
    · exact g3.mono (by omega) (by omega) (by omega)
    split
    · exact g4.mono (by omega) (by omega) (by omega)
    have hk : σ.L.st.kind y = 7 ∨ σ.L.st.kind y = 9 := by
      rcases h.si.wf.shape6 (y := y) (by rw [Mem.st_len]; exact hy) with hk | ⟨_, _, hk⟩ | ⟨_, a, hk⟩ | ⟨hk, _⟩
      · rw [hk.2] at hks; cases hks
      · rw [hk] at hks; cases hks
      · rw [hk] at hks; cases hks
      · exact hk
    have g5 := g4.trans (Sto.mk_grow (k := σ.L.st.kind y) (ks := [σ.L.length, σ.L.length + 1]) g4.good (.inl ⟨hk, rfl⟩) (by intro a ha; simp at ha; omega))
    have x5 := x4.mk' (σ.L.st.kind y) [σ.L.length, σ.L.length + 1] g4.good.si.wf g5.good.si.wf
    have q := x5.kind (x := x) (by rw [Mem.st_len]; exact hx)
    refine (g5.trans (Sto.link_grow g5.good (by rw [Sto.mk_len, l4]; omega) (by rw [Sto.mk_len, l4]; omega) (by rw [q.1]; exact ex) ?_ (by rw [q.2]; exact h6))).mono (by omega) (by omega) (by omega)
    have := x4.mk_root (σ.L.st.kind y) [σ.L.length, σ.L.length + 1]
    rwa [l4] at this
  · exact ⟨h, Nat.le_refl _, by show σ.L.length ≤ _; omega, Int.le_refl _, by show σ.rd ≤ _; omega, Int.le_refl _, by show σ.cnt ≤ _; omega⟩

end Go.Proofs.Ytdngjamjccjlmaa
