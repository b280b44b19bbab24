/- One pair of the stack: what a new node is. No condition. -/
import Derived.Test.YtdngjamjccjlmaaN4
set_option linter.unusedSimpArgs false
set_option linter.unusedVariables false
namespace Go.Proofs.Ytdngjamjccjlmaa
open Go Go.Ab

/-- A link of a root that is not within: roots and kids behind it. -/
theorem Sto.link_facts {σ : Sto} (h : GoodS σ) {x y : Nat} (hx : x < σ.L.length) (hy : y < σ.L.length) (ex : σ.L.st.root x = x) (ey : σ.L.st.root y = y) (h6 : σ.L.st.kind x = 6) (hxy : y ≠ x) (hn : x ∉ σ.L.st.all y) :
    (σ.link x y).1 = 0 ∧ (∀ n, (σ.link x y).2.L.st.root n = if σ.L.st.root n = x then y else σ.L.st.root n) ∧ (∀ n, (σ.link x y).2.L.st.kids n = σ.L.st.kids n) ∧ (∀ n, (σ.link x y).2.L.st.kind n = σ.L.st.kind n) := by
  have hlx := h.si.wf.root_link x
  have hly := h.si.wf.root_link y
  rw [ex] at hlx
  rw [ey] at hly
  obtain ⟨hw, h1, h2⟩ := h.si.link hx hy hlx h6 hly hn
  have hxs : x < σ.L.st.length := by rw [Mem.st_len]; exact hx
  unfold Sto.link
  rw [if_neg hn]
  refine ⟨rfl, fun n => ?_, fun n => ?_, fun n => ?_⟩
  · show (linkM _ _ _ _).st.root n = _
    rw [h2.root n, h.si.wf.root_lk hw hxs hlx hly hxy n]
  · show (linkM _ _ _ _).st.kids n = _
    rw [h2.kids n, St.kids, St.nd_lk hxs]
    split
    · rename_i e; subst e; rfl
    · rfl
  · show (linkM _ _ _ _).st.kind n = _
    rw [h2.kind n, St.kind, St.nd_lk hxs]
    split
    · rename_i e; subst e; rfl
    · rfl
theorem Sto.link_in {σ : Sto} {x y : Nat} (h : (σ.link x y).1 = 0) : x ∉ σ.L.st.all y := fun hn => by
  unfold Sto.link at h
  rw [if_pos hn] at h
  exact absurd (show (5 : Int) = 0 from h) (by decide)
theorem Ext0.kids {σ τ : Sto} (h : Ext0 σ τ) {x : Nat} (hx : x < σ.L.st.length) : τ.L.st.kids x = σ.L.st.kids x := by rw [St.kids, (h.2 x hx).2]; rfl
theorem Sto.mk_new (τ : Sto) (k : Int) (ks : List Nat) : (τ.mk' k ks).L.st.kids τ.L.length = ks ∧ (τ.mk' k ks).L.st.kind τ.L.length = k := by
  have e : (τ.mk' k ks).L.st = τ.L.st ++ [⟨k, 0, none, ks⟩] := by rw [Sto.mk', Mem.st_app]
  rw [e, St.kids, St.kind, ← Mem.st_len τ.L, St.nd_app0]
  exact ⟨rfl, rfl⟩
/-- The new node of a copy, linked. -/
theorem Sto.new_facts {σ τ : Sto} {x y k : Nat} {ks : List Nat} {kd : Int} (hx : x < σ.L.length) (hy : y < σ.L.length) (ex : σ.L.st.root x = x) (ey : σ.L.st.root y = y) (h6 : σ.L.st.kind x = 6) (hxy : y ≠ x)
    (hg : GoodS (τ.mk' kd ks)) (x5 : Ext0 σ (τ.mk' kd ks)) (x4 : Ext0 σ τ) (hle : σ.L.length ≤ τ.L.length) (hl : ((τ.mk' kd ks).link x τ.L.length).1 = 0) :
    (((τ.mk' kd ks).link x τ.L.length).2.L.st.root τ.L.length = τ.L.length ∧ ((τ.mk' kd ks).link x τ.L.length).2.L.st.root y = y) ∧
    (((τ.mk' kd ks).link x τ.L.length).2.L.st.kids τ.L.length = ks ∧ ((τ.mk' kd ks).link x τ.L.length).2.L.st.kids y = σ.L.st.kids y) := by
  have hn := Sto.link_in hl
  have hx' : x < σ.L.st.length := by rw [Mem.st_len]; exact hx
  have hy' : y < σ.L.st.length := by rw [Mem.st_len]; exact hy
  have em := x4.mk_root kd ks
  have q := Sto.link_facts hg (x := x) (y := τ.L.length) (by rw [Sto.mk_len]; omega) (by rw [Sto.mk_len]; omega) (by rw [(x5.kind hx').1]; exact ex) em (by rw [(x5.kind hx').2]; exact h6) (by omega) hn
  obtain ⟨_, q1, q2, _⟩ := q
  refine ⟨⟨?_, ?_⟩, ?_, ?_⟩
  · rw [q1, em, if_neg (by omega)]
  · rw [q1, (x5.kind hy').1, ey, if_neg hxy]
  · rw [q2]; exact (τ.mk_new kd ks).1
  · rw [q2]; exact x5.kids hy'

end Go.Proofs.Ytdngjamjccjlmaa
