/- One pair of the stack: what a step is. No condition. -/
import Derived.Test.YtdngjamjccjlmaaN9
import Derived.Test.YtdngjamjccjlmaaN7
set_option linter.unusedSimpArgs false
set_option linter.unusedVariables false
namespace Go.Proofs.Ytdngjamjccjlmaa
open Go Go.Ab

/-- A link was made. -/
structure LinkS (S : St) (x y : Nat) (σ' : Sto) : Prop where
  good : GoodS σ'
  low : LowAt (S.lk x y) σ'.L.st y (S.nd x).level
theorem Sto.link_cnt (σ : Sto) (x y : Nat) : (σ.link x y).2.cnt = σ.cnt := by unfold Sto.link; split <;> rfl
theorem Sto.link_ok {σ : Sto} (h : GoodS σ) {x y : Nat} (c : CanLk σ.L.st x y) : (σ.link x y).1 = 0 ∧ LinkS σ.L.st x y (σ.link x y).2 := by
  have hx := c.hx
  have hy := c.hy
  rw [Mem.st_len] at hx hy
  have hG := h.link hx hy (root_none c.lx) (root_none c.ly) c.h6
  obtain ⟨hw, h1, h2⟩ := h.si.link hx hy c.lx c.h6 c.ly c.hn
  unfold Sto.link at hG ⊢
  rw [if_neg c.hn] at hG ⊢
  refine ⟨rfl, hG, h2, fun i => ?_⟩
  show ((lowL _ _ _).st.nd i).level = _
  rw [lowL_level _ _ (fun z hz => by
    have := vars_five hw (by rw [St.lk_len, Mem.st_len]; exact hy) z hz
    rw [mkL_len, setLk_len, mkL_len]; rw [St.lk_len, Mem.st_len] at this; exact this.2), mkL_st, setLk_st, mkL_st]
theorem Sto.low_ok {σ : Sto} (h : GoodS σ) {n : Nat} (hn : n < σ.L.length) {lv : Int} (hl : 0 ≤ lv) : GoodS (σ.low n lv) ∧ LowAt σ.L.st (σ.low n lv).L.st n lv := by
  obtain ⟨h1, h2⟩ := h.si.low hn lv
  refine ⟨h.low hn hl, h2, fun i => ?_⟩
  show ((lowL _ _ _).st.nd i).level = _
  rw [lowL_level _ _ (fun x hx => by
    have := vars_five h.si.wf (by rw [Mem.st_len]; exact hn) x hx
    rw [mkL_len]; rw [Mem.st_len] at this; exact this.2), mkL_st]

/-- A copy of a node, of new variables. -/
structure CpyOK (S S1 : St) (x y m : Nat) (fr : List Nat) : Prop where
  ext : Ext S S1
  len : S1.length = m + 1
  tT : ∀ n, n < S.length → S1.tT n = S.tT n
  nd : ∀ n, n < S.length → S1.nd n = S.nd n
  root : S1.root m = m
  kids : S1.kids m = fr
  kind : S1.kind m = S.kind y
  two : (∃ a, S.kids y = [a] ∧ fr = [S.length] ∧ m = S.length + 1 ∧ S.kind y = 8) ∨ (∃ a b, S.kids y = [a, b] ∧ fr = [S.length, S.length + 1] ∧ m = S.length + 2 ∧ (S.kind y = 7 ∨ S.kind y = 9))
  frs : ∀ f ∈ fr, S.length ≤ f ∧ f < m ∧ S1.kind f = 6 ∧ S1.link f = none ∧ (S1.nd f).level = (S.nd x).level
  free : S1.free = S.free + fr.length
  stv : StV S → StV S1
  lvok : LvOK S → LvOK S1
  can : CanLk S1 x m
theorem CpyOK.wf {S S1 : St} {x y m : Nat} {fr : List Nat} (h : CpyOK S S1 x y m fr) : Wf S1 := h.ext.wf
theorem CpyOK.tT_fr {S S1 : St} {x y m : Nat} {fr : List Nat} (h : CpyOK S S1 x y m fr) {f : Nat} (hf : f ∈ fr) : S1.tT f = .var f := by
  obtain ⟨_, h2, h3, h4, _⟩ := h.frs f hf
  exact h.wf.tT_free (by rw [h.len]; omega) h3 h4
def St.cpy1 (S : St) (x y : Nat) : St := S ++ [⟨6, (S.nd x).level, none, []⟩] ++ [⟨S.kind y, 0, none, [S.length]⟩]
def St.cpy2 (S : St) (x y : Nat) : St := S ++ [⟨6, (S.nd x).level, none, []⟩] ++ [⟨6, (S.nd x).level, none, []⟩] ++ [⟨S.kind y, 0, none, [S.length, S.length + 1]⟩]
theorem cpy1_ok {S : St} (hw : Wf S) {x y a : Nat} (hx : x < S.length) (h6 : S.kind x = 6) (lx : S.link x = none) (hy : y < S.length) (hk : S.kind y = 8) (hc : S.kids y = [a]) : CpyOK S (S.cpy1 x y) x y (S.length + 1) [S.length] := by
  have w1 : Wf (S ++ [⟨6, (S.nd x).level, none, []⟩]) := hw.add (.inl ⟨rfl, rfl⟩) rfl (by simp)
  have w2 : Wf (S.cpy1 x y) := w1.add (.inr ⟨rfl, .inr ⟨hk, rfl⟩⟩) rfl (by simp)
  have l1 : (S ++ [(⟨6, (S.nd x).level, none, []⟩ : Nd)]).length = S.length + 1 := by simp
  have l2 : (S.cpy1 x y).length = S.length + 1 + 1 := by simp [St.cpy1]
  have nd : ∀ n, n < S.length → (S.cpy1 x y).nd n = S.nd n := fun n hn => by rw [St.cpy1, St.nd_app (by rw [l1]; omega), St.nd_app hn]
  have ndf : (S.cpy1 x y).nd S.length = ⟨6, (S.nd x).level, none, []⟩ := by rw [St.cpy1, St.nd_app (by rw [l1]; omega), St.nd_app0]
  have ndm : (S.cpy1 x y).nd (S.length + 1) = ⟨S.kind y, 0, none, [S.length]⟩ := by
    have := St.nd_app0 (S := S ++ [⟨6, (S.nd x).level, none, []⟩]) (x := ⟨S.kind y, 0, none, [S.length]⟩)
    rwa [l1] at this
  have e2 : Ext S (S.cpy1 x y) := (Ext.add w1).trans (Ext.add w2)
  have rm : (S.cpy1 x y).root (S.length + 1) = S.length + 1 := root_none (by rw [St.link, ndm])
  have tf : (S.cpy1 x y).tT S.length = .var S.length := w2.tT_free (by rw [l2]; omega) (by rw [St.kind, ndf]) (by rw [St.link, ndf])
  refine ⟨e2, l2, fun n hn => ?_, nd, rm, by rw [St.kids, ndm], by rw [St.kind, ndm], .inl ⟨a, hc, rfl, rfl, hk⟩, fun f hf => ?_, ?_, fun h => ?_, fun h => ?_, ?_⟩
  · rw [St.cpy1, w1.tT_add w2 rfl (by rw [l1]; omega), hw.tT_add w1 rfl hn]
  · rw [List.mem_singleton] at hf; subst hf
    exact ⟨Nat.le_refl _, by omega, by rw [St.kind, ndf], by rw [St.link, ndf], by rw [ndf]⟩
  · rw [St.cpy1, free_add rfl, free_add rfl, if_pos rfl, if_neg (show ¬ S.kind y = 6 by omega)]; rfl
  · exact (h.var hw w1).node w1 w2 rfl (by show S.kind y ≠ 6; omega)
  · exact (h.var hw w1).node w1 w2 rfl (by show S.kind y ≠ 6; omega)
  · refine ⟨by rw [l2]; omega, by rw [l2]; omega, by rw [St.link, nd x hx]; exact lx, by rw [St.link, ndm], by rw [St.kind, nd x hx]; exact h6, ?_⟩
    rw [w2.allx (by rw [l2]; omega) (by rw [St.kind, nd x hx]; exact h6), w2.tT_eq (by rw [l2]; omega), rm, St.nodeT, St.kids, ndm]
    simp only [T.has, tf, decide_eq_true_eq]
    omega
theorem cpy2_ok {S : St} (hw : Wf S) {x y a b : Nat} (hx : x < S.length) (h6 : S.kind x = 6) (lx : S.link x = none) (hy : y < S.length) (hk : S.kind y = 7 ∨ S.kind y = 9) (hc : S.kids y = [a, b]) : CpyOK S (S.cpy2 x y) x y (S.length + 2) [S.length, S.length + 1] := by
  have l1 : (S ++ [(⟨6, (S.nd x).level, none, []⟩ : Nd)]).length = S.length + 1 := by simp
  have l2 : (S ++ [(⟨6, (S.nd x).level, none, []⟩ : Nd)] ++ [(⟨6, (S.nd x).level, none, []⟩ : Nd)]).length = S.length + 2 := by simp
  have l3 : (S.cpy2 x y).length = S.length + 2 + 1 := by simp [St.cpy2]
  have w1 : Wf (S ++ [⟨6, (S.nd x).level, none, []⟩]) := hw.add (.inl ⟨rfl, rfl⟩) rfl (by simp)
  have w2 : Wf (S ++ [⟨6, (S.nd x).level, none, []⟩] ++ [⟨6, (S.nd x).level, none, []⟩]) := w1.add (.inl ⟨rfl, rfl⟩) rfl (by simp)
  have w3 : Wf (S.cpy2 x y) := w2.add (.inr ⟨rfl, .inl ⟨hk, rfl⟩⟩) rfl (by simp)
  have nd : ∀ n, n < S.length → (S.cpy2 x y).nd n = S.nd n := fun n hn => by rw [St.cpy2, St.nd_app (by rw [l2]; omega), St.nd_app (by rw [l1]; omega), St.nd_app hn]
  have ndf : (S.cpy2 x y).nd S.length = ⟨6, (S.nd x).level, none, []⟩ := by rw [St.cpy2, St.nd_app (by rw [l2]; omega), St.nd_app (by rw [l1]; omega), St.nd_app0]
  have ndg : (S.cpy2 x y).nd (S.length + 1) = ⟨6, (S.nd x).level, none, []⟩ := by
    have := St.nd_app0 (S := S ++ [⟨6, (S.nd x).level, none, []⟩]) (x := ⟨6, (S.nd x).level, none, []⟩)
    rw [l1] at this
    rw [St.cpy2, St.nd_app (by rw [l2]; omega)]; exact this
  have ndm : (S.cpy2 x y).nd (S.length + 2) = ⟨S.kind y, 0, none, [S.length, S.length + 1]⟩ := by
    have := St.nd_app0 (S := S ++ [⟨6, (S.nd x).level, none, []⟩] ++ [⟨6, (S.nd x).level, none, []⟩]) (x := ⟨S.kind y, 0, none, [S.length, S.length + 1]⟩)
    rwa [l2] at this
  have e2 : Ext S (S.cpy2 x y) := ((Ext.add w1).trans (Ext.add w2)).trans (Ext.add w3)
  have rm : (S.cpy2 x y).root (S.length + 2) = S.length + 2 := root_none (by rw [St.link, ndm])
  have tf : (S.cpy2 x y).tT S.length = .var S.length := w3.tT_free (by rw [l3]; omega) (by rw [St.kind, ndf]) (by rw [St.link, ndf])
  have tg : (S.cpy2 x y).tT (S.length + 1) = .var ((S.length + 1 : Nat) : Int) := w3.tT_free (by rw [l3]; omega) (by rw [St.kind, ndg]) (by rw [St.link, ndg])
  have k6 : S.kind y ≠ 6 := by rcases hk with e | e <;> omega
  refine ⟨e2, l3, fun n hn => ?_, nd, rm, by rw [St.kids, ndm], by rw [St.kind, ndm], .inr ⟨a, b, hc, rfl, rfl, hk⟩, fun f hf => ?_, ?_, fun h => ?_, fun h => ?_, ?_⟩
  · rw [St.cpy2, w2.tT_add w3 rfl (by rw [l2]; omega), w1.tT_add w2 rfl (by rw [l1]; omega), hw.tT_add w1 rfl hn]
  · simp only [List.mem_cons, List.not_mem_nil, or_false] at hf
    rcases hf with rfl | rfl
    · exact ⟨Nat.le_refl _, by omega, by rw [St.kind, ndf], by rw [St.link, ndf], by rw [ndf]⟩
    · exact ⟨by omega, by omega, by rw [St.kind, ndg], by rw [St.link, ndg], by rw [ndg]⟩
  · rw [St.cpy2, free_add rfl, free_add rfl, free_add rfl, if_pos rfl, if_neg k6]; rfl
  · exact ((h.var hw w1).var w1 w2).node w2 w3 rfl k6
  · exact ((h.var hw w1).var w1 w2).node w2 w3 rfl k6
  · refine ⟨by rw [l3]; omega, by rw [l3]; omega, by rw [St.link, nd x hx]; exact lx, by rw [St.link, ndm], by rw [St.kind, nd x hx]; exact h6, ?_⟩
    rw [w3.allx (by rw [l3]; omega) (by rw [St.kind, nd x hx]; exact h6), w3.tT_eq (by rw [l3]; omega), rm, St.nodeT, St.kids, ndm]
    simp only
    split <;> (simp only [T.has, tf, tg, decide_eq_true_eq, Bool.or_eq_true]; omega)

/-- A variable becomes a node: all cases. -/
inductive BecR (lim : Int) (σ : Sto) (x y : Nat) : Option Nat × Int × Sto → Prop
  | link (σ' : Sto) : CanLk σ.L.st x y → (σ.L.st.tT y).static = true → LinkS σ.L.st x y σ' → σ'.cnt = σ.cnt → BecR lim σ x y (none, 0, σ')
  | copy (S1 : St) (m : Nat) (fr : List Nat) (σ' : Sto) : σ.L.st.kind y ≠ 6 → (σ.L.st.tT y).static = false → (σ.L.st.tT y).has x = false → CpyOK σ.L.st S1 x y m fr → LinkS S1 x m σ' → σ'.cnt = σ.cnt + (fr.length + 1 : Nat) → BecR lim σ x y (some m, 0, σ')
  | loop (σ' : Sto) : (σ.L.st.tT y).has x = true → GoodS σ' → σ'.L.st = σ.L.st → σ'.cnt = σ.cnt → BecR lim σ x y (none, 5, σ')
  | limit (σ' : Sto) : (σ.L.st.tT y).static = false → lim ≤ σ.cnt + 2 → BecR lim σ x y (none, 7, σ')
theorem become_cases {lim : Int} {σ : Sto} (h : GoodS σ) {x y : Nat} (hx : x < σ.L.length) (hy : y < σ.L.length) (ex : σ.L.st.root x = x) (ey : σ.L.st.root y = y) (h6 : σ.L.st.kind x = 6) (hxy : y ≠ x) (hy4 : y ≠ 4) : BecR lim σ x y (σ.become lim x y) := by
  have hw := h.si.wf
  have hx' : x < σ.L.st.length := by rw [Mem.st_len]; exact hx
  have hy' : y < σ.L.st.length := by rw [Mem.st_len]; exact hy
  have lx : σ.L.st.link x = none := by have := hw.root_link x; rwa [ex] at this
  have ly : σ.L.st.link y = none := by have := hw.root_link y; rwa [ey] at this
  unfold Sto.become
  by_cases hk6 : σ.L.st.kind y = 6
  · rw [if_pos hk6]
    have hf := hw.tT_free hy' hk6 ly
    have c : CanLk σ.L.st x y := ⟨hx', hy', lx, ly, h6, by rw [hw.allx hy' h6, hf]; simp only [T.has, decide_eq_true_eq]; omega⟩
    obtain ⟨q1, q2⟩ := Sto.link_ok h c
    have q3 := σ.link_cnt x y
    generalize σ.link x y = q at *
    obtain ⟨e, σ'⟩ := q
    simp only at q1 q2 q3
    subst q1
    exact .link σ' c (by rw [hf]; rfl) q2 q3
  rw [if_neg hk6]
  have hm := h.mark y
  have m1 := σ.mark1_st y
  by_cases h4 : 4 ∉ σ.L.st.all y
  · rw [if_pos h4]
    have hst := (hw.all4 hy').1 h4
    by_cases hin : x ∈ σ.L.st.all y
    · unfold Sto.link
      rw [m1, if_pos hin]
      exact .loop _ ((hw.allx hy' h6).1 hin) (hm.mark y) (σ.mark2_st y y) rfl
    · have c : CanLk σ.L.st x y := ⟨hx', hy', lx, ly, h6, hin⟩
      have c' : CanLk (σ.mark y).L.st x y := by rw [m1]; exact c
      obtain ⟨q1, q2⟩ := Sto.link_ok hm c'
      have q3 := (σ.mark y).link_cnt x y
      rw [m1] at q2
      generalize (σ.mark y).link x y = q at *
      obtain ⟨e, σ'⟩ := q
      simp only at q1 q2 q3
      subst q1
      exact .link σ' c hst q2 q3
  rw [if_neg h4]
  have hst : (σ.L.st.tT y).static = false := by
    have := (hw.all4 hy').2
    cases e : (σ.L.st.tT y).static with
    | false => rfl
    | true => exact absurd (this e) h4
  by_cases hin : x ∈ σ.L.st.all y
  · rw [if_pos hin]
    exact .loop _ ((hw.allx hy' h6).1 hin) (hm.mark y) (σ.mark2_st y y) rfl
  rw [if_neg hin]
  have hhas : (σ.L.st.tT y).has x = false := by
    have := (hw.allx (x := x) hy' h6).2
    cases e : (σ.L.st.tT y).has x with
    | false => rfl
    | true => exact absurd (this e) hin
  have g1 := h.mark y
  have g2 := g1.mark y
  have m2 := σ.mark2_st y y
  have n2 : ((σ.mark y).mark y).L.length = σ.L.length := by rw [Sto.mark1_len, Sto.mark1_len]
  have hlv := h.lv x h6
  rcases hw.shape6 (y := y) hy' with hk | ⟨h5, _, hk⟩ | ⟨hk, a, hks⟩ | ⟨hk, a, b, hks⟩
  · exact absurd hk.1 hk6
  · exfalso
    rw [hw.stat_iff y hy', rch_step, ey, hk] at hst
    simp at hst
    exact hy4 hst.symm
  · rw [hks]
    simp only
    by_cases c0 : σ.cnt = lim
    · rw [if_pos c0]; exact .limit _ hst (by omega)
    rw [if_neg c0]
    by_cases c1 : σ.cnt + 1 = lim
    · rw [if_pos c1]; exact .limit _ hst (by omega)
    rw [if_neg c1]
    have cp := cpy1_ok hw hx' h6 lx hy' hk hks
    have g3 := g2.var hlv
    have l3 : (((σ.mark y).mark y).var (σ.L.st.nd x).level).L.length = σ.L.length + 1 := by rw [Sto.var_len, n2]
    have g5 := g3.mk' (k := σ.L.st.kind y) (ks := [σ.L.length]) (.inr ⟨hk, rfl⟩) (by intro a ha; simp at ha; omega)
    have e1 : ((((σ.mark y).mark y).var (σ.L.st.nd x).level).mk' (σ.L.st.kind y) [σ.L.length]).L.st = σ.L.st.cpy1 x y := by
      rw [Sto.mk', Mem.st_app, Sto.var, Mem.st_app, m2, St.cpy1, Mem.st_len]; rfl
    have hcn : ((((σ.mark y).mark y).var (σ.L.st.nd x).level).mk' (σ.L.st.kind y) [σ.L.length]).cnt = σ.cnt + 1 + 1 := rfl
    generalize (((σ.mark y).mark y).var (σ.L.st.nd x).level).mk' (σ.L.st.kind y) [σ.L.length] = τ at *
    rw [← Mem.st_len σ.L]
    have c' := cp.can
    rw [← e1] at c'
    obtain ⟨q1, q2⟩ := Sto.link_ok g5 c'
    have q3 := τ.link_cnt x (σ.L.st.length + 1)
    rw [e1] at q2
    generalize τ.link x (σ.L.st.length + 1) = q at *
    obtain ⟨e, σ'⟩ := q
    simp only at q1 q2 q3
    subst q1
    exact .copy _ _ _ σ' hk6 hst hhas cp q2 (by rw [q3, hcn]; simp; omega)
  · rw [hks]
    simp only
    by_cases c0 : σ.cnt = lim
    · rw [if_pos c0]; exact .limit _ hst (by omega)
    rw [if_neg c0]
    by_cases c1 : σ.cnt + 1 = lim
    · rw [if_pos c1]; exact .limit _ hst (by omega)
    rw [if_neg c1]
    by_cases c2 : σ.cnt + 2 = lim
    · rw [if_pos c2]; exact .limit _ hst (by omega)
    rw [if_neg c2]
    have cp := cpy2_ok hw hx' h6 lx hy' hk hks
    have g3 := g2.var hlv
    have g4 := g3.var hlv
    have l3 : (((σ.mark y).mark y).var (σ.L.st.nd x).level).L.length = σ.L.length + 1 := by rw [Sto.var_len, n2]
    have l4 : ((((σ.mark y).mark y).var (σ.L.st.nd x).level).var (σ.L.st.nd x).level).L.length = σ.L.length + 2 := by rw [Sto.var_len, l3]
    have g5 := g4.mk' (k := σ.L.st.kind y) (ks := [σ.L.length, σ.L.length + 1]) (.inl ⟨hk, rfl⟩) (by intro a ha; simp at ha; omega)
    have e1 : (((((σ.mark y).mark y).var (σ.L.st.nd x).level).var (σ.L.st.nd x).level).mk' (σ.L.st.kind y) [σ.L.length, σ.L.length + 1]).L.st = σ.L.st.cpy2 x y := by
      rw [Sto.mk', Mem.st_app, Sto.var, Mem.st_app, Sto.var, Mem.st_app, m2, St.cpy2, Mem.st_len]; rfl
    have hcn : (((((σ.mark y).mark y).var (σ.L.st.nd x).level).var (σ.L.st.nd x).level).mk' (σ.L.st.kind y) [σ.L.length, σ.L.length + 1]).cnt = σ.cnt + 1 + 1 + 1 := rfl
    generalize ((((σ.mark y).mark y).var (σ.L.st.nd x).level).var (σ.L.st.nd x).level).mk' (σ.L.st.kind y) [σ.L.length, σ.L.length + 1] = τ at *
    rw [← Mem.st_len σ.L]
    have c' := cp.can
    rw [← e1] at c'
    obtain ⟨q1, q2⟩ := Sto.link_ok g5 c'
    have q3 := τ.link_cnt x (σ.L.st.length + 2)
    rw [e1] at q2
    generalize τ.link x (σ.L.st.length + 2) = q at *
    obtain ⟨e, σ'⟩ := q
    simp only at q1 q2 q3
    subst q1
    exact .copy _ _ _ σ' hk6 hst hhas cp q2 (by rw [q3, hcn]; simp; omega)

end Go.Proofs.Ytdngjamjccjlmaa
