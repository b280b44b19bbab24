/- One pair of the stack: all that a step may be. No condition. -/
import Derived.Test.YtdngjamjccjlmaaNA
set_option linter.unusedSimpArgs false
set_option linter.unusedVariables false
namespace Go.Proofs.Ytdngjamjccjlmaa
open Go Go.Ab

theorem LinkS.ext {S : St} {x y : Nat} {σ' : Sto} (hw : Wf S) (c : CanLk S x y) (h : LinkS S x y σ') : Ext S σ'.L.st := (c.ext hw).trans (Ext.lv h.good.si.wf h.low.lv)
theorem LinkS.stv {S : St} {x y : Nat} {σ' : Sto} (hw : Wf S) (c : CanLk S x y) (h : LinkS S x y σ') (hs : StV S) (hy : (S.tT y).static = true) : StV σ'.L.st := (c.stV hw hs hy).lv h.low.lv
theorem LinkS.free {S : St} {x y : Nat} {σ' : Sto} (c : CanLk S x y) (h : LinkS S x y σ') : σ'.L.st.free + 1 = S.free := by rw [h.low.lv.free]; exact c.free
theorem LinkS.root {S : St} {x y : Nat} {σ' : Sto} (hw : Wf S) (c : CanLk S x y) (h : LinkS S x y σ') (n : Nat) : σ'.L.st.root n = if S.root n = x then y else S.root n := by rw [h.low.lv.root]; exact c.root hw n
theorem LinkS.lvok {S : St} {x y : Nat} {σ' : Sto} (hw : Wf S) (c : CanLk S x y) (h : LinkS S x y σ') (hk : LvOK S) : LvOK σ'.L.st := hk.lk hw c h.low
theorem LinkS.tT {S : St} {x y : Nat} {σ' : Sto} (h : LinkS S x y σ') (n : Nat) : σ'.L.st.tT n = (S.lk x y).tT n := h.low.lv.tT n
theorem LinkS.len {S : St} {x y : Nat} {σ' : Sto} (h : LinkS S x y σ') : σ'.L.st.length = S.length := by rw [h.low.lv.len, St.lk_len]

/-- All that a step may be: of the pair p1, p2 ahead of a stack. -/
inductive StepR (lim : Int) (σ : Sto) (p1 p2 : Nat) (stk : List (Nat × Nat)) : Stp → Prop
  | eq : σ.L.st.root p1 = σ.L.st.root p2 → StepR lim σ p1 p2 stk (.go stk σ)
  | dyn (z : Nat) (σ' : Sto) : (σ.L.st.root p1 = 4 ∧ z = σ.L.st.root p2) ∨ (σ.L.st.root p2 = 4 ∧ z = σ.L.st.root p1) → GoodS σ' → LowAt σ.L.st σ'.L.st z 0 → σ'.cnt = σ.cnt → StepR lim σ p1 p2 stk (.go stk σ')
  | link (u w : Nat) (σ' : Sto) : (u = σ.L.st.root p1 ∧ w = σ.L.st.root p2) ∨ (u = σ.L.st.root p2 ∧ w = σ.L.st.root p1) → CanLk σ.L.st u w → (σ.L.st.tT w).static = true → LinkS σ.L.st u w σ' → σ'.cnt = σ.cnt → StepR lim σ p1 p2 stk (.go stk σ')
  | copyl (S1 : St) (m : Nat) (fr : List Nat) (σ' : Sto) : σ.L.st.kind (σ.L.st.root p1) = 6 → σ.L.st.kind (σ.L.st.root p2) ≠ 6 → (σ.L.st.tT (σ.L.st.root p2)).static = false → (σ.L.st.tT (σ.L.st.root p2)).has (σ.L.st.root p1) = false →
      CpyOK σ.L.st S1 (σ.L.st.root p1) (σ.L.st.root p2) m fr → LinkS S1 (σ.L.st.root p1) m σ' → σ'.cnt = σ.cnt + (fr.length + 1 : Nat) → StepR lim σ p1 p2 stk (.go (fr.zip (σ.L.st.kids (σ.L.st.root p2)) ++ stk) σ')
  | copyr (S1 : St) (m : Nat) (fr : List Nat) (σ' : Sto) : σ.L.st.kind (σ.L.st.root p2) = 6 → σ.L.st.kind (σ.L.st.root p1) ≠ 6 → (σ.L.st.tT (σ.L.st.root p1)).static = false → (σ.L.st.tT (σ.L.st.root p1)).has (σ.L.st.root p2) = false →
      CpyOK σ.L.st S1 (σ.L.st.root p2) (σ.L.st.root p1) m fr → LinkS S1 (σ.L.st.root p2) m σ' → σ'.cnt = σ.cnt + (fr.length + 1 : Nat) → StepR lim σ p1 p2 stk (.go ((σ.L.st.kids (σ.L.st.root p1)).zip fr ++ stk) σ')
  | kids : σ.L.st.root p1 ≠ σ.L.st.root p2 → σ.L.st.kind (σ.L.st.root p1) = σ.L.st.kind (σ.L.st.root p2) → σ.L.st.kind (σ.L.st.root p1) ≠ 6 → σ.L.st.root p1 ≠ 4 → σ.L.st.root p2 ≠ 4 → StepR lim σ p1 p2 stk (.go ((σ.L.st.kids (σ.L.st.root p1)).zip (σ.L.st.kids (σ.L.st.root p2)) ++ stk) σ)
  | clash : σ.L.st.kind (σ.L.st.root p1) ≠ σ.L.st.kind (σ.L.st.root p2) → σ.L.st.kind (σ.L.st.root p1) ≠ 6 → σ.L.st.kind (σ.L.st.root p2) ≠ 6 → σ.L.st.root p1 ≠ 4 → σ.L.st.root p2 ≠ 4 → StepR lim σ p1 p2 stk (.stop (σ.L.st.kind (σ.L.st.root p1)) (σ.L.st.kind (σ.L.st.root p2)) 4 σ)
  | loop (u w : Nat) (σ' : Sto) : (u = σ.L.st.root p1 ∧ w = σ.L.st.root p2) ∨ (u = σ.L.st.root p2 ∧ w = σ.L.st.root p1) → u ≠ w → σ.L.st.kind u = 6 → (σ.L.st.tT w).has u = true → GoodS σ' → σ'.L.st = σ.L.st → σ'.cnt = σ.cnt → StepR lim σ p1 p2 stk (.stop 0 0 5 σ')
  | limit (σ' : Sto) : (σ.L.st.tT (σ.L.st.root p1)).static = false ∨ (σ.L.st.tT (σ.L.st.root p2)).static = false → lim ≤ σ.cnt + 2 → StepR lim σ p1 p2 stk (.stop 0 0 7 σ')
theorem step_cases {lim : Int} {σ : Sto} (h : GoodS σ) {p : Nat × Nat} (hp : p.1 < σ.L.length ∧ p.2 < σ.L.length) (stk : List (Nat × Nat)) : StepR lim σ p.1 p.2 stk (stepS lim p stk σ) := by
  have hw := h.si.wf
  have hp1 : p.1 < σ.L.st.length := by rw [Mem.st_len]; exact hp.1
  have hp2 : p.2 < σ.L.st.length := by rw [Mem.st_len]; exact hp.2
  have hx' := hw.root_lt p.1 hp1
  have hy' := hw.root_lt p.2 hp2
  have hx : σ.L.st.root p.1 < σ.L.length := by rwa [Mem.st_len] at hx'
  have hy : σ.L.st.root p.2 < σ.L.length := by rwa [Mem.st_len] at hy'
  have ex := hw.root_root p.1
  have ey := hw.root_root p.2
  unfold stepS
  simp only
  split
  · rename_i e; exact .eq e
  rename_i hne
  split
  · rename_i e
    obtain ⟨a, b⟩ := Sto.low_ok h hy (lv := 0) (Int.le_refl _)
    exact .dyn _ _ (.inl ⟨e, rfl⟩) a b rfl
  rename_i hx4
  split
  · rename_i e
    obtain ⟨a, b⟩ := Sto.low_ok h hx (lv := 0) (Int.le_refl _)
    exact .dyn _ _ (.inr ⟨e, rfl⟩) a b rfl
  rename_i hy4
  split
  · rename_i h6
    have hb := become_cases (lim := lim) h hx hy ex ey h6 (fun e => hne e.symm) hy4
    generalize σ.become lim (σ.L.st.root p.1) (σ.L.st.root p.2) = q at hb
    cases hb with
    | link σ' c hs hl hc => exact .link _ _ σ' (.inl ⟨rfl, rfl⟩) c hs hl hc
    | copy S1 m fr σ' k6 hs hh cp hl hc =>
      have e := hl.ext cp.wf cp.can
      have e1 : σ'.L.st.kids m = fr := by rw [e.kids m (by rw [cp.len]; omega)]; exact cp.kids
      have e2 : σ'.L.st.kids (σ.L.st.root p.2) = σ.L.st.kids (σ.L.st.root p.2) := by
        have := cp.ext.len
        rw [e.kids _ (by omega), cp.ext.kids _ hy']
      simp only [e1, e2]
      exact .copyl S1 m fr σ' h6 k6 hs hh cp hl hc
    | loop σ' hh hg hst hc => exact .loop _ _ σ' (.inl ⟨rfl, rfl⟩) hne h6 hh hg hst hc
    | limit σ' hs hl => exact .limit σ' (.inr hs) hl
  rename_i h61
  split
  · rename_i h6
    have hb := become_cases (lim := lim) h hy hx ey ex h6 hne hx4
    generalize σ.become lim (σ.L.st.root p.2) (σ.L.st.root p.1) = q at hb
    cases hb with
    | link σ' c hs hl hc => exact .link _ _ σ' (.inr ⟨rfl, rfl⟩) c hs hl hc
    | copy S1 m fr σ' k6 hs hh cp hl hc =>
      have e := hl.ext cp.wf cp.can
      have e1 : σ'.L.st.kids m = fr := by rw [e.kids m (by rw [cp.len]; omega)]; exact cp.kids
      have e2 : σ'.L.st.kids (σ.L.st.root p.1) = σ.L.st.kids (σ.L.st.root p.1) := by
        have := cp.ext.len
        rw [e.kids _ (by omega), cp.ext.kids _ hx']
      simp only [e1, e2]
      exact .copyr S1 m fr σ' h6 k6 hs hh cp hl hc
    | loop σ' hh hg hst hc => exact .loop _ _ σ' (.inr ⟨rfl, rfl⟩) (fun e => hne e.symm) h6 hh hg hst hc
    | limit σ' hs hl => exact .limit σ' (.inl hs) hl
  rename_i h62
  split
  · rename_i hk; exact .clash hk h61 h62 hx4 hy4
  · rename_i hk; exact .kids hne (Decidable.not_not.1 hk) h61 hx4 hy4

end Go.Proofs.Ytdngjamjccjlmaa
