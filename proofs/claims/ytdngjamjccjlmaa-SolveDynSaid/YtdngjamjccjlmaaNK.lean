/- A variable that pairs do not reach stays as it is. No condition. -/
import Derived.Test.YtdngjamjccjlmaaPNc
set_option linter.unusedSimpArgs false
set_option linter.unusedVariables false
namespace Go.Proofs.Ytdngjamjccjlmaa
open Go Go.Ab

theorem has_putS {σ : Int → T} (k : Int) : ∀ a : T, (putS σ a).has k = true ↔ ∃ n, a.has n = true ∧ (σ n).has k = true := by
  intro a
  induction a with
  | var n =>
    simp only [putS, T.has, decide_eq_true_eq]
    exact ⟨fun h => ⟨n, rfl, h⟩, fun ⟨m, e, h⟩ => e ▸ h⟩
  | pair a b ih1 ih2 =>
    simp only [putS, T.has, Bool.or_eq_true, ih1, ih2]
    exact ⟨fun h => h.elim (fun ⟨n, a, b⟩ => ⟨n, .inl a, b⟩) fun ⟨n, a, b⟩ => ⟨n, .inr a, b⟩, fun ⟨n, h, b⟩ => h.elim (fun a => .inl ⟨n, a, b⟩) fun a => .inr ⟨n, a, b⟩⟩
  | fn a b ih1 ih2 =>
    simp only [putS, T.has, Bool.or_eq_true, ih1, ih2]
    exact ⟨fun h => h.elim (fun ⟨n, a, b⟩ => ⟨n, .inl a, b⟩) fun ⟨n, a, b⟩ => ⟨n, .inr a, b⟩, fun ⟨n, h, b⟩ => h.elim (fun a => .inl ⟨n, a, b⟩) fun a => .inr ⟨n, a, b⟩⟩
  | list a ih1 => simp only [putS, T.has, ih1]
  | base k => simp [putS, T.has]
  | dyn => simp [putS, T.has]
/-- A variable that is free, away from a link. -/
theorem LinkS.away {S : St} {x y : Nat} {σ' : Sto} (hw : Wf S) (c : CanLk S x y) (hl : LinkS S x y σ') {v : Nat} (hv : v ≠ x) (hy : (S.tT y).has v = false) : σ'.L.st.link v = S.link v ∧ ∀ n, n < S.length → (σ'.L.st.tT n).has v = (S.tT n).has v := by
  refine ⟨?_, fun n hn => ?_⟩
  · rw [hl.low.lv.link, St.link, St.nd_lk c.hx, if_neg hv]; rfl
  · rw [hl.tT, c.tT hw hn, Bool.eq_iff_iff, has_putS]
    constructor
    · rintro ⟨z, h1, h2⟩
      split at h2
      · rw [hy] at h2; cases h2
      · simp only [T.has, decide_eq_true_eq] at h2; subst h2; exact h1
    · intro h
      refine ⟨v, h, ?_⟩
      rw [if_neg (by omega)]
      simp [T.has]
def AwayP (S : St) (v : Nat) (stk : List (Nat × Nat)) : Prop := ∀ p ∈ stk, (S.tT p.1).has v = false ∧ (S.tT p.2).has v = false
theorem AwayP.to {S S' : St} {v : Nat} {stk : List (Nat × Nat)} (h : AwayP S v stk) (hl : Lt2 S.length stk) (he : ∀ n, n < S.length → (S'.tT n).has v = (S.tT n).has v) : AwayP S' v stk := fun p hp => by
  rw [he _ (hl p hp).1, he _ (hl p hp).2]; exact h p hp
theorem cpy_away {σ σ' : Sto} {S1 : St} {x y m : Nat} {fr : List Nat} (hw : Wf σ.L.st) (hy : y < σ.L.st.length) (ey : σ.L.st.root y = y) (cp : CpyOK σ.L.st S1 x y m fr) (hl : LinkS S1 x m σ') {v : Nat} (hv : v < σ.L.st.length) (hvx : v ≠ x) (hvy : (σ.L.st.tT y).has v = false) :
    σ'.L.st.link v = σ.L.st.link v ∧ (∀ n, n < σ.L.st.length → (σ'.L.st.tT n).has v = (σ.L.st.tT n).has v) ∧ (∀ f ∈ fr, (σ'.L.st.tT f).has v = false) ∧ ∀ k ∈ σ.L.st.kids y, (σ'.L.st.tT k).has v = false := by
  have hml : m < S1.length := by rw [cp.len]; omega
  have frv : ∀ f ∈ fr, (S1.tT f).has v = false := fun f hf => by
    obtain ⟨h1, _⟩ := cp.frs f hf
    rw [cp.tT_fr hf]
    simp only [T.has, decide_eq_false_iff_not]; omega
  have hm : (S1.tT m).has v = false := by
    have k := cp.kids
    rcases cp.two with ⟨a, _, e, _⟩ | ⟨a, b, _, e, _⟩
    · rw [e] at k frv
      rw [cp.wf.node1 hml cp.root k, T.has]; exact frv _ (by simp)
    · rw [e] at k frv
      rw [cp.wf.node2 hml cp.root k, mkB_has, frv _ (by simp), frv _ (by simp)]; rfl
  obtain ⟨a1, a2⟩ := hl.away cp.wf cp.can hvx hm
  have hle := cp.ext.len
  have old : ∀ n, n < σ.L.st.length → (σ'.L.st.tT n).has v = (σ.L.st.tT n).has v := fun n hn => by rw [a2 n (by omega), cp.tT n hn]
  refine ⟨?_, old, fun f hf => ?_, fun k hk => ?_⟩
  · rw [a1, St.link, cp.nd v hv]; rfl
  · obtain ⟨_, h2, _⟩ := cp.frs f hf
    rw [a2 f (by rw [cp.len]; omega)]; exact frv f hf
  · rw [old k (hw.kid_lt y k hk)]
    rcases cp.two with ⟨a, e, _⟩ | ⟨a, b, e, _⟩
    · rw [hw.node1 hy ey e, T.has] at hvy
      rw [e, List.mem_singleton] at hk
      rw [hk]; exact hvy
    · rw [hw.node2 hy ey e, mkB_has, Bool.or_eq_false_iff] at hvy
      rw [e] at hk
      simp only [List.mem_cons, List.not_mem_nil, or_false] at hk
      rcases hk with rfl | rfl
      · exact hvy.1
      · exact hvy.2
theorem zip_mem {l l' : List Nat} {q : Nat × Nat} (h : q ∈ l.zip l') : q.1 ∈ l ∧ q.2 ∈ l' := by
  obtain ⟨a, b⟩ := q
  exact List.of_mem_zip h
theorem run_away {lim : Int} {v : Nat} : ∀ (m : Nat) (stk : List (Nat × Nat)) (σ : Sto) (res : Int × Int × Int × Sto), GoodS σ → Lt2 σ.L.length stk → RunB lim m stk σ res → res.2.2.1 ≠ 7 → v < σ.L.length → σ.L.st.kind v = 6 → σ.L.st.link v = none → AwayP σ.L.st v stk →
    res.2.2.2.L.st.link v = none ∧ ∀ n, n < σ.L.length → (res.2.2.2.L.st.tT n).has v = (σ.L.st.tT n).has v := by
  intro m
  induction m with
  | zero =>
    intro stk σ res hg hlt hr he hv h6 hl ha
    cases stk with
    | nil => have e : res = (0, 0, 0, σ) := hr
             subst e; exact ⟨hl, fun _ _ => rfl⟩
    | cons p stk => exact hr.elim
  | succ m ih =>
    intro stk σ res hg hlt hr he hv h6 hl ha
    cases stk with
    | nil => have e : res = (0, 0, 0, σ) := hr
             subst e; exact ⟨hl, fun _ _ => rfl⟩
    | cons p stk =>
      obtain ⟨_, hr⟩ := hr
      have hw := hg.si.wf
      have hp := hlt p List.mem_cons_self
      have hp' : p.1 < σ.L.st.length ∧ p.2 < σ.L.st.length := by rw [Mem.st_len]; exact hp
      have hv' : v < σ.L.st.length := by rw [Mem.st_len]; exact hv
      have hlt' : Lt2 σ.L.length stk := fun q hq => hlt q (List.mem_cons_of_mem _ hq)
      have hlt'' : Lt2 σ.L.st.length stk := by rw [Mem.st_len]; exact hlt'
      have hap := ha p List.mem_cons_self
      have ha' : AwayP σ.L.st v stk := fun q hq => ha q (List.mem_cons_of_mem _ hq)
      have hkeep := step_keep (lim := lim) hg hp hlt'
      have hcase := step_cases (lim := lim) hg hp stk
      have hx1 := hw.root_lt _ hp'.1
      have hx2 := hw.root_lt _ hp'.2
      rw [← tT_rootq hw hp'.1, ← tT_rootq hw hp'.2] at hap
      have hll : σ.L.length = σ.L.st.length := (Mem.st_len _).symm
      have fin : ∀ (σ' : Sto) stk', GoodS σ' → Lt2 σ'.L.length stk' → RunB lim m stk' σ' res → Ext σ.L.st σ'.L.st → σ'.L.st.link v = none → (∀ n, n < σ.L.st.length → (σ'.L.st.tT n).has v = (σ.L.st.tT n).has v) → AwayP σ'.L.st v stk' →
          res.2.2.2.L.st.link v = none ∧ ∀ n, n < σ.L.length → (res.2.2.2.L.st.tT n).has v = (σ.L.st.tT n).has v := by
        intro σ' stk' h1 h2 h3 h4 h5 h6' h7
        have hle := h4.len
        rw [Mem.st_len, Mem.st_len] at hle
        obtain ⟨a, b⟩ := ih stk' σ' res h1 h2 h3 he (by omega) (by rw [h4.kind v hv']; exact h6) h5 h7
        exact ⟨a, fun n hn => by rw [b n (by omega), h6' n (by omega)]⟩
      have nev : ∀ u, u < σ.L.st.length → σ.L.st.kind u = 6 → σ.L.st.link u = none → (σ.L.st.tT u).has v = false → v ≠ u := fun u hu hk hlu hh e => by
        rw [hw.tT_free hu hk hlu, e] at hh
        simp [T.has] at hh
      generalize hst : stepS lim p stk σ = st at *
      cases hcase with
      | eq e => exact fin σ stk hkeep.1.good hkeep.2 hr (Ext.refl hw) hl (fun _ _ => rfl) ha'
      | dyn z σ' hz hg' hlow hcn =>
        exact fin σ' stk hkeep.1.good hkeep.2 hr (Ext.lv hg'.si.wf hlow.lv) (by rw [hlow.lv.link]; exact hl) (fun n _ => by rw [hlow.lv.tT]) fun q hq => by rw [hlow.lv.tT, hlow.lv.tT]; exact ha' q hq
      | link u w σ' huw c hs hl' hcn =>
        have hd : (σ.L.st.tT u).has v = false ∧ (σ.L.st.tT w).has v = false := by
          rcases huw with ⟨rfl, rfl⟩ | ⟨rfl, rfl⟩
          · exact hap
          · exact hap.symm
        obtain ⟨a1, a2⟩ := hl'.away hw c (nev u c.hx c.h6 c.lx hd.1) hd.2
        exact fin σ' stk hkeep.1.good hkeep.2 hr (hl'.ext hw c) (by rw [a1]; exact hl) a2 (ha'.to hlt'' a2)
      | copyl S1 n fr σ' k6 k6' hns hh cp hl' hcn =>
        obtain ⟨a1, a2, a3, a4⟩ := cpy_away hw hx2 (hw.root_root _) cp hl' hv' (nev _ hx1 k6 (hw.root_link _) hap.1) hap.2
        refine fin σ' _ hkeep.1.good hkeep.2 hr (cp.ext.trans (hl'.ext cp.wf cp.can)) (by rw [a1]; exact hl) a2 fun q hq => ?_
        rcases List.mem_append.1 hq with hq | hq
        · exact ⟨a3 _ (zip_mem hq).1, a4 _ (zip_mem hq).2⟩
        · exact ha'.to hlt'' a2 q hq
      | copyr S1 n fr σ' k6 k6' hns hh cp hl' hcn =>
        obtain ⟨a1, a2, a3, a4⟩ := cpy_away hw hx1 (hw.root_root _) cp hl' hv' (nev _ hx2 k6 (hw.root_link _) hap.2) hap.1
        refine fin σ' _ hkeep.1.good hkeep.2 hr (cp.ext.trans (hl'.ext cp.wf cp.can)) (by rw [a1]; exact hl) a2 fun q hq => ?_
        rcases List.mem_append.1 hq with hq | hq
        · exact ⟨a4 _ (zip_mem hq).1, a3 _ (zip_mem hq).2⟩
        · exact ha'.to hlt'' a2 q hq
      | kids hne hk h6' h41 h42 =>
        obtain ⟨klen, klo, khi⟩ := hw.kids_same hx1 hx2 hne hk h6'
        refine fin σ _ hkeep.1.good hkeep.2 hr (Ext.refl hw) hl (fun _ _ => rfl) fun q hq => ?_
        rcases List.mem_append.1 hq with hq | hq
        · rcases two_lists klen klo khi with ⟨a, c, e1, e2⟩ | ⟨a, b, c, d, e1, e2⟩
          · rw [hw.node1 hx1 (hw.root_root _) e1, hw.node1 hx2 (hw.root_root _) e2] at hap
            rw [e1, e2] at hq
            simp only [List.zip_cons_cons, List.zip_nil_right, List.mem_singleton] at hq
            subst hq
            exact hap
          · rw [hw.node2 hx1 (hw.root_root _) e1, hw.node2 hx2 (hw.root_root _) e2, mkB_has, mkB_has, Bool.or_eq_false_iff, Bool.or_eq_false_iff] at hap
            rw [e1, e2] at hq
            simp only [List.zip_cons_cons, List.zip_nil_right, List.mem_cons, List.not_mem_nil, or_false] at hq
            rcases hq with rfl | rfl
            · exact ⟨hap.1.1, hap.2.1⟩
            · exact ⟨hap.1.2, hap.2.2⟩
        · exact ha' q hq
      | clash hk h61 h62 h41 h42 =>
        have e : res = (_, _, 4, σ) := hr
        rw [e]; exact ⟨hl, fun _ _ => rfl⟩
      | loop u w σ' huw hne h6' hh hg' hst' hcn =>
        have e : res = (0, 0, 5, σ') := hr
        rw [e]; simp only [hst']; exact ⟨hl, fun _ _ => trivial⟩
      | limit σ' hns hl' =>
        have e : res = (0, 0, 7, σ') := hr
        exact absurd (show res.2.2.1 = 7 by rw [e]) he
theorem varsF_le : ∀ (a : T) (out : List Int), out.length ≤ (a.varsF out).length := by
  intro a
  induction a with
  | var n => intro out; simp only [T.varsF]; split <;> simp
  | pair a b ih1 ih2 => intro out; have := ih1 out; have := ih2 (a.varsF out); simp only [T.varsF]; omega
  | fn a b ih1 ih2 => intro out; have := ih1 out; have := ih2 (a.varsF out); simp only [T.varsF]; omega
  | list a ih1 => intro out; exact ih1 out
  | _ => intro out; exact Nat.le_refl _

end Go.Proofs.Ytdngjamjccjlmaa
