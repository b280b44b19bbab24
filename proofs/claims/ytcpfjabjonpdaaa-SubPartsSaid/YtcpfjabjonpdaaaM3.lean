/- Plain laws: below, agree, meet. No condition. -/
import Derived.Test.YtcpfjabjonpdaaaM2
set_option linter.unusedSimpArgs false
set_option linter.unusedVariables false
namespace Go.Proofs.Ytcpfjabjonpdaaa
open Go Go.Ab

theorem kidmem {t : Ty} {i : Nat} (h : i < t.kids.length) : t.kid i ∈ t.kids := by simp [h, Ty.kid]

theorem Ty.ext' {a b : Ty} (h : a.kind = b.kind) (hn : a.num = b.num) (hl : b.kids.length = a.kids.length) (hk : ∀ i, i < a.kids.length → a.kid i = b.kid i) : a = b := by
  cases a with | mk k n l => cases b with | mk k' n' l' =>
    simp only [Ty.kind, Ty.num, Ty.kids, Ty.kid] at *
    subst h; subst hn
    have : l = l' := List.ext_getElem hl.symm fun i h1 h2 => by
      have := hk i h1
      simpa [h1, h2] using this
    rw [this]

theorem same_refl : ∀ t : Ty, same t t = true := Ty.ind fun t ih => by
  rw [same_eq, allN_true fun i hi => ih _ (kidmem hi)]; simp
theorem same_true {a b : Ty} : same a b = true ↔ a = b := by
  constructor
  · refine Ty.ind (p := fun a => ∀ b, same a b = true → a = b) (fun a ih b h => ?_) a b
    rw [same_eq] at h
    simp only [Bool.and_eq_true, decide_eq_true_eq] at h
    obtain ⟨⟨⟨h1, h2⟩, h3⟩, h4⟩ := h
    exact Ty.ext' h1 h2 h3.symm fun i hi => ih _ (kidmem hi) _ (allN_iff.1 h4 i hi)
  · rintro rfl; exact same_refl a
theorem same_dec [DecidableEq Ty] (a b : Ty) : same a b = decide (a = b) := by
  by_cases h : a = b
  · subst h; simp [same_refl]
  · simp only [h, decide_false]; rw [← Bool.not_eq_true, same_true]; exact h
theorem same_comm (a b : Ty) : same a b = same b a := by
  rw [Bool.eq_iff_iff, same_true, same_true]; exact ⟨Eq.symm, Eq.symm⟩

theorem below_iff {a b : Ty} : below a b = true ↔ b.kind = 5 ∨ (b.kind ≠ 5 ∧ a.kind = b.kind ∧ a.num = b.num ∧ ∀ i, i < a.kids.length → below (a.kid i) (b.kid i) = true) := by
  rw [below_eq]
  by_cases h5 : b.kind = 5
  · simp [h5]
  · by_cases hk : a.kind = b.kind
    · by_cases hn : a.num = b.num
      · simp [h5, hk, hn, allN_iff]
      · simp [h5, hk, hn]
    · simp [h5, hk]

theorem below_refl : ∀ t : Ty, below t t = true := Ty.ind fun t ih => by
  rw [below_iff]
  by_cases h5 : t.kind = 5
  · exact .inl h5
  · exact .inr ⟨h5, rfl, rfl, fun i hi => ih _ (kidmem hi)⟩
theorem below_dyn (t : Ty) {d : Ty} (h : d.kind = 5) : below t d = true := below_iff.2 (.inl h)

theorem below_trans : ∀ {a b c : Ty}, right a = true → right b = true → right c = true → below a b = true → below b c = true → below a c = true := by
  intro a
  refine Ty.ind (p := fun a => ∀ {b c : Ty}, right a = true → right b = true → right c = true → below a b = true → below b c = true → below a c = true) (fun a ih b c ha hb hc h1 h2 => ?_) a
  rw [below_iff] at h1 h2 ⊢
  rcases h2 with h2 | ⟨h2, h3, h4, h5⟩
  · exact .inl h2
  · rcases h1 with h1 | ⟨h1, k3, k4, k5⟩
    · exact .inl (h3 ▸ h1)
    · refine .inr ⟨h2, k3.trans h3, k4.trans h4, fun i hi => ?_⟩
      have e1 := right_len ha hb k3
      have e2 := right_len hb hc h3
      exact ih _ (kidmem hi) (right_kid ha hi) (right_kid hb (by omega)) (right_kid hc (by omega)) (k5 i hi) (h5 i (by omega))

theorem dyn_eq {t : Ty} (h : right t = true) (hk : t.kind = 5) : t = dynT := by
  have h1 := right_num h (by omega)
  have h2 : t.kids = [] := by
    rcases right_arity h with h | h | h
    · exact h.2
    · omega
    · omega
  cases t with | mk k n l => simp only [Ty.kind, Ty.num, Ty.kids] at *; subst hk; subst h1; subst h2; rfl

theorem below_anti : ∀ {a b : Ty}, right a = true → right b = true → below a b = true → below b a = true → a = b := by
  intro a
  refine Ty.ind (p := fun a => ∀ {b : Ty}, right a = true → right b = true → below a b = true → below b a = true → a = b) (fun a ih b ha hb h1 h2 => ?_) a
  rw [below_iff] at h1 h2
  rcases h1 with h1 | ⟨h1, k3, k4, k5⟩
  · rcases h2 with h2 | ⟨h2, h3, _⟩
    · rw [dyn_eq ha h2, dyn_eq hb h1]
    · omega
  · rcases h2 with h2 | ⟨h2, h3, h4, h5⟩
    · omega
    · have e1 := right_len ha hb k3
      exact Ty.ext' k3 k4 e1 fun i hi => ih _ (kidmem hi) (right_kid ha hi) (right_kid hb (by omega)) (k5 i hi) (h5 i (by omega))

/-! Closed types. -/
theorem without_kid {k : Int} {t : Ty} (h : without k t = true) {i : Nat} (hi : i < t.kids.length) : without k (t.kid i) = true := by
  rw [without_eq, Bool.and_eq_true] at h
  exact allN_iff.1 h.2 i hi
theorem without_kind {k : Int} {t : Ty} (h : without k t = true) : t.kind ≠ k := by
  rw [without_eq, Bool.and_eq_true, decide_eq_true_eq] at h; exact h.1

theorem agree_iff {a b : Ty} : agree a b = true ↔ (a.kind = 5 ∧ without 6 b = true) ∨ (a.kind ≠ 5 ∧ b.kind = 5 ∧ without 6 a = true) ∨ (a.kind ≠ 5 ∧ b.kind ≠ 5 ∧ a.kind = b.kind ∧ a.num = b.num ∧ ∀ i, i < a.kids.length → agree (a.kid i) (b.kid i) = true) := by
  rw [agree_eq]
  by_cases ha : a.kind = 5
  · simp [ha]
  · by_cases hb : b.kind = 5
    · simp [ha, hb]
    · by_cases hk : a.kind = b.kind
      · by_cases hn : a.num = b.num
        · simp [ha, hb, hk, hn, allN_iff]
        · simp [ha, hb, hk, hn]
      · simp [ha, hb, hk]

theorem agree_symm : ∀ {a b : Ty}, right a = true → right b = true → agree a b = true → agree b a = true := by
  intro a
  refine Ty.ind (p := fun a => ∀ {b : Ty}, right a = true → right b = true → agree a b = true → agree b a = true) (fun a ih b ha hb h => ?_) a
  rw [agree_iff] at h ⊢
  rcases h with ⟨h1, h2⟩ | ⟨h1, h2, h3⟩ | ⟨h1, h2, h3, h4, h5⟩
  · by_cases hb5 : b.kind = 5
    · refine .inl ⟨hb5, ?_⟩; rw [dyn_eq ha h1]; rfl
    · exact .inr (.inl ⟨hb5, h1, h2⟩)
  · exact .inl ⟨h2, h3⟩
  · have e1 := right_len ha hb h3
    exact .inr (.inr ⟨h2, h1, h3.symm, h4.symm, fun i hi => ih _ (kidmem (by omega)) (right_kid ha (by omega)) (right_kid hb hi) (h5 i (by omega))⟩)
theorem agree_comm {a b : Ty} (ha : right a = true) (hb : right b = true) : agree a b = agree b a := by
  rw [Bool.eq_iff_iff]; exact ⟨agree_symm ha hb, agree_symm hb ha⟩
theorem agree_refl : ∀ {a : Ty}, right a = true → agree a a = true := by
  intro a
  refine Ty.ind (p := fun a => right a = true → agree a a = true) (fun a ih ha => ?_) a
  rw [agree_iff]
  by_cases h5 : a.kind = 5
  · refine .inl ⟨h5, ?_⟩; rw [dyn_eq ha h5]; rfl
  · exact .inr (.inr ⟨h5, h5, rfl, rfl, fun i hi => ih _ (kidmem hi) (right_kid ha hi)⟩)

/-! The meet. -/
theorem mk_kid (k n : Int) (m : Nat) (g : Nat → Ty) {i : Nat} (hi : i < m) : (Ty.mk k n ((List.range m).map g)).kid i = g i := by
  simp [Ty.kid, Ty.kids, hi]
theorem mk_len (k n : Int) (m : Nat) (g : Nat → Ty) : (Ty.mk k n ((List.range m).map g)).kids.length = m := by simp [Ty.kids]

theorem meet_dyn_l {a b : Ty} (h : a.kind = 5) : meet a b = b := by rw [meet_eq]; simp [h]
theorem meet_dyn_r {a b : Ty} (h1 : a.kind ≠ 5) (h : b.kind = 5) : meet a b = a := by rw [meet_eq]; simp [h1, h]
theorem meet_same {a b : Ty} (ha : right a = true) (h1 : a.kind ≠ 5) (h2 : b.kind ≠ 5) : (meet a b).kind = a.kind ∧ (meet a b).num = a.num ∧ (meet a b).kids.length = a.kids.length ∧ ∀ i, i < a.kids.length → (meet a b).kid i = meet (a.kid i) (b.kid i) := by
  rw [meet_eq]
  by_cases hk : a.kids = []
  · simp [h1, h2, hk]
  · have hn : a.num = 0 := by
      refine right_num ha fun h6 => hk ?_
      rcases right_arity ha with h | h | h
      · exact h.2
      · omega
      · omega
    simp only [h1, h2, hk, if_false, or_self]
    exact ⟨rfl, hn.symm, mk_len _ _ _ _, fun i hi => mk_kid _ _ _ _ hi⟩

theorem right_mk {t : Ty} (hk : okN t = true) (h : ∀ i, i < t.kids.length → right (t.kid i) = true) : right t = true := by
  rw [right_eq, hk, allN_true h]; rfl
theorem right_okN {t : Ty} (h : right t = true) : okN t = true := by rw [right_eq, Bool.and_eq_true] at h; exact h.1
theorem okN_of {a b : Ty} (h1 : b.kind = a.kind) (h2 : b.num = a.num) (h3 : b.kids.length = a.kids.length) (h : okN a = true) : okN b = true := by
  simp only [okN, h1, h2, h3] at h ⊢; exact h

theorem meet_right : ∀ {a b : Ty}, right a = true → right b = true → agree a b = true → right (meet a b) = true := by
  intro a
  refine Ty.ind (p := fun a => ∀ {b : Ty}, right a = true → right b = true → agree a b = true → right (meet a b) = true) (fun a ih b ha hb h => ?_) a
  rw [agree_iff] at h
  rcases h with ⟨h1, h2⟩ | ⟨h1, h2, h3⟩ | ⟨h1, h2, h3, h4, h5⟩
  · rw [meet_dyn_l h1]; exact hb
  · rw [meet_dyn_r h1 h2]; exact ha
  · obtain ⟨k1, k2, k3, k4⟩ := meet_same ha h1 h2
    have e1 := right_len ha hb h3
    refine right_mk (okN_of k1 k2 k3 (right_okN ha)) fun i hi => ?_
    rw [k3] at hi
    rw [k4 i hi]
    exact ih _ (kidmem hi) (right_kid ha hi) (right_kid hb (by omega)) (h5 i hi)

theorem meet_comm : ∀ {a b : Ty}, right a = true → right b = true → agree a b = true → meet a b = meet b a := by
  intro a
  refine Ty.ind (p := fun a => ∀ {b : Ty}, right a = true → right b = true → agree a b = true → meet a b = meet b a) (fun a ih b ha hb h => ?_) a
  rw [agree_iff] at h
  rcases h with ⟨h1, h2⟩ | ⟨h1, h2, h3⟩ | ⟨h1, h2, h3, h4, h5⟩
  · rw [meet_dyn_l h1]
    by_cases hb5 : b.kind = 5
    · rw [meet_dyn_l hb5, dyn_eq ha h1, dyn_eq hb hb5]
    · rw [meet_dyn_r hb5 h1]
  · rw [meet_dyn_r h1 h2, meet_dyn_l h2]
  · obtain ⟨k1, k2, k3, k4⟩ := meet_same (b := b) ha h1 h2
    obtain ⟨g1, g2, g3, g4⟩ := meet_same (b := a) hb h2 h1
    have e1 := right_len ha hb h3
    refine Ty.ext' (by rw [k1, g1, h3]) (by rw [k2, g2, h4]) (by rw [k3, g3, e1]) fun i hi => ?_
    rw [k3] at hi
    rw [k4 i hi, g4 i (by omega)]
    exact ih _ (kidmem hi) (right_kid ha hi) (right_kid hb (by omega)) (h5 i hi)

theorem meet_idem : ∀ {a : Ty}, right a = true → meet a a = a := by
  intro a
  refine Ty.ind (p := fun a => right a = true → meet a a = a) (fun a ih ha => ?_) a
  by_cases h5 : a.kind = 5
  · rw [meet_dyn_l h5]
  · obtain ⟨k1, k2, k3, k4⟩ := meet_same (b := a) ha h5 h5
    refine Ty.ext' k1 k2 k3.symm fun i hi => ?_
    rw [k3] at hi
    rw [k4 i hi, ih _ (kidmem hi) (right_kid ha hi)]

/-- The meet is below the first one. -/
theorem meet_below_l : ∀ {a b : Ty}, right a = true → right b = true → agree a b = true → below (meet a b) a = true := by
  intro a
  refine Ty.ind (p := fun a => ∀ {b : Ty}, right a = true → right b = true → agree a b = true → below (meet a b) a = true) (fun a ih b ha hb h => ?_) a
  rw [agree_iff] at h
  rcases h with ⟨h1, h2⟩ | ⟨h1, h2, h3⟩ | ⟨h1, h2, h3, h4, h5⟩
  · exact below_dyn _ h1
  · rw [meet_dyn_r h1 h2]; exact below_refl a
  · obtain ⟨k1, k2, k3, k4⟩ := meet_same (b := b) ha h1 h2
    have e1 := right_len ha hb h3
    refine below_iff.2 (.inr ⟨h1, k1, k2, fun i hi => ?_⟩)
    rw [k3] at hi
    rw [k4 i hi]
    exact ih _ (kidmem hi) (right_kid ha hi) (right_kid hb (by omega)) (h5 i hi)
theorem meet_below_r {a b : Ty} (ha : right a = true) (hb : right b = true) (h : agree a b = true) : below (meet a b) b = true := by
  rw [meet_comm ha hb h]; exact meet_below_l hb ha (agree_symm ha hb h)

/-- What is below both is below the meet; and then closed types agree. -/
theorem below_meet : ∀ {a b c : Ty}, right a = true → right b = true → right c = true → without 6 a = true → without 6 b = true → below c a = true → below c b = true → agree a b = true ∧ below c (meet a b) = true := by
  intro a
  refine Ty.ind (p := fun a => ∀ {b c : Ty}, right a = true → right b = true → right c = true → without 6 a = true → without 6 b = true → below c a = true → below c b = true → agree a b = true ∧ below c (meet a b) = true) (fun a ih b c ha hb hc wa wb h1 h2 => ?_) a
  by_cases ha5 : a.kind = 5
  · exact ⟨agree_iff.2 (.inl ⟨ha5, wb⟩), by rw [meet_dyn_l ha5]; exact h2⟩
  · by_cases hb5 : b.kind = 5
    · exact ⟨agree_iff.2 (.inr (.inl ⟨ha5, hb5, wa⟩)), by rw [meet_dyn_r ha5 hb5]; exact h1⟩
    · rcases below_iff.1 h1 with h | ⟨_, k1, k2, k3⟩
      · exact absurd h ha5
      · rcases below_iff.1 h2 with h | ⟨_, g1, g2, g3⟩
        · exact absurd h hb5
        · have e1 := right_len hc ha k1
          have e2 := right_len hc hb g1
          have key : ∀ i, i < a.kids.length → agree (a.kid i) (b.kid i) = true ∧ below (c.kid i) (meet (a.kid i) (b.kid i)) = true := fun i hi =>
            ih _ (kidmem hi) (right_kid ha hi) (right_kid hb (by omega)) (right_kid hc (by omega)) (without_kid wa hi) (without_kid wb (by omega)) (k3 i (by omega)) (g3 i (by omega))
          refine ⟨agree_iff.2 (.inr (.inr ⟨ha5, hb5, k1.symm.trans g1, k2.symm.trans g2, fun i hi => (key i hi).1⟩)), ?_⟩
          obtain ⟨m1, m2, m3, m4⟩ := meet_same (b := b) ha ha5 hb5
          refine below_iff.2 (.inr ⟨by rw [m1]; exact ha5, by rw [m1]; exact k1, by rw [m2]; exact k2, fun i hi => ?_⟩)
          rw [m4 i (by omega)]
          exact (key i (by omega)).2
theorem meet_greatest {a b c : Ty} (ha : right a = true) (hb : right b = true) (hc : right c = true) (wa : without 6 a = true) (wb : without 6 b = true) (h : agree a b = true) : (below c a && below c b) = below c (meet a b) := by
  rw [Bool.eq_iff_iff, Bool.and_eq_true]
  have hm := meet_right ha hb h
  exact ⟨fun h1 => (below_meet ha hb hc wa wb h1.1 h1.2).2, fun h1 => ⟨below_trans hc hm ha h1 (meet_below_l ha hb h), below_trans hc hm hb h1 (meet_below_r ha hb h)⟩⟩

end Go.Proofs.Ytcpfjabjonpdaaa
