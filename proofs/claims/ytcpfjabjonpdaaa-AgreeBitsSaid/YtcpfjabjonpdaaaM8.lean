/- Agreement and meets: further laws. No condition. -/
import Derived.Test.YtcpfjabjonpdaaaF9
set_option linter.unusedSimpArgs false
set_option linter.unusedVariables false
namespace Go.Proofs.Ytcpfjabjonpdaaa
open Go Go.Ab

theorem agree_kids {a b : Ty} (h5 : a.kind ≠ 5) (h5' : b.kind ≠ 5) : agree a b = true ↔ a.kind = b.kind ∧ a.num = b.num ∧ ∀ i, i < a.kids.length → agree (a.kid i) (b.kid i) = true := by
  rw [agree_iff]; simp [h5, h5']

theorem agree_two {k : Int} {a b c d : Ty} (h : k ≠ 5) : agree (twoT k a b) (twoT k c d) = (agree a c && agree b d) := by
  rw [agree_eq]
  simp [twoT, Ty.kind, Ty.num, Ty.kids, Ty.kid, h, allN_succ, allN_zero, List.length_cons]
theorem agree_list {a c : Ty} : agree (listT a) (listT c) = agree a c := by
  rw [agree_eq]
  simp [listT, Ty.kind, Ty.num, Ty.kids, Ty.kid, allN_succ, allN_zero, List.length_cons]
theorem meet_two {k : Int} {a b c d : Ty} (h : k ≠ 5) : meet (twoT k a b) (twoT k c d) = twoT k (meet a c) (meet b d) := by
  rw [meet_eq]
  simp [twoT, Ty.kind, Ty.kids, Ty.kid, h, List.range_succ]
theorem meet_list {a c : Ty} : meet (listT a) (listT c) = listT (meet a c) := by
  rw [meet_eq]
  simp [listT, Ty.kind, Ty.kids, Ty.kid, List.range_succ]

theorem without_meet : ∀ {a b : Ty}, right a = true → right b = true → agree a b = true → (without 6 a = true → without 6 b = true → without 6 (meet a b) = true) ∧ (without 5 a = true → without 5 (meet a b) = true ∧ meet a b = a) := by
  refine fun {a} {b} => ?_
  induction a using Ty.ind generalizing b with
  | h a ih =>
    intro ha hb h
    rcases agree_iff.1 h with ⟨h1, h2⟩ | ⟨h1, h2, h3⟩ | ⟨h1, h2, hk, hn, hkid⟩
    · rw [meet_dyn_l h1]
      exact ⟨fun _ h => h, fun h => absurd h1 (without_kind h)⟩
    · rw [meet_dyn_r h1 h2]
      exact ⟨fun h _ => h, fun h => ⟨h, rfl⟩⟩
    · have hlen := right_len ha hb hk
      obtain ⟨m1, m2, m3, m4⟩ := meet_same (b := b) ha h1 h2
      refine ⟨fun wa wb => ?_, fun wa => ?_⟩
      · rw [without_eq, Bool.and_eq_true, decide_eq_true_eq, allN_iff, m3, m1]
        refine ⟨without_kind wa, fun i hi => ?_⟩
        rw [m4 i hi]
        exact (ih _ (kidmem hi) (right_kid ha hi) (right_kid hb (hlen.symm ▸ hi)) (hkid i hi)).1 (without_kid wa hi) (without_kid wb (hlen.symm ▸ hi))
      · have key : meet a b = a := by
          refine (Ty.ext' m1.symm m2.symm m3 fun i hi => ?_).symm
          rw [m4 i hi]
          exact ((ih _ (kidmem hi) (right_kid ha hi) (right_kid hb (hlen.symm ▸ hi)) (hkid i hi)).2 (without_kid wa hi)).2.symm
        exact ⟨by rw [key]; exact wa, key⟩

theorem nodesL_le {l m : List Ty} (hl : l.length ≤ m.length) (h : ∀ i, i < l.length → nodes (l.getD i default) ≤ nodes (m.getD i default)) : nodesL l ≤ nodesL m := by
  induction l generalizing m with
  | nil => simp [nodesL]
  | cons x l ih =>
    cases m with
    | nil => simp at hl
    | cons y m =>
      have h0 := h 0 (by simp)
      have h1 := ih (m := m) (by simpa using hl) fun i hi => by simpa using h (i + 1) (by simpa using hi)
      simp at h0
      simp [nodesL]; omega

theorem meet_nodes : ∀ {a b : Ty}, right a = true → right b = true → agree a b = true → nodes a ≤ nodes (meet a b) := by
  refine fun {a} {b} => ?_
  induction a using Ty.ind generalizing b with
  | h a ih =>
    intro ha hb h
    rcases agree_iff.1 h with ⟨h1, h2⟩ | ⟨h1, h2, h3⟩ | ⟨h1, h2, hk, hn, hkid⟩
    · rw [meet_dyn_l h1, dyn_eq ha h1]
      exact nodes_pos b
    · rw [meet_dyn_r h1 h2]; exact Nat.le_refl _
    · have hlen := right_len ha hb hk
      obtain ⟨m1, m2, m3, m4⟩ := meet_same (b := b) ha h1 h2
      rw [nodes_eq, nodes_eq (meet a b)]
      refine Nat.add_le_add_left (nodesL_le (Nat.le_of_eq m3.symm) fun i hi => ?_) 1
      have := m4 i hi
      simp only [Ty.kid] at this
      rw [this]
      exact ih _ (kidmem hi) (right_kid ha hi) (right_kid hb (hlen.symm ▸ hi)) (hkid i hi)
theorem meet_nodes_r {a b : Ty} (ha : right a = true) (hb : right b = true) (h : agree a b = true) : nodes b ≤ nodes (meet a b) := by
  rw [meet_comm ha hb h]; exact meet_nodes hb ha (agree_symm ha hb h)

theorem nodesL_le2 {l m k : List Ty} (hl : l.length ≤ m.length) (hk : l.length ≤ k.length) (h : ∀ i, i < l.length → nodes (l.getD i default) ≤ nodes (m.getD i default) + nodes (k.getD i default)) : nodesL l ≤ nodesL m + nodesL k := by
  induction l generalizing m k with
  | nil => simp [nodesL]
  | cons x l ih =>
    cases m with
    | nil => simp at hl
    | cons y m =>
      cases k with
      | nil => simp at hk
      | cons z k =>
        have h0 := h 0 (by simp)
        have h1 := ih (m := m) (k := k) (by simpa using hl) (by simpa using hk) fun i hi => by simpa using h (i + 1) (by simpa using hi)
        simp at h0
        simp [nodesL]; omega
theorem meet_size : ∀ {a b : Ty}, right a = true → right b = true → agree a b = true → nodes (meet a b) ≤ nodes a + nodes b := by
  refine fun {a} {b} => ?_
  induction a using Ty.ind generalizing b with
  | h a ih =>
    intro ha hb h
    rcases agree_iff.1 h with ⟨h1, h2⟩ | ⟨h1, h2, h3⟩ | ⟨h1, h2, hk, hn, hkid⟩
    · rw [meet_dyn_l h1]; omega
    · rw [meet_dyn_r h1 h2]; omega
    · have hlen := right_len ha hb hk
      obtain ⟨m1, m2, m3, m4⟩ := meet_same (b := b) ha h1 h2
      rw [nodes_eq a, nodes_eq b, nodes_eq (meet a b)]
      have := nodesL_le2 (l := (meet a b).kids) (m := a.kids) (k := b.kids) (by omega) (by omega) fun i hi => by
        rw [m3] at hi
        have := m4 i hi
        simp only [Ty.kid] at this
        rw [this]
        exact ih _ (kidmem hi) (right_kid ha hi) (right_kid hb (hlen.symm ▸ hi)) (hkid i hi)
      omega

/-- What agrees agrees with its meet. -/
theorem agree_meet : ∀ {a b : Ty}, right a = true → right b = true → agree a b = true → agree a (meet a b) = true ∧ meet a (meet a b) = meet a b := by
  refine fun {a} {b} => ?_
  induction a using Ty.ind generalizing b with
  | h a ih =>
    intro ha hb h
    rcases agree_iff.1 h with ⟨h1, h2⟩ | ⟨h1, h2, h3⟩ | ⟨h1, h2, hk, hn, hkid⟩
    · rw [meet_dyn_l h1, meet_dyn_l h1]
      exact ⟨h, rfl⟩
    · rw [meet_dyn_r h1 h2]
      exact ⟨agree_refl ha, meet_idem ha⟩
    · have hlen := right_len ha hb hk
      obtain ⟨m1, m2, m3, m4⟩ := meet_same (b := b) ha h1 h2
      have hm5 : (meet a b).kind ≠ 5 := by rw [m1]; exact h1
      obtain ⟨n1, n2, n3, n4⟩ := meet_same (b := meet a b) ha h1 hm5
      have key := fun i hi => ih _ (kidmem hi) (right_kid ha hi) (right_kid hb (hlen.symm ▸ hi)) (hkid i hi)
      refine ⟨(agree_kids h1 hm5).2 ⟨m1.symm, m2.symm, fun i hi => ?_⟩, Ty.ext' (by rw [n1, m1]) (by rw [n2, m2]) (by rw [n3, m3]) fun i hi => ?_⟩
      · rw [m4 i hi]; exact (key i hi).1
      · rw [n3] at hi
        rw [n4 i hi, m4 i hi]; exact (key i hi).2
theorem agree_meet_r {a b : Ty} (ha : right a = true) (hb : right b = true) (h : agree a b = true) : agree (meet a b) b = true ∧ meet (meet a b) b = meet a b := by
  have hm := meet_right ha hb h
  have h' := agree_symm ha hb h
  have := agree_meet hb ha h'
  rw [← meet_comm ha hb h] at this
  exact ⟨agree_symm hb hm this.1, by rw [← meet_comm hb hm this.1]; exact this.2⟩

theorem agree_static : ∀ {a b : Ty}, right a = true → right b = true → without 5 a = true → without 5 b = true → (agree a b = true ↔ a = b) := by
  refine fun {a} {b} => ?_
  intro ha hb wa wb
  constructor
  · intro h
    have e1 := ((without_meet ha hb h).2 wa).2
    have e2 := ((without_meet hb ha (agree_symm ha hb h)).2 wb).2
    rw [← meet_comm ha hb h] at e2
    exact e1.symm.trans e2
  · rintro rfl; exact agree_refl ha

theorem agree_dyn_r {a : Ty} (ha : right a = true) : agree a dynT = without 6 a := by
  rw [agree_eq]
  by_cases h : a.kind = 5
  · have e := dyn_eq ha h
    rw [if_pos h]; subst e; rfl
  · rw [if_neg h, if_pos (show dynT.kind = 5 from rfl)]
theorem agree_dyn_l {a : Ty} : agree dynT a = without 6 a := by
  rw [agree_eq]; simp [dynT, Ty.kind]

theorem agree_apart {a b c d : Ty} {k l : Int} (hk : k ≠ 5) (hl : l ≠ 5) (h : k ≠ l) : agree (twoT k a b) (twoT l c d) = false := by
  rw [agree_eq]; simp [twoT, Ty.kind, hk, hl, h]

end Go.Proofs.Ytcpfjabjonpdaaa
