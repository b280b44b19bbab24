/- Plain laws: subtypes. No condition. -/
import Derived.Test.YtcpfjabjonpdaaaM5
import Derived.Test.YtcpfjabjonpdaaaM6
set_option linter.unusedSimpArgs false
set_option linter.unusedVariables false
namespace Go.Proofs.Ytcpfjabjonpdaaa
open Go Go.Ab

/-- The kids by places: contravariant at a function's first one. -/
theorem kidF_place {r : Int → Ty → Ty → Bool} {s : Int} {a b : Ty} (ha : right a = true) : kidF r s a (b.kid 0) (b.kid 1) = true ↔
    ∀ i, i < a.kids.length → if a.kind = 9 ∧ i = 0 then r (other s) (b.kid i) (a.kid i) = true else r s (a.kid i) (b.kid i) = true := by
  rw [kidF_iff ha]
  rcases right_arity ha with ⟨hk, hl⟩ | ⟨hk, hl⟩ | ⟨hk | hk, hl⟩
  · rw [hl]
    constructor
    · intro _ i hi; exact absurd hi (by simp)
    · intro _; exact ⟨fun h => by omega, fun h => by omega, fun h => by omega⟩
  · constructor
    · rintro ⟨_, _, h⟩ i hi
      obtain rfl : i = 0 := by omega
      rw [if_neg (by omega)]; exact h hk
    · intro h
      refine ⟨fun h => by omega, fun h => by omega, fun _ => ?_⟩
      have := h 0 (by omega)
      rwa [if_neg (by omega)] at this
  · constructor
    · rintro ⟨_, h, _⟩ i hi
      rw [if_neg (by omega)]
      rcases (show i = 0 ∨ i = 1 by omega) with rfl | rfl
      · exact (h hk).1
      · exact (h hk).2
    · intro h
      refine ⟨fun h => by omega, fun _ => ⟨?_, ?_⟩, fun h => by omega⟩
      · have := h 0 (by omega); rwa [if_neg (by omega)] at this
      · have := h 1 (by omega); rwa [if_neg (by omega)] at this
  · constructor
    · rintro ⟨h, _, _⟩ i hi
      rcases (show i = 0 ∨ i = 1 by omega) with rfl | rfl
      · rw [if_pos ⟨hk, rfl⟩]; exact (h hk).1
      · rw [if_neg (by omega)]; exact (h hk).2
    · intro h
      refine ⟨fun _ => ⟨?_, ?_⟩, fun h => by omega, fun h => by omega⟩
      · have := h 0 (by omega); rwa [if_pos ⟨hk, rfl⟩] at this
      · have := h 1 (by omega); rwa [if_neg (by omega)] at this

theorem kidF_dyn {r : Int → Ty → Ty → Bool} {s : Int} {a : Ty} (ha : right a = true) : kidF r s a dynT dynT = true ↔
    ∀ i, i < a.kids.length → if a.kind = 9 ∧ i = 0 then r (other s) dynT (a.kid i) = true else r s (a.kid i) dynT = true := by
  have key : kidF r s a dynT dynT = kidF r s a ((ground a).kid 0) ((ground a).kid 1) := by
    unfold kidF
    by_cases h9 : a.kind = 9
    · have hl := kids9 ha (.inl h9)
      rw [if_pos h9, if_pos h9, ground_kid (by omega), ground_kid (by omega)]
    · by_cases h7 : a.kind = 7
      · have hl := kids9 ha (.inr h7)
        rw [if_neg h9, if_neg h9, if_pos h7, if_pos h7, ground_kid (by omega), ground_kid (by omega)]
      · by_cases h8 : a.kind = 8
        · have hl := kids8 ha h8
          rw [if_neg h9, if_neg h9, if_neg h7, if_neg h7, if_pos h8, if_pos h8, ground_kid (by omega)]
        · simp [h9, h7, h8]
  rw [key, kidF_place ha]
  constructor
  · intro h i hi; have := h i hi; rwa [ground_kid hi] at this
  · intro h i hi; have := h i hi; rwa [ground_kid hi]

/-- What sb says, as a statement. -/
theorem sb_iff {s : Int} {a b : Ty} (ha : right a = true) (hb : right b = true) : sb s a b = true ↔
    (s = 0 ∧ b.kind = 5) ∨ (s = 1 ∧ a.kind = 5) ∨ (¬ (s = 0 ∧ b.kind = 5) ∧ b.kind = 5 ∧ a.kind ≠ 5 ∧ a.kind ≠ 6 ∧ ∀ i, i < a.kids.length → if a.kind = 9 ∧ i = 0 then sb (other s) dynT (a.kid i) = true else sb s (a.kid i) dynT = true) ∨
    (¬ (s = 0 ∧ b.kind = 5) ∧ ¬ (s = 1 ∧ a.kind = 5) ∧ a.kind = b.kind ∧ a.num = b.num ∧ ∀ i, i < a.kids.length → if a.kind = 9 ∧ i = 0 then sb (other s) (b.kid i) (a.kid i) = true else sb s (a.kid i) (b.kid i) = true) := by
  rw [sb_eq ha hb]
  by_cases h1 : s = 0 ∧ b.kind = 5
  · simp [h1]
  · by_cases h2 : s = 1 ∧ a.kind = 5
    · simp [h2]
    · have h12 : ¬ ((s = 0 ∧ b.kind = 5) ∨ (s = 1 ∧ a.kind = 5)) := by rintro (h | h); exact h1 h; exact h2 h
      rw [if_neg h12]
      by_cases h3 : b.kind = 5 ∧ a.kind ≠ 5
      · rw [if_pos h3, Bool.and_eq_true, decide_eq_true_eq, kidF_dyn ha]
        constructor
        · rintro ⟨h6, h⟩; exact .inr (.inr (.inl ⟨h1, h3.1, h3.2, h6, h⟩))
        · rintro (h | h | ⟨_, _, _, h6, h⟩ | ⟨_, _, h, _⟩)
          · exact absurd h h1
          · exact absurd h h2
          · exact ⟨h6, h⟩
          · omega
      · rw [if_neg h3]
        by_cases h4 : a.kind ≠ b.kind ∨ a.num ≠ b.num
        · rw [if_pos h4]
          constructor
          · intro h; cases h
          · rintro (h | h | ⟨_, h5, h6, _⟩ | ⟨_, _, h5, h6, _⟩)
            · exact absurd h h1
            · exact absurd h h2
            · exact absurd ⟨h5, h6⟩ h3
            · omega
        · rw [if_neg h4, kidF_place ha]
          constructor
          · intro h; exact .inr (.inr (.inr ⟨h1, h2, by omega, by omega, h⟩))
          · rintro (h | h | ⟨_, h5, h6, _⟩ | ⟨_, _, _, _, h⟩)
            · exact absurd h h1
            · exact absurd h h2
            · exact absurd ⟨h5, h6⟩ h3
            · exact h

theorem sb_refl : ∀ (a : Ty) (s : Int), sideOK s → right a = true → sb s a a = true := by
  refine Ty.ind fun a ih s hs ha => ?_
  rw [sb_iff ha ha]
  by_cases h1 : s = 0 ∧ a.kind = 5
  · exact .inl h1
  · by_cases h2 : s = 1 ∧ a.kind = 5
    · exact .inr (.inl h2)
    · refine .inr (.inr (.inr ⟨h1, h2, rfl, rfl, fun i hi => ?_⟩))
      split
      · exact ih _ (kidmem hi) _ (other_side hs) (right_kid ha hi)
      · exact ih _ (kidmem hi) _ hs (right_kid ha hi)

theorem sb2_iff {a b : Ty} (ha : right a = true) (hb : right b = true) : sb 2 a b = true ↔
    (b.kind = 5 ∧ a.kind ≠ 5 ∧ a.kind ≠ 6 ∧ ∀ i, i < a.kids.length → if a.kind = 9 ∧ i = 0 then sb 2 dynT (a.kid i) = true else sb 2 (a.kid i) dynT = true) ∨
    (a.kind = b.kind ∧ a.num = b.num ∧ ∀ i, i < a.kids.length → if a.kind = 9 ∧ i = 0 then sb 2 (b.kid i) (a.kid i) = true else sb 2 (a.kid i) (b.kid i) = true) := by
  rw [sb_iff ha hb, other_2]
  have h0 : ¬ ((2 : Int) = 0) := by decide
  have h1 : ¬ ((2 : Int) = 1) := by decide
  simp only [h0, h1, false_and, false_or, not_false_eq_true, true_and]

theorem sb2_dyn_only {a : Ty} (ha : right a = true) (h : sb 2 dynT a = true) : a = dynT := by
  rw [sb2_iff right_dyn ha] at h
  rcases h with ⟨h1, h2, _⟩ | ⟨h1, h2, _⟩
  · exact absurd rfl h2
  · exact dyn_eq ha h1.symm

theorem sb2_anti : ∀ (a b : Ty), right a = true → right b = true → sb 2 a b = true → sb 2 b a = true → a = b := by
  refine Ty.ind2 fun a b ih ha hb h1 h2 => ?_
  rw [sb2_iff ha hb] at h1
  rw [sb2_iff hb ha] at h2
  rcases h1 with ⟨b5, a5, _⟩ | ⟨hk, hn, h1⟩
  · rcases h2 with ⟨a5', _⟩ | ⟨hk, _⟩
    · exact absurd a5' a5
    · omega
  · rcases h2 with ⟨a5', b5, _⟩ | ⟨_, _, h2⟩
    · omega
    · have hl := right_len ha hb hk
      refine Ty.ext' hk hn hl fun i hi => ?_
      have e1 := nodes_kid' hi
      have e2 := nodes_kid' (t := b) (i := i) (by omega)
      have g1 := h1 i hi
      have g2 := h2 i (by omega)
      by_cases h9 : a.kind = 9 ∧ i = 0
      · rw [if_pos h9] at g1
        rw [if_pos ⟨by omega, h9.2⟩] at g2
        exact ih _ _ (by omega) (right_kid ha hi) (right_kid hb (by omega)) g2 g1
      · rw [if_neg h9] at g1
        rw [if_neg (fun h => h9 ⟨by omega, h.2⟩)] at g2
        exact ih _ _ (by omega) (right_kid ha hi) (right_kid hb (by omega)) g1 g2

/-- Transitivity of Sub: to c from a over b. -/
theorem sb2_trans : ∀ (b : Ty) {a c : Ty}, right a = true → right b = true → right c = true → (sb 2 a b = true → sb 2 b c = true → sb 2 a c = true) := by
  have key : ∀ (n : Nat) (a b c : Ty), nodes a + nodes b + nodes c ≤ n → right a = true → right b = true → right c = true → sb 2 a b = true → sb 2 b c = true → sb 2 a c = true := by
    intro n
    induction n with
    | zero => intro a b c hn; have := nodes_pos a; omega
    | succ n ih =>
      intro a b c hn ha hb hc h1 h2
      rw [sb2_iff ha hb] at h1
      rw [sb2_iff hb hc] at h2
      rw [sb2_iff ha hc]
      have pa := nodes_pos a
      have pb := nodes_pos b
      have pc := nodes_pos c
      rcases h1 with ⟨b5, a5, a6, h1⟩ | ⟨hk, hn', h1⟩
      · rcases h2 with ⟨c5, b5', _⟩ | ⟨hk2, _, _⟩
        · exact absurd b5 b5'
        · exact .inl ⟨by omega, a5, a6, h1⟩
      · have hl := right_len ha hb hk
        rcases h2 with ⟨c5, b5, b6, h2⟩ | ⟨hk2, hn2, h2⟩
        · refine .inl ⟨c5, by omega, by omega, fun i hi => ?_⟩
          have e1 := nodes_kid' hi
          have e2 := nodes_kid' (t := b) (i := i) (by omega)
          have g1 := h1 i hi
          have g2 := h2 i (by omega)
          by_cases h9 : a.kind = 9 ∧ i = 0
          · rw [if_pos h9] at g1 ⊢
            rw [if_pos ⟨by omega, h9.2⟩] at g2
            exact ih _ _ _ (by rw [nodes_dyn]; omega) right_dyn (right_kid hb (by omega)) (right_kid ha hi) g2 g1
          · rw [if_neg h9] at g1 ⊢
            rw [if_neg (fun h => h9 ⟨by omega, h.2⟩)] at g2
            exact ih _ _ _ (by rw [nodes_dyn]; omega) (right_kid ha hi) (right_kid hb (by omega)) right_dyn g1 g2
        · have hl2 := right_len hb hc hk2
          refine .inr ⟨by omega, by omega, fun i hi => ?_⟩
          have e1 := nodes_kid' hi
          have e2 := nodes_kid' (t := b) (i := i) (by omega)
          have e3 := nodes_kid' (t := c) (i := i) (by omega)
          have g1 := h1 i hi
          have g2 := h2 i (by omega)
          by_cases h9 : a.kind = 9 ∧ i = 0
          · rw [if_pos h9] at g1 ⊢
            rw [if_pos ⟨by omega, h9.2⟩] at g2
            exact ih _ _ _ (by omega) (right_kid hc (by omega)) (right_kid hb (by omega)) (right_kid ha hi) g2 g1
          · rw [if_neg h9] at g1 ⊢
            rw [if_neg (fun h => h9 ⟨by omega, h.2⟩)] at g2
            exact ih _ _ _ (by omega) (right_kid ha hi) (right_kid hb (by omega)) (right_kid hc (by omega)) g1 g2
  exact fun b a c ha hb hc h1 h2 => key _ a b c (Nat.le_refl _) ha hb hc h1 h2

/-- Below is both sides, the second one the other way. -/
theorem sb_below : ∀ (a b : Ty), right a = true → right b = true → (below a b = true ↔ sb 0 a b = true ∧ sb 1 b a = true) := by
  refine Ty.ind2 fun a b ih ha hb => ?_
  have h01 : ¬ ((0 : Int) = 1) := by decide
  have h10 : ¬ ((1 : Int) = 0) := by decide
  rw [below_iff, sb_iff ha hb, sb_iff hb ha]
  by_cases b5 : b.kind = 5
  · simp [b5]
  · by_cases hk : a.kind = b.kind
    · have hl := right_len ha hb hk
      by_cases hn : a.num = b.num
      · have hkid : (∀ i, i < a.kids.length → below (a.kid i) (b.kid i) = true) ↔ (∀ i, i < a.kids.length → if a.kind = 9 ∧ i = 0 then sb 1 (b.kid i) (a.kid i) = true else sb 0 (a.kid i) (b.kid i) = true) ∧
            (∀ i, i < b.kids.length → if b.kind = 9 ∧ i = 0 then sb 0 (a.kid i) (b.kid i) = true else sb 1 (b.kid i) (a.kid i) = true) := by
          constructor
          · intro h
            refine ⟨fun i hi => ?_, fun i hi => ?_⟩
            · have := (ih _ _ (by have := nodes_kid' hi; have := nodes_kid' (t := b) (i := i) (by omega); omega) (right_kid ha hi) (right_kid hb (by omega))).1 (h i hi)
              split
              · exact this.2
              · exact this.1
            · have := (ih _ _ (by have := nodes_kid' hi; have := nodes_kid' (t := a) (i := i) (by omega); omega) (right_kid ha (by omega)) (right_kid hb hi)).1 (h i (by omega))
              split
              · exact this.1
              · exact this.2
          · rintro ⟨h1, h2⟩ i hi
            refine (ih _ _ (by have := nodes_kid' hi; have := nodes_kid' (t := b) (i := i) (by omega); omega) (right_kid ha hi) (right_kid hb (by omega))).2 ?_
            have g1 := h1 i hi
            have g2 := h2 i (by omega)
            by_cases h9 : a.kind = 9 ∧ i = 0
            · rw [if_pos h9] at g1; rw [if_pos ⟨by omega, h9.2⟩] at g2; exact ⟨g2, g1⟩
            · rw [if_neg h9] at g1; rw [if_neg (fun h => h9 ⟨by omega, h.2⟩)] at g2; exact ⟨g1, g2⟩
        constructor
        · rintro (h | ⟨_, _, _, h⟩)
          · exact absurd h b5
          · have := hkid.1 h
            exact ⟨.inr (.inr (.inr ⟨fun h => b5 h.2, fun h => h01 h.1, hk, hn, this.1⟩)), .inr (.inr (.inr ⟨fun h => h10 h.1, fun h => b5 h.2, hk.symm, hn.symm, this.2⟩))⟩
        · rintro ⟨h1, h2⟩
          refine .inr ⟨b5, hk, hn, hkid.2 ⟨?_, ?_⟩⟩
          · rcases h1 with h | h | ⟨_, h, _⟩ | ⟨_, _, _, _, h⟩
            · exact absurd h.2 b5
            · exact absurd h.1 h01
            · exact absurd h b5
            · exact h
          · rcases h2 with h | h | ⟨_, h, _⟩ | ⟨_, _, _, _, h⟩
            · exact absurd h.1 h10
            · exact absurd h.2 b5
            · omega
            · exact h
      · constructor
        · rintro (h | ⟨_, _, h, _⟩)
          · exact absurd h b5
          · exact absurd h hn
        · rintro ⟨h1, _⟩
          rcases h1 with h | h | ⟨_, h, _⟩ | ⟨_, _, _, h, _⟩
          · exact absurd h.2 b5
          · exact absurd h.1 h01
          · exact absurd h b5
          · exact absurd h hn
    · constructor
      · rintro (h | ⟨_, h, _⟩)
        · exact absurd h b5
        · exact absurd h hk
      · rintro ⟨h1, _⟩
        rcases h1 with h | h | ⟨_, h, _⟩ | ⟨_, _, h, _⟩
        · exact absurd h.2 b5
        · exact absurd h.1 h01
        · exact absurd h b5
        · exact absurd h hk

/-! SubDyn. -/
theorem sb0_dyn {a : Ty} (ha : right a = true) : sb 0 a (leafT 5) = true := (sb_iff ha rfl).2 (.inl ⟨rfl, rfl⟩)
theorem sb1_dyn {a : Ty} (ha : right a = true) : sb 1 (leafT 5) a = true := (sb_iff rfl ha).2 (.inr (.inl ⟨rfl, rfl⟩))
theorem sb0_from_dyn {a : Ty} (ha : right a = true) : sb 0 (leafT 5) a = (a.kind == 5) := by
  by_cases h5 : a.kind = 5
  · rw [(sb_iff rfl ha).2 (.inl ⟨rfl, h5⟩)]; simp [h5]
  · have : (a.kind == 5) = false := by simp [h5]
    rw [this, ← Bool.not_eq_true, sb_iff rfl ha]
    rintro (h | h | ⟨_, h, _⟩ | ⟨_, _, h, _⟩)
    · exact h5 h.2
    · exact absurd h.1 (by decide)
    · exact h5 h
    · exact h5 h.symm

/-- Of static types only the same are subtypes, on either side. -/
theorem sb_static : ∀ (a b : Ty), ∀ s : Int, s = 0 ∨ s = 1 → right a = true → right b = true → without 5 a = true → without 5 b = true → (sb s a b = true ↔ a = b) := by
  refine Ty.ind2 fun a b ih s hs ha hb wa wb => ?_
  have a5 := without_kind wa
  have b5 := without_kind wb
  have hso : other s = 0 ∨ other s = 1 := by rcases hs with rfl | rfl; exact .inr rfl; exact .inl rfl
  constructor
  · intro h
    rw [sb_iff ha hb] at h
    rcases h with h | h | ⟨_, h, _⟩ | ⟨_, _, hk, hn, h⟩
    · exact absurd h.2 b5
    · exact absurd h.2 a5
    · exact absurd h b5
    · have hl := right_len ha hb hk
      refine Ty.ext' hk hn hl fun i hi => ?_
      have e1 := nodes_kid' hi
      have e2 := nodes_kid' (t := b) (i := i) (by omega)
      have g := h i hi
      by_cases h9 : a.kind = 9 ∧ i = 0
      · rw [if_pos h9] at g
        exact ((ih _ _ (by omega) _ hso (right_kid hb (by omega)) (right_kid ha hi) (without_kid wb (by omega)) (without_kid wa hi)).1 g).symm
      · rw [if_neg h9] at g
        exact (ih _ _ (by omega) _ hs (right_kid ha hi) (right_kid hb (by omega)) (without_kid wa hi) (without_kid wb (by omega))).1 g
  · rintro rfl
    exact sb_refl a s (by rcases hs with h | h; exact .inl h; exact .inr (.inl h)) ha

/-- A closed type that is a subtype, on either side, agrees. -/
theorem sb_agree : ∀ (a b : Ty), ∀ s : Int, s = 0 ∨ s = 1 → right a = true → right b = true → without 6 a = true → without 6 b = true → sb s a b = true → agree a b = true := by
  refine Ty.ind2 fun a b ih s hs ha hb wa wb h => ?_
  have hso : other s = 0 ∨ other s = 1 := by rcases hs with rfl | rfl; exact .inr rfl; exact .inl rfl
  rw [agree_iff]
  by_cases a5 : a.kind = 5
  · exact .inl ⟨a5, wb⟩
  · by_cases b5 : b.kind = 5
    · exact .inr (.inl ⟨a5, b5, wa⟩)
    · rw [sb_iff ha hb] at h
      rcases h with h | h | ⟨_, h, _⟩ | ⟨_, _, hk, hn, h⟩
      · exact absurd h.2 b5
      · exact absurd h.2 a5
      · exact absurd h b5
      · have hl := right_len ha hb hk
        refine .inr (.inr ⟨a5, b5, hk, hn, fun i hi => ?_⟩)
        have e1 := nodes_kid' hi
        have e2 := nodes_kid' (t := b) (i := i) (by omega)
        have g := h i hi
        by_cases h9 : a.kind = 9 ∧ i = 0
        · rw [if_pos h9] at g
          exact agree_symm (right_kid hb (by omega)) (right_kid ha hi) (ih _ _ (by omega) _ hso (right_kid hb (by omega)) (right_kid ha hi) (without_kid wb (by omega)) (without_kid wa hi) g)
        · rw [if_neg h9] at g
          exact ih _ _ (by omega) _ hs (right_kid ha hi) (right_kid hb (by omega)) (without_kid wa hi) (without_kid wb (by omega)) g

/-! SubParts. -/
theorem right_two {k : Int} (hk : k = 7 ∨ k = 9) {a b : Ty} : right (twoT k a b) = (right a && right b) := by
  rw [twoT, right, rightL, rightL, rightL, Bool.and_true]
  have : okN (.mk k 0 [a, b]) = true := by
    rcases hk with rfl | rfl <;> rfl
  rw [this, Bool.true_and]
theorem right_list {a : Ty} : right (listT a) = right a := by
  rw [listT, right, rightL, rightL, Bool.and_true]
  have : okN (.mk 8 0 [a]) = true := rfl
  rw [this, Bool.true_and]
theorem two_len (k : Int) (a b : Ty) : (twoT k a b).kids.length = 2 := rfl
theorem sb_fun {s : Int} {a b c d : Ty} (h : right (twoT 9 a b) = true) (h' : right (twoT 9 c d) = true) : sb s (twoT 9 a b) (twoT 9 c d) = (sb (other s) c a && sb s b d) := by
  rw [sb_eq h h', twoT, twoT]
  have e : ∀ x y : Ty, (Ty.mk 9 0 [x, y]).kind = 9 := fun _ _ => rfl
  simp only [e, kidF]
  simp [Ty.kid, Ty.kids, Ty.num]
theorem sb_pair {s : Int} {a b c d : Ty} (h : right (twoT 7 a b) = true) (h' : right (twoT 7 c d) = true) : sb s (twoT 7 a b) (twoT 7 c d) = (sb s a c && sb s b d) := by
  rw [sb_eq h h', twoT, twoT]
  have e : ∀ x y : Ty, (Ty.mk 7 0 [x, y]).kind = 7 := fun _ _ => rfl
  simp only [e, kidF]
  simp [Ty.kid, Ty.kids, Ty.num]
theorem sb_list {s : Int} {a c : Ty} (h : right (listT a) = true) (h' : right (listT c) = true) : sb s (listT a) (listT c) = sb s a c := by
  rw [sb_eq h h', listT, listT]
  have e : ∀ x : Ty, (Ty.mk 8 0 [x]).kind = 8 := fun _ => rfl
  simp only [e, kidF]
  simp [Ty.kid, Ty.kids, Ty.num]
theorem sb_apart {s : Int} {a b c d : Ty} (h : right (twoT 9 a b) = true) (h' : right (twoT 7 c d) = true) : sb s (twoT 9 a b) (twoT 7 c d) = false := by
  rw [← Bool.not_eq_true, sb_iff h h']
  rintro (h | h | ⟨_, h, _⟩ | ⟨_, _, h, _⟩)
  · exact absurd h.2 (show ¬ ((7 : Int) = 5) by decide)
  · exact absurd h.2 (show ¬ ((9 : Int) = 5) by decide)
  · exact absurd h (show ¬ ((7 : Int) = 5) by decide)
  · exact absurd h (show ¬ ((9 : Int) = 7) by decide)

end Go.Proofs.Ytcpfjabjonpdaaa
