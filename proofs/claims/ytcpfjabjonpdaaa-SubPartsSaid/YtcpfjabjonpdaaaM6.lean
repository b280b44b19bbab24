/- Subtypes by side: plain functions and laws. No condition. -/
import Derived.Test.YtcpfjabjonpdaaaM4
set_option linter.unusedSimpArgs false
set_option linter.unusedVariables false
namespace Go.Proofs.Ytcpfjabjonpdaaa
open Go Go.Ab

/-- The kids, by a relation r, where the other type's kids are x and y. -/
def kidF (r : Int → Ty → Ty → Bool) (s : Int) (a x y : Ty) : Bool :=
  if a.kind = 9 then r (other s) x (a.kid 0) && r s (a.kid 1) y
  else if a.kind = 7 then r s (a.kid 0) x && r s (a.kid 1) y
  else if a.kind = 8 then r s (a.kid 0) x else true

def sbF : Nat → Int → Ty → Ty → Bool
  | 0, _, _, _ => false
  | n + 1, s, a, b =>
    if (s = 0 ∧ b.kind = 5) ∨ (s = 1 ∧ a.kind = 5) then true
    else if b.kind = 5 ∧ a.kind ≠ 5 then decide (a.kind ≠ 6) && kidF (sbF n) s a dynT dynT
    else if a.kind ≠ b.kind ∨ a.num ≠ b.num then false
    else kidF (sbF n) s a (b.kid 0) (b.kid 1)
def sb (s : Int) (a b : Ty) : Bool := sbF (nodes a + nodes b) s a b

def sideOK (s : Int) : Prop := s = 0 ∨ s = 1 ∨ s = 2
theorem other_side {s : Int} (h : sideOK s) : sideOK (other s) := by
  rcases h with rfl | rfl | rfl
  · exact .inr (.inl rfl)
  · exact .inl rfl
  · exact .inr (.inr rfl)

theorem nodes_dyn : nodes dynT = 1 := rfl
theorem right_dyn : right dynT = true := rfl
theorem nodes_kid' {t : Ty} {i : Nat} (h : i < t.kids.length) : nodes (t.kid i) < nodes t := nodes_kid (kidmem h)

/-- Two relations that are the same at the kids. -/
theorem kidF_congr {r r' : Int → Ty → Ty → Bool} {s : Int} {a x y : Ty} (ha : right a = true)
    (h : ∀ i, i < a.kids.length → ∀ z, (z = x ∧ i = 0 ∨ z = y ∧ i = 1) → (r (other s) z (a.kid i) = r' (other s) z (a.kid i) ∧ r s (a.kid i) z = r' s (a.kid i) z)) : kidF r s a x y = kidF r' s a x y := by
  unfold kidF
  rcases right_arity ha with ⟨hk, hl⟩ | ⟨hk, hl⟩ | ⟨hk, hl⟩
  · have h9 : a.kind ≠ 9 := by omega
    have h7 : a.kind ≠ 7 := by omega
    have h8 : a.kind ≠ 8 := by omega
    simp [h9, h7, h8]
  · have h9 : a.kind ≠ 9 := by omega
    have h7 : a.kind ≠ 7 := by omega
    rw [if_neg h9, if_neg h9, if_neg h7, if_neg h7, if_pos hk, if_pos hk]
    rw [(h 0 (by omega) x (.inl ⟨rfl, rfl⟩)).2]
  · rw [(h 0 (by omega) x (.inl ⟨rfl, rfl⟩)).1, (h 0 (by omega) x (.inl ⟨rfl, rfl⟩)).2, (h 1 (by omega) y (.inr ⟨rfl, rfl⟩)).2]

theorem sbF_fuel : ∀ (n m : Nat) {s : Int} {a b : Ty}, right a = true → right b = true → nodes a + nodes b ≤ n → nodes a + nodes b ≤ m → sbF n s a b = sbF m s a b
  | 0, m, s, a, b, _, _, hn, _ => by have := nodes_pos a; omega
  | n + 1, 0, s, a, b, _, _, _, hm => by have := nodes_pos a; omega
  | n + 1, m + 1, s, a, b, ha, hb, hn, hm => by
    simp only [sbF]
    have hdyn : kidF (sbF n) s a dynT dynT = kidF (sbF m) s a dynT dynT := kidF_congr ha fun i hi z hz => by
      have hz' : z = dynT := by rcases hz with h | h; exact h.1; exact h.1
      subst hz'
      have h1 := nodes_kid' hi
      have h2 := nodes_pos b
      exact ⟨sbF_fuel n m right_dyn (right_kid ha hi) (by rw [nodes_dyn]; omega) (by rw [nodes_dyn]; omega), sbF_fuel n m (right_kid ha hi) right_dyn (by rw [nodes_dyn]; omega) (by rw [nodes_dyn]; omega)⟩
    rw [hdyn]
    by_cases hk : a.kind = b.kind
    · have hl := right_len ha hb hk
      have hkid : kidF (sbF n) s a (b.kid 0) (b.kid 1) = kidF (sbF m) s a (b.kid 0) (b.kid 1) := kidF_congr ha fun i hi z hz => by
        have hz' : z = b.kid i := by rcases hz with ⟨h, rfl⟩ | ⟨h, rfl⟩ <;> exact h
        subst hz'
        have h1 := nodes_kid' hi
        have h2 := nodes_kid' (t := b) (i := i) (by omega)
        have hr := right_kid hb (i := i) (by omega)
        exact ⟨sbF_fuel n m hr (right_kid ha hi) (by omega) (by omega), sbF_fuel n m (right_kid ha hi) hr (by omega) (by omega)⟩
      rw [hkid]
    · have : a.kind ≠ b.kind ∨ a.num ≠ b.num := .inl hk
      simp only [this, if_true]

theorem sbF_sb {n : Nat} {s : Int} {a b : Ty} (ha : right a = true) (hb : right b = true) (hn : nodes a + nodes b ≤ n) : sbF n s a b = sb s a b := sbF_fuel n _ ha hb hn (Nat.le_refl _)

theorem sb_eq {s : Int} {a b : Ty} (ha : right a = true) (hb : right b = true) : sb s a b =
    if (s = 0 ∧ b.kind = 5) ∨ (s = 1 ∧ a.kind = 5) then true
    else if b.kind = 5 ∧ a.kind ≠ 5 then decide (a.kind ≠ 6) && kidF sb s a dynT dynT
    else if a.kind ≠ b.kind ∨ a.num ≠ b.num then false
    else kidF sb s a (b.kid 0) (b.kid 1) := by
  have hpos := nodes_pos a
  obtain ⟨n, hn⟩ : ∃ n, nodes a + nodes b = n + 1 := ⟨nodes a + nodes b - 1, by omega⟩
  have e : sb s a b = sbF (n + 1) s a b := by rw [sb, hn]
  rw [e]
  simp only [sbF]
  have hdyn : kidF (sbF n) s a dynT dynT = kidF sb s a dynT dynT := kidF_congr ha fun i hi z hz => by
    have hz' : z = dynT := by rcases hz with h | h; exact h.1; exact h.1
    subst hz'
    have h1 := nodes_kid' hi
    have h2 := nodes_pos b
    exact ⟨sbF_sb right_dyn (right_kid ha hi) (by rw [nodes_dyn]; omega), sbF_sb (right_kid ha hi) right_dyn (by rw [nodes_dyn]; omega)⟩
  rw [hdyn]
  by_cases hk : a.kind = b.kind
  · have hl := right_len ha hb hk
    have hkid : kidF (sbF n) s a (b.kid 0) (b.kid 1) = kidF sb s a (b.kid 0) (b.kid 1) := kidF_congr ha fun i hi z hz => by
      have hz' : z = b.kid i := by rcases hz with ⟨h, rfl⟩ | ⟨h, rfl⟩ <;> exact h
      subst hz'
      have h1 := nodes_kid' hi
      have h2 := nodes_kid' (t := b) (i := i) (by omega)
      have hr := right_kid hb (i := i) (by omega)
      exact ⟨sbF_sb hr (right_kid ha hi) (by omega), sbF_sb (right_kid ha hi) hr (by omega)⟩
    rw [hkid]
  · have : a.kind ≠ b.kind ∨ a.num ≠ b.num := .inl hk
    simp only [this, if_true]

/-- The kids as a statement: those that the other kids are asked of. -/
theorem kidF_iff {r : Int → Ty → Ty → Bool} {s : Int} {a x y : Ty} (ha : right a = true) : kidF r s a x y = true ↔
    (a.kind = 9 → r (other s) x (a.kid 0) = true ∧ r s (a.kid 1) y = true) ∧ (a.kind = 7 → r s (a.kid 0) x = true ∧ r s (a.kid 1) y = true) ∧ (a.kind = 8 → r s (a.kid 0) x = true) := by
  unfold kidF
  by_cases h9 : a.kind = 9
  · have h7 : a.kind ≠ 7 := by omega
    have h8 : a.kind ≠ 8 := by omega
    simp [h9]
  · by_cases h7 : a.kind = 7
    · simp [h7]
    · by_cases h8 : a.kind = 8
      · simp [h8]
      · simp [h9, h7, h8]

/-- Induction over two types. -/
theorem Ty.ind2 {p : Ty → Ty → Prop} (h : ∀ a b, (∀ x y, nodes x + nodes y < nodes a + nodes b → p x y) → p a b) : ∀ a b, p a b := by
  have key : ∀ (n : Nat) a b, nodes a + nodes b ≤ n → p a b := by
    intro n
    induction n with
    | zero => intro a b hn; have := nodes_pos a; omega
    | succ n ih => intro a b hn; exact h a b fun x y hxy => ih x y (by omega)
  exact fun a b => key _ a b (Nat.le_refl _)

theorem kids9 {a : Ty} (ha : right a = true) (h : a.kind = 9 ∨ a.kind = 7) : a.kids.length = 2 := by
  rcases right_arity ha with h1 | h1 | h1
  · omega
  · omega
  · exact h1.2
theorem kids8 {a : Ty} (ha : right a = true) (h : a.kind = 8) : a.kids.length = 1 := by
  rcases right_arity ha with h1 | h1 | h1
  · omega
  · exact h1.2
  · omega

theorem bool_split {p q : Bool} (h : p = true ↔ q = true) : p = q := Bool.eq_iff_iff.2 h

theorem other_0 : other 0 = 1 := rfl
theorem other_1 : other 1 = 0 := rfl
theorem other_2 : other 2 = 2 := rfl

/-- Sub is both sides. -/
theorem sb_both : ∀ (a b : Ty), right a = true → right b = true → sb 2 a b = (sb 0 a b && sb 1 a b) := by
  refine Ty.ind2 fun a b ih ha hb => ?_
  have hpa := nodes_pos a
  have hpb := nodes_pos b
  have hdyn : a.kind ≠ 5 → a.kind ≠ 6 → kidF sb 2 a dynT dynT = kidF sb 1 a dynT dynT := by
    intro h5 h6
    refine bool_split ?_
    rw [kidF_iff ha, kidF_iff ha, other_2, other_1]
    have e1 : ∀ i, i < a.kids.length → sb 2 dynT (a.kid i) = (sb 0 dynT (a.kid i) && sb 1 dynT (a.kid i)) := fun i hi => ih _ _ (by have := nodes_kid' hi; rw [nodes_dyn]; omega) right_dyn (right_kid ha hi)
    have e2 : ∀ i, i < a.kids.length → sb 2 (a.kid i) dynT = (sb 0 (a.kid i) dynT && sb 1 (a.kid i) dynT) := fun i hi => ih _ _ (by have := nodes_kid' hi; rw [nodes_dyn]; omega) (right_kid ha hi) right_dyn
    have e3 : ∀ i, i < a.kids.length → sb 1 dynT (a.kid i) = true := fun i hi => by rw [sb_eq right_dyn (right_kid ha hi)]; simp [dynT, Ty.kind]
    have e4 : ∀ i, i < a.kids.length → sb 0 (a.kid i) dynT = true := fun i hi => by rw [sb_eq (right_kid ha hi) right_dyn]; simp [dynT, Ty.kind]
    constructor
    · rintro ⟨h1, h2, h3⟩
      refine ⟨fun h => ?_, fun h => ?_, fun h => ?_⟩
      · have hl := kids9 ha (.inl h)
        have := h1 h
        rw [e1 0 (by omega), e3 0 (by omega), Bool.and_true, e2 1 (by omega), e4 1 (by omega), Bool.true_and] at this; exact this
      · have hl := kids9 ha (.inr h)
        have := h2 h
        rw [e2 0 (by omega), e4 0 (by omega), Bool.true_and, e2 1 (by omega), e4 1 (by omega), Bool.true_and] at this; exact this
      · have hl := kids8 ha h
        have := h3 h
        rw [e2 0 (by omega), e4 0 (by omega), Bool.true_and] at this; exact this
    · rintro ⟨h1, h2, h3⟩
      refine ⟨fun h => ?_, fun h => ?_, fun h => ?_⟩
      · have hl := kids9 ha (.inl h)
        have := h1 h
        rw [e1 0 (by omega), e3 0 (by omega), Bool.and_true, e2 1 (by omega), e4 1 (by omega), Bool.true_and]; exact this
      · have hl := kids9 ha (.inr h)
        have := h2 h
        rw [e2 0 (by omega), e4 0 (by omega), Bool.true_and, e2 1 (by omega), e4 1 (by omega), Bool.true_and]; exact this
      · have hl := kids8 ha h
        have := h3 h
        rw [e2 0 (by omega), e4 0 (by omega), Bool.true_and]; exact this
  have hkid : a.kind = b.kind → kidF sb 2 a (b.kid 0) (b.kid 1) = (kidF sb 0 a (b.kid 0) (b.kid 1) && kidF sb 1 a (b.kid 0) (b.kid 1)) := by
    intro hk
    have hl := right_len ha hb hk
    have e1 : ∀ i, i < a.kids.length → sb 2 (b.kid i) (a.kid i) = (sb 0 (b.kid i) (a.kid i) && sb 1 (b.kid i) (a.kid i)) := fun i hi => ih _ _ (by have := nodes_kid' hi; have := nodes_kid' (t := b) (i := i) (by omega); omega) (right_kid hb (by omega)) (right_kid ha hi)
    have e2 : ∀ i, i < a.kids.length → sb 2 (a.kid i) (b.kid i) = (sb 0 (a.kid i) (b.kid i) && sb 1 (a.kid i) (b.kid i)) := fun i hi => ih _ _ (by have := nodes_kid' hi; have := nodes_kid' (t := b) (i := i) (by omega); omega) (right_kid ha hi) (right_kid hb (by omega))
    unfold kidF
    rw [other_2, other_1, other_0]
    by_cases h9 : a.kind = 9
    · have hl2 := kids9 ha (.inl h9)
      rw [if_pos h9, if_pos h9, if_pos h9, e1 0 (by omega), e2 1 (by omega)]
      cases sb 0 (b.kid 0) (a.kid 0) <;> cases sb 1 (b.kid 0) (a.kid 0) <;> cases sb 0 (a.kid 1) (b.kid 1) <;> cases sb 1 (a.kid 1) (b.kid 1) <;> rfl
    · by_cases h7 : a.kind = 7
      · have hl2 := kids9 ha (.inr h7)
        rw [if_neg h9, if_neg h9, if_neg h9, if_pos h7, if_pos h7, if_pos h7, e2 0 (by omega), e2 1 (by omega)]
        cases sb 0 (a.kid 0) (b.kid 0) <;> cases sb 1 (a.kid 0) (b.kid 0) <;> cases sb 0 (a.kid 1) (b.kid 1) <;> cases sb 1 (a.kid 1) (b.kid 1) <;> rfl
      · by_cases h8 : a.kind = 8
        · have hl1 := kids8 ha h8
          rw [if_neg h9, if_neg h9, if_neg h9, if_neg h7, if_neg h7, if_neg h7, if_pos h8, if_pos h8, if_pos h8, e2 0 (by omega)]
        · simp [h9, h7, h8]
  rw [sb_eq ha hb, sb_eq ha hb, sb_eq ha hb]
  by_cases hb5 : b.kind = 5
  · by_cases ha5 : a.kind = 5
    · have hk : a.kind = b.kind := by omega
      have hn : a.num = b.num := by rw [right_num ha (by omega), right_num hb (by omega)]
      have h9 : a.kind ≠ 9 := by omega
      have h7 : a.kind ≠ 7 := by omega
      have h8 : a.kind ≠ 8 := by omega
      simp [ha5, hb5, hn, kidF]
    · by_cases h6 : a.kind = 6
      · simp [ha5, hb5, h6]
      · simp [ha5, hb5, h6, hdyn ha5 h6]
  · by_cases ha5 : a.kind = 5
    · have hk : ¬ (5 : Int) = b.kind := fun h => hb5 h.symm
      simp [ha5, hb5, hk]
    · by_cases hk : a.kind = b.kind
      · by_cases hn : a.num = b.num
        · have := hkid hk
          simp [hk ▸ hb5, hb5, hk, hn, this]
        · simp [ha5, hb5, hk, hn]
      · simp [ha5, hb5, hk]

end Go.Proofs.Ytcpfjabjonpdaaa
