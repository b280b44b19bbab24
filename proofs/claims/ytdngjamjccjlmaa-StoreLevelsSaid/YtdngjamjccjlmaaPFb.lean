/- Lemmas: the functions of types, second part. No condition. -/
import Derived.Test.YtdngjamjccjlmaaPFa
import Derived.Test.YtdngjamjccjlmaaPMa

section
/- Walks: meets. No condition. -/
set_option linter.unusedSimpArgs false
set_option linter.unusedVariables false
set_option maxHeartbeats 4000000
namespace Go.Proofs.Ytdngjamjccjlmaa
open Go Go.Ab

def agreeR (a b : Ty) : Bool := right a && right b && agree a b
def meetR (a b : Ty) : Ty := if agreeR a b = true then meet a b else noneT
end Go.Proofs.Ytdngjamjccjlmaa
end

section
/- Walks: fill, put, Less. No condition. -/
set_option linter.unusedSimpArgs false
set_option linter.unusedVariables false
set_option maxHeartbeats 4000000
namespace Go.Proofs.Ytdngjamjccjlmaa
open Go Go.Ab

theorem range_map_kids (t : Ty) (g : Ty → Ty) : (List.range t.kids.length).map (fun i => g (t.kid i)) = t.kids.map g := by
  conv => rhs; rw [← range_kids t]
  simp [Function.comp_def]

theorem take_len {α β : Type} (l : List α) (f : α → β) : (l.map f).take l.length = l.map f := by rw [List.take_of_length_le (by simp)]
theorem all_bool1 (l : List Bool) : (∀ y, y ∈ l.map AV.bool → (cellsOf y).length = 1) = True := by
  simp only [eq_iff_iff, iff_true]; intro y hy; obtain ⟨b, _, rfl⟩ := List.mem_map.1 hy; rfl
theorem one_le_succ (n : Nat) : ((1 : Int) ≤ ((n + 1 : Nat) : Int)) = True := by simp only [eq_iff_iff, iff_true]; omega
theorem gt_zero_succ (n : Nat) : (((n + 1 : Nat) : Int) > 0) = True := by simp only [eq_iff_iff, iff_true]; omega
theorem zero_lt_succ_int (n : Nat) : ((0 : Int) < ((n + 1 : Nat) : Int)) = True := by simp only [eq_iff_iff, iff_true]; omega
theorem bools_bel (m : Nat) (l : List Bool) : AV.belL m (l.map AV.bool) = true := by induction l with | nil => rfl | cons b l ih => simp [AV.belL, AV.bel, ih]
theorem bools_norm (l : List Bool) : AV.normL (l.map AV.bool) = l.map AV.bool := by induction l with | nil => rfl | cons b l ih => simp [AV.normL, AV.norm, ih]

end Go.Proofs.Ytdngjamjccjlmaa
end

section
/- Walks: package sub. No condition. -/
set_option linter.unusedSimpArgs false
set_option linter.unusedVariables false
set_option maxHeartbeats 4000000
namespace Go.Proofs.Ytdngjamjccjlmaa
open Go Go.Ab

theorem zero_lt_int {n : Nat} (h : 0 < n) : ((0 : Int) < (n : Int)) = True := by simp only [eq_iff_iff, iff_true]; omega
theorem one_lt_int {n : Nat} (h : 1 < n) : ((1 : Int) < (n : Int)) = True := by simp only [eq_iff_iff, iff_true]; omega
theorem map_emb_get {l : List Ty} {i : Nat} (h : i < l.length) : (l.map emb).getD i .any = emb (l.getD i default) := by simp [h]

end Go.Proofs.Ytdngjamjccjlmaa
end

section
/- Plain laws: grounds. No condition. -/
set_option linter.unusedSimpArgs false
set_option linter.unusedVariables false
namespace Go.Proofs.Ytdngjamjccjlmaa
open Go Go.Ab

theorem ground_len (a : Ty) : (ground a).kids.length = a.kids.length := by simp [ground, Ty.kids]
theorem ground_kid {a : Ty} {i : Nat} (hi : i < a.kids.length) : (ground a).kid i = dynT := by
  have h : (List.replicate a.kids.length dynT)[i]? = some dynT := by rw [List.getElem?_replicate]; simp [hi]
  show (List.replicate a.kids.length dynT).getD i default = dynT
  rw [List.getD_eq_getElem?_getD, h]; rfl
theorem ground_kind (a : Ty) : (ground a).kind = a.kind := rfl
theorem ground_num (a : Ty) : (ground a).num = 0 := rfl
theorem head_ne {a : Ty} (h : headK a.kind = true) : a.kind ≠ 5 ∧ a.kind ≠ 6 := by
  simp only [headK, decide_eq_true_eq] at h; omega
theorem ground_right {a : Ty} (ha : right a = true) (hk : headK a.kind = true) : right (ground a) = true := by
  have h6 := head_ne hk
  refine right_mk (okN_of (a := a) rfl ?_ (ground_len a) (right_okN ha)) fun i hi => ?_
  · rw [ground_num, right_num ha h6.2]
  · rw [ground_len] at hi; rw [ground_kid hi]; rfl
theorem groundT_eq {a : Ty} (ha : right a = true) (hk : headK a.kind = true) : groundT a = ground a := by simp [groundT, ha, hk]
theorem ground_ground {a : Ty} : ground (ground a) = ground a := by
  refine Ty.ext' rfl rfl (ground_len (ground a)).symm fun i hi => ?_
  rw [ground_len] at hi
  rw [ground_kid hi]
  rw [ground_len] at hi
  rw [ground_kid hi]
theorem below_ground {a : Ty} (ha : right a = true) (hk : headK a.kind = true) : below a (ground a) = true := by
  have h6 := head_ne hk
  refine below_iff.2 (.inr ⟨h6.1, rfl, by rw [ground_num, right_num ha h6.2], fun i hi => ?_⟩)
  rw [ground_kid hi]; exact below_dyn _ rfl
theorem ground_eq {a b : Ty} (ha : right a = true) (hb : right b = true) (h : a.kind = b.kind) : ground a = ground b := by
  simp only [ground, h, right_len ha hb h]
theorem ground_same {a b : Ty} (ha : right a = true) (hb : right b = true) : same (ground a) (ground b) = (a.kind == b.kind) := by
  by_cases h : a.kind = b.kind
  · rw [ground_eq ha hb h, same_refl]; simp [h]
  · have : (a.kind == b.kind) = false := by simp [h]
    rw [this, ← Bool.not_eq_true, same_true]
    exact fun e => h (show (ground a).kind = (ground b).kind by rw [e])
theorem ground_agree {a b : Ty} (ha : right a = true) (hb : right b = true) (hka : headK a.kind = true) (hkb : headK b.kind = true) : agree (ground a) (ground b) = (a.kind == b.kind) := by
  by_cases h : a.kind = b.kind
  · rw [ground_eq ha hb h, agree_refl (ground_right hb hkb)]; simp [h]
  · have : (a.kind == b.kind) = false := by simp [h]
    rw [this, ← Bool.not_eq_true, agree_iff]
    rintro (⟨h1, _⟩ | ⟨_, h1, _⟩ | ⟨_, _, h1, _⟩)
    · exact (head_ne hka).1 h1
    · exact (head_ne hkb).1 h1
    · exact h h1
theorem ground_below {a b : Ty} (ha : right a = true) (hb : right b = true) (hka : headK a.kind = true) (hkb : headK b.kind = true) : below a (ground b) = (a.kind == b.kind) := by
  by_cases h : a.kind = b.kind
  · rw [← ground_eq ha hb h, below_ground ha hka]; simp [h]
  · have : (a.kind == b.kind) = false := by simp [h]
    rw [this, ← Bool.not_eq_true, below_iff]
    rintro (h1 | ⟨_, h1, _⟩)
    · exact (head_ne hkb).1 h1
    · exact h h1
theorem nodesL_dyn : ∀ n, nodesL (List.replicate n dynT) = n
  | 0 => rfl
  | n + 1 => by rw [List.replicate_succ, nodesL, nodesL_dyn n]; simp [dynT, nodes, nodesL]; omega
theorem ground_nodes (a : Ty) : nodes (ground a) ≤ nodes a := by
  rw [nodes_eq a, nodes_eq (ground a)]
  have : nodesL (ground a).kids = a.kids.length := nodesL_dyn _
  have := length_le_nodesL a.kids
  omega

end Go.Proofs.Ytdngjamjccjlmaa
end

section
/- Walks: the reference's subtypes. No condition. -/
set_option linter.unusedSimpArgs false
set_option linter.unusedVariables false
set_option maxHeartbeats 4000000
set_option maxRecDepth 100000
namespace Go.Proofs.Ytdngjamjccjlmaa
open Go Go.Ab

theorem headK_ne' {a : Ty} (ha : right a = true) (h : ¬ headK a.kind = true) : a.kind = 5 ∨ a.kind = 6 := by
  have := mt (head_iff ha).2 h
  omega
theorem kidF_leaf {r : Int → Ty → Ty → Bool} {s : Int} {a x y : Ty} (ha : right a = true) (h : a.kids.length = 0) : kidF r s a x y = true := by
  rw [kidF_iff ha]
  refine ⟨fun h9 => ?_, fun h7 => ?_, fun h8 => ?_⟩
  · have := kids9 ha (.inl h9); omega
  · have := kids9 ha (.inr h7); omega
  · have := kids8 ha h8; omega
theorem kidF_ground {r : Int → Ty → Ty → Bool} {s : Int} {a : Ty} (ha : right a = true) : kidF r s a ((ground a).kid 0) ((ground a).kid 1) = kidF r s a dynT dynT := by
  unfold kidF
  by_cases h9 : a.kind = 9
  · have hl := kids9 ha (.inl h9)
    rw [if_pos h9, if_pos h9, ground_kid (by omega), ground_kid (by omega)]
  · by_cases h7 : a.kind = 7
    · have hl := kids9 ha (.inr h7)
      rw [if_neg h9, if_neg h9, if_pos h7, if_pos h7, ground_kid (by omega), ground_kid (by omega)]
    · by_cases h8 : a.kind = 8
      · have hl := kids8 ha h8
        rw [if_neg h9, if_neg h9, if_neg h7, if_neg h7, if_pos h8, if_pos h8, ground_kid (by omega)]
      · simp [h9, h7, h8]
theorem leafB_nokids {a b : Ty} (h : 0 < a.kids.length) : leafB a b = false := by
  have : ¬ a.kids.length = 0 := by omega
  simp [leafB, this]
theorem likeB_kids {a b : Ty} (h : 0 < a.kids.length) (hk : a.kind = b.kind) : likeB a b = true := by simp [likeB, h, hk]

theorem sb_leaf {s : Int} {a b : Ty} (hs : sideOK s) (ha : right a = true) (hb : right b = true) (h : leafB a b = true) : sb s a b = true := by
  obtain ⟨h1, h2, h3⟩ := leaf_facts h
  rw [sb_eq ha hb]
  by_cases b5 : b.kind = 5
  · have a5 : a.kind = 5 := by omega
    simp [a5, b5, h3, kidF]
  · have a5 : a.kind ≠ 5 := by omega
    simp [a5, b5, h2, h3, kidF_leaf ha h1]
theorem sb_nolike {s : Int} {a b : Ty} (ha : right a = true) (hb : right b = true) (b5 : b.kind ≠ 5) (h1 : s = 1 → a.kind ≠ 5) (h : leafB a b = false) (h' : likeB a b = false) : sb s a b = false := by
  have := nolike h h'
  rw [sb_eq ha hb]
  have c1 : ¬ ((s = 0 ∧ b.kind = 5) ∨ (s = 1 ∧ a.kind = 5)) := by
    rintro (⟨_, h⟩ | ⟨h, h2⟩)
    · exact b5 h
    · exact h1 h h2
  rw [if_neg c1, if_neg (fun h => b5 h.1), if_pos this]
theorem sb_like {s : Int} {a b : Ty} (ha : right a = true) (hb : right b = true) (h : likeB a b = true) : sb s a b = kidF sb s a (b.kid 0) (b.kid 1) := by
  obtain ⟨h1, h2, h3⟩ := like_facts ha hb h
  have h0 : 0 < a.kids.length := by simp only [likeB, Bool.and_eq_true, decide_eq_true_eq] at h; exact h.1
  have a5 : a.kind ≠ 5 := by intro h5; rw [dyn_eq ha h5] at h0; exact absurd h0 (by decide)
  rw [sb_eq ha hb]
  have c1 : ¬ ((s = 0 ∧ b.kind = 5) ∨ (s = 1 ∧ a.kind = 5)) := by rintro (⟨_, h⟩ | ⟨_, h⟩) <;> omega
  rw [if_neg c1, if_neg (fun h => a5 (by omega)), if_neg (by rintro (h | h) <;> exact h (by assumption))]
theorem sb_dyn {s : Int} {a b : Ty} (hs : s ≠ 0) (ha : right a = true) (hb : right b = true) (b5 : b.kind = 5) (a5 : a.kind ≠ 5) : sb s a b = (decide (a.kind ≠ 6) && kidF sb s a dynT dynT) := by
  rw [sb_eq ha hb]
  have c1 : ¬ ((s = 0 ∧ b.kind = 5) ∨ (s = 1 ∧ a.kind = 5)) := by rintro (⟨h, _⟩ | ⟨_, h⟩); exact hs h; exact a5 h
  rw [if_neg c1, if_pos ⟨b5, a5⟩]

theorem sd_side (neg : Bool) : sideOK (if neg then 1 else 0) := by cases neg; exact .inl rfl; exact .inr (.inl rfl)

end Go.Proofs.Ytdngjamjccjlmaa
end

section
/- Walks: the reference's Sub. No condition. -/
set_option linter.unusedSimpArgs false
set_option linter.unusedVariables false
set_option maxHeartbeats 4000000
set_option maxRecDepth 100000
namespace Go.Proofs.Ytdngjamjccjlmaa
open Go Go.Ab

end Go.Proofs.Ytdngjamjccjlmaa
end

section
/- Plain laws: subtypes. No condition. -/
set_option linter.unusedSimpArgs false
set_option linter.unusedVariables false
namespace Go.Proofs.Ytdngjamjccjlmaa
open Go Go.Ab

/-- The kids by places: contravariant at a function's first one. -/
theorem kidF_place {r : Int → Ty → Ty → Bool} {s : Int} {a b : Ty} (ha : right a = true) : kidF r s a (b.kid 0) (b.kid 1) = true ↔
    ∀ i, i < a.kids.length → if a.kind = 9 ∧ i = 0 then r (other s) (b.kid i) (a.kid i) = true else r s (a.kid i) (b.kid i) = true := by
  rw [kidF_iff ha]
  rcases right_arity ha with ⟨hk, hl⟩ | ⟨hk, hl⟩ | ⟨hk | hk, hl⟩
  · rw [hl]
    constructor
    · intro _ i hi; exact absurd hi (by simp)
    · intro _; exact ⟨fun h => by omega, fun h => by omega, fun h => by omega⟩
  · constructor
    · rintro ⟨_, _, h⟩ i hi
      obtain rfl : i = 0 := by omega
      rw [if_neg (by omega)]; exact h hk
    · intro h
      refine ⟨fun h => by omega, fun h => by omega, fun _ => ?_⟩
      have := h 0 (by omega)
      rwa [if_neg (by omega)] at this
  · constructor
    · rintro ⟨_, h, _⟩ i hi
      rw [if_neg (by omega)]
      rcases (show i = 0 ∨ i = 1 by omega) with rfl | rfl
      · exact (h hk).1
      · exact (h hk).2
    · intro h
      refine ⟨fun h => by omega, fun _ => ⟨?_, ?_⟩, fun h => by omega⟩
      · have := h 0 (by omega); rwa [if_neg (by omega)] at this
      · have := h 1 (by omega); rwa [if_neg (by omega)] at this
  · constructor
    · rintro ⟨h, _, _⟩ i hi
      rcases (show i = 0 ∨ i = 1 by omega) with rfl | rfl
      · rw [if_pos ⟨hk, rfl⟩]; exact (h hk).1
      · rw [if_neg (by omega)]; exact (h hk).2
    · intro h
      refine ⟨fun _ => ⟨?_, ?_⟩, fun h => by omega, fun h => by omega⟩
      · have := h 0 (by omega); rwa [if_pos ⟨hk, rfl⟩] at this
      · have := h 1 (by omega); rwa [if_neg (by omega)] at this

theorem kidF_dyn {r : Int → Ty → Ty → Bool} {s : Int} {a : Ty} (ha : right a = true) : kidF r s a dynT dynT = true ↔
    ∀ i, i < a.kids.length → if a.kind = 9 ∧ i = 0 then r (other s) dynT (a.kid i) = true else r s (a.kid i) dynT = true := by
  have key : kidF r s a dynT dynT = kidF r s a ((ground a).kid 0) ((ground a).kid 1) := by
    unfold kidF
    by_cases h9 : a.kind = 9
    · have hl := kids9 ha (.inl h9)
      rw [if_pos h9, if_pos h9, ground_kid (by omega), ground_kid (by omega)]
    · by_cases h7 : a.kind = 7
      · have hl := kids9 ha (.inr h7)
        rw [if_neg h9, if_neg h9, if_pos h7, if_pos h7, ground_kid (by omega), ground_kid (by omega)]
      · by_cases h8 : a.kind = 8
        · have hl := kids8 ha h8
          rw [if_neg h9, if_neg h9, if_neg h7, if_neg h7, if_pos h8, if_pos h8, ground_kid (by omega)]
        · simp [h9, h7, h8]
  rw [key, kidF_place ha]
  constructor
  · intro h i hi; have := h i hi; rwa [ground_kid hi] at this
  · intro h i hi; have := h i hi; rwa [ground_kid hi]

/-- What sb says, as a statement. -/
theorem sb_iff {s : Int} {a b : Ty} (ha : right a = true) (hb : right b = true) : sb s a b = true ↔
    (s = 0 ∧ b.kind = 5) ∨ (s = 1 ∧ a.kind = 5) ∨ (¬ (s = 0 ∧ b.kind = 5) ∧ b.kind = 5 ∧ a.kind ≠ 5 ∧ a.kind ≠ 6 ∧ ∀ i, i < a.kids.length → if a.kind = 9 ∧ i = 0 then sb (other s) dynT (a.kid i) = true else sb s (a.kid i) dynT = true) ∨
    (¬ (s = 0 ∧ b.kind = 5) ∧ ¬ (s = 1 ∧ a.kind = 5) ∧ a.kind = b.kind ∧ a.num = b.num ∧ ∀ i, i < a.kids.length → if a.kind = 9 ∧ i = 0 then sb (other s) (b.kid i) (a.kid i) = true else sb s (a.kid i) (b.kid i) = true) := by
  rw [sb_eq ha hb]
  by_cases h1 : s = 0 ∧ b.kind = 5
  · simp [h1]
  · by_cases h2 : s = 1 ∧ a.kind = 5
    · simp [h2]
    · have h12 : ¬ ((s = 0 ∧ b.kind = 5) ∨ (s = 1 ∧ a.kind = 5)) := by rintro (h | h); exact h1 h; exact h2 h
      rw [if_neg h12]
      by_cases h3 : b.kind = 5 ∧ a.kind ≠ 5
      · rw [if_pos h3, Bool.and_eq_true, decide_eq_true_eq, kidF_dyn ha]
        constructor
        · rintro ⟨h6, h⟩; exact .inr (.inr (.inl ⟨h1, h3.1, h3.2, h6, h⟩))
        · rintro (h | h | ⟨_, _, _, h6, h⟩ | ⟨_, _, h, _⟩)
          · exact absurd h h1
          · exact absurd h h2
          · exact ⟨h6, h⟩
          · omega
      · rw [if_neg h3]
        by_cases h4 : a.kind ≠ b.kind ∨ a.num ≠ b.num
        · rw [if_pos h4]
          constructor
          · intro h; cases h
          · rintro (h | h | ⟨_, h5, h6, _⟩ | ⟨_, _, h5, h6, _⟩)
            · exact absurd h h1
            · exact absurd h h2
            · exact absurd ⟨h5, h6⟩ h3
            · omega
        · rw [if_neg h4, kidF_place ha]
          constructor
          · intro h; exact .inr (.inr (.inr ⟨h1, h2, by omega, by omega, h⟩))
          · rintro (h | h | ⟨_, h5, h6, _⟩ | ⟨_, _, _, _, h⟩)
            · exact absurd h h1
            · exact absurd h h2
            · exact absurd ⟨h5, h6⟩ h3
            · exact h

theorem sb_refl : ∀ (a : Ty) (s : Int), sideOK s → right a = true → sb s a a = true := by
  refine Ty.ind fun a ih s hs ha => ?_
  rw [sb_iff ha ha]
  by_cases h1 : s = 0 ∧ a.kind = 5
  · exact .inl h1
  · by_cases h2 : s = 1 ∧ a.kind = 5
    · exact .inr (.inl h2)
    · refine .inr (.inr (.inr ⟨h1, h2, rfl, rfl, fun i hi => ?_⟩))
      split
      · exact ih _ (kidmem hi) _ (other_side hs) (right_kid ha hi)
      · exact ih _ (kidmem hi) _ hs (right_kid ha hi)

theorem sb2_iff {a b : Ty} (ha : right a = true) (hb : right b = true) : sb 2 a b = true ↔
    (b.kind = 5 ∧ a.kind ≠ 5 ∧ a.kind ≠ 6 ∧ ∀ i, i < a.kids.length → if a.kind = 9 ∧ i = 0 then sb 2 dynT (a.kid i) = true else sb 2 (a.kid i) dynT = true) ∨
    (a.kind = b.kind ∧ a.num = b.num ∧ ∀ i, i < a.kids.length → if a.kind = 9 ∧ i = 0 then sb 2 (b.kid i) (a.kid i) = true else sb 2 (a.kid i) (b.kid i) = true) := by
  rw [sb_iff ha hb, other_2]
  have h0 : ¬ ((2 : Int) = 0) := by decide
  have h1 : ¬ ((2 : Int) = 1) := by decide
  simp only [h0, h1, false_and, false_or, not_false_eq_true, true_and]

theorem sb2_dyn_only {a : Ty} (ha : right a = true) (h : sb 2 dynT a = true) : a = dynT := by
  rw [sb2_iff right_dyn ha] at h
  rcases h with ⟨h1, h2, _⟩ | ⟨h1, h2, _⟩
  · exact absurd rfl h2
  · exact dyn_eq ha h1.symm

theorem sb2_anti : ∀ (a b : Ty), right a = true → right b = true → sb 2 a b = true → sb 2 b a = true → a = b := by
  refine Ty.ind2 fun a b ih ha hb h1 h2 => ?_
  rw [sb2_iff ha hb] at h1
  rw [sb2_iff hb ha] at h2
  rcases h1 with ⟨b5, a5, _⟩ | ⟨hk, hn, h1⟩
  · rcases h2 with ⟨a5', _⟩ | ⟨hk, _⟩
    · exact absurd a5' a5
    · omega
  · rcases h2 with ⟨a5', b5, _⟩ | ⟨_, _, h2⟩
    · omega
    · have hl := right_len ha hb hk
      refine Ty.ext' hk hn hl fun i hi => ?_
      have e1 := nodes_kid' hi
      have e2 := nodes_kid' (t := b) (i := i) (by omega)
      have g1 := h1 i hi
      have g2 := h2 i (by omega)
      by_cases h9 : a.kind = 9 ∧ i = 0
      · rw [if_pos h9] at g1
        rw [if_pos ⟨by omega, h9.2⟩] at g2
        exact ih _ _ (by omega) (right_kid ha hi) (right_kid hb (by omega)) g2 g1
      · rw [if_neg h9] at g1
        rw [if_neg (fun h => h9 ⟨by omega, h.2⟩)] at g2
        exact ih _ _ (by omega) (right_kid ha hi) (right_kid hb (by omega)) g1 g2

/-- Transitivity of Sub: to c from a over b. -/
theorem sb2_trans : ∀ (b : Ty) {a c : Ty}, right a = true → right b = true → right c = true → (sb 2 a b = true → sb 2 b c = true → sb 2 a c = true) := by
  have key : ∀ (n : Nat) (a b c : Ty), nodes a + nodes b + nodes c ≤ n → right a = true → right b = true → right c = true → sb 2 a b = true → sb 2 b c = true → sb 2 a c = true := by
    intro n
    induction n with
    | zero => intro a b c hn; have := nodes_pos a; omega
    | succ n ih =>
      intro a b c hn ha hb hc h1 h2
      rw [sb2_iff ha hb] at h1
      rw [sb2_iff hb hc] at h2
      rw [sb2_iff ha hc]
      have pa := nodes_pos a
      have pb := nodes_pos b
      have pc := nodes_pos c
      rcases h1 with ⟨b5, a5, a6, h1⟩ | ⟨hk, hn', h1⟩
      · rcases h2 with ⟨c5, b5', _⟩ | ⟨hk2, _, _⟩
        · exact absurd b5 b5'
        · exact .inl ⟨by omega, a5, a6, h1⟩
      · have hl := right_len ha hb hk
        rcases h2 with ⟨c5, b5, b6, h2⟩ | ⟨hk2, hn2, h2⟩
        · refine .inl ⟨c5, by omega, by omega, fun i hi => ?_⟩
          have e1 := nodes_kid' hi
          have e2 := nodes_kid' (t := b) (i := i) (by omega)
          have g1 := h1 i hi
          have g2 := h2 i (by omega)
          by_cases h9 : a.kind = 9 ∧ i = 0
          · rw [if_pos h9] at g1 ⊢
            rw [if_pos ⟨by omega, h9.2⟩] at g2
            exact ih _ _ _ (by rw [nodes_dyn]; omega) right_dyn (right_kid hb (by omega)) (right_kid ha hi) g2 g1
          · rw [if_neg h9] at g1 ⊢
            rw [if_neg (fun h => h9 ⟨by omega, h.2⟩)] at g2
            exact ih _ _ _ (by rw [nodes_dyn]; omega) (right_kid ha hi) (right_kid hb (by omega)) right_dyn g1 g2
        · have hl2 := right_len hb hc hk2
          refine .inr ⟨by omega, by omega, fun i hi => ?_⟩
          have e1 := nodes_kid' hi
          have e2 := nodes_kid' (t := b) (i := i) (by omega)
          have e3 := nodes_kid' (t := c) (i := i) (by omega)
          have g1 := h1 i hi
          have g2 := h2 i (by omega)
          by_cases h9 : a.kind = 9 ∧ i = 0
          · rw [if_pos h9] at g1 ⊢
            rw [if_pos ⟨by omega, h9.2⟩] at g2
            exact ih _ _ _ (by omega) (right_kid hc (by omega)) (right_kid hb (by omega)) (right_kid ha hi) g2 g1
          · rw [if_neg h9] at g1 ⊢
            rw [if_neg (fun h => h9 ⟨by omega, h.2⟩)] at g2
            exact ih _ _ _ (by omega) (right_kid ha hi) (right_kid hb (by omega)) (right_kid hc (by omega)) g1 g2
  exact fun b a c ha hb hc h1 h2 => key _ a b c (Nat.le_refl _) ha hb hc h1 h2

/-- Below is both sides, the second one the other way. -/
theorem sb_below : ∀ (a b : Ty), right a = true → right b = true → (below a b = true ↔ sb 0 a b = true ∧ sb 1 b a = true) := by
  refine Ty.ind2 fun a b ih ha hb => ?_
  have h01 : ¬ ((0 : Int) = 1) := by decide
  have h10 : ¬ ((1 : Int) = 0) := by decide
  rw [below_iff, sb_iff ha hb, sb_iff hb ha]
  by_cases b5 : b.kind = 5
  · simp [b5]
  · by_cases hk : a.kind = b.kind
    · have hl := right_len ha hb hk
      by_cases hn : a.num = b.num
      · have hkid : (∀ i, i < a.kids.length → below (a.kid i) (b.kid i) = true) ↔ (∀ i, i < a.kids.length → if a.kind = 9 ∧ i = 0 then sb 1 (b.kid i) (a.kid i) = true else sb 0 (a.kid i) (b.kid i) = true) ∧
            (∀ i, i < b.kids.length → if b.kind = 9 ∧ i = 0 then sb 0 (a.kid i) (b.kid i) = true else sb 1 (b.kid i) (a.kid i) = true) := by
          constructor
          · intro h
            refine ⟨fun i hi => ?_, fun i hi => ?_⟩
            · have := (ih _ _ (by have := nodes_kid' hi; have := nodes_kid' (t := b) (i := i) (by omega); omega) (right_kid ha hi) (right_kid hb (by omega))).1 (h i hi)
              split
              · exact this.2
              · exact this.1
            · have := (ih _ _ (by have := nodes_kid' hi; have := nodes_kid' (t := a) (i := i) (by omega); omega) (right_kid ha (by omega)) (right_kid hb hi)).1 (h i (by omega))
              split
              · exact this.1
              · exact this.2
          · rintro ⟨h1, h2⟩ i hi
            refine (ih _ _ (by have := nodes_kid' hi; have := nodes_kid' (t := b) (i := i) (by omega); omega) (right_kid ha hi) (right_kid hb (by omega))).2 ?_
            have g1 := h1 i hi
            have g2 := h2 i (by omega)
            by_cases h9 : a.kind = 9 ∧ i = 0
            · rw [if_pos h9] at g1; rw [if_pos ⟨by omega, h9.2⟩] at g2; exact ⟨g2, g1⟩
            · rw [if_neg h9] at g1; rw [if_neg (fun h => h9 ⟨by omega, h.2⟩)] at g2; exact ⟨g1, g2⟩
        constructor
        · rintro (h | ⟨_, _, _, h⟩)
          · exact absurd h b5
          · have := hkid.1 h
            exact ⟨.inr (.inr (.inr ⟨fun h => b5 h.2, fun h => h01 h.1, hk, hn, this.1⟩)), .inr (.inr (.inr ⟨fun h => h10 h.1, fun h => b5 h.2, hk.symm, hn.symm, this.2⟩))⟩
        · rintro ⟨h1, h2⟩
          refine .inr ⟨b5, hk, hn, hkid.2 ⟨?_, ?_⟩⟩
          · rcases h1 with h | h | ⟨_, h, _⟩ | ⟨_, _, _, _, h⟩
            · exact absurd h.2 b5
            · exact absurd h.1 h01
            · exact absurd h b5
            · exact h
          · rcases h2 with h | h | ⟨_, h, _⟩ | ⟨_, _, _, _, h⟩
            · exact absurd h.1 h10
            · exact absurd h.2 b5
            · omega
            · exact h
      · constructor
        · rintro (h | ⟨_, _, h, _⟩)
          · exact absurd h b5
          · exact absurd h hn
        · rintro ⟨h1, _⟩
          rcases h1 with h | h | ⟨_, h, _⟩ | ⟨_, _, _, h, _⟩
          · exact absurd h.2 b5
          · exact absurd h.1 h01
          · exact absurd h b5
          · exact absurd h hn
    · constructor
      · rintro (h | ⟨_, h, _⟩)
        · exact absurd h b5
        · exact absurd h hk
      · rintro ⟨h1, _⟩
        rcases h1 with h | h | ⟨_, h, _⟩ | ⟨_, _, h, _⟩
        · exact absurd h.2 b5
        · exact absurd h.1 h01
        · exact absurd h b5
        · exact absurd h hk

/-! SubDyn. -/
theorem sb0_dyn {a : Ty} (ha : right a = true) : sb 0 a (leafT 5) = true := (sb_iff ha rfl).2 (.inl ⟨rfl, rfl⟩)
theorem sb1_dyn {a : Ty} (ha : right a = true) : sb 1 (leafT 5) a = true := (sb_iff rfl ha).2 (.inr (.inl ⟨rfl, rfl⟩))
theorem sb0_from_dyn {a : Ty} (ha : right a = true) : sb 0 (leafT 5) a = (a.kind == 5) := by
  by_cases h5 : a.kind = 5
  · rw [(sb_iff rfl ha).2 (.inl ⟨rfl, h5⟩)]; simp [h5]
  · have : (a.kind == 5) = false := by simp [h5]
    rw [this, ← Bool.not_eq_true, sb_iff rfl ha]
    rintro (h | h | ⟨_, h, _⟩ | ⟨_, _, h, _⟩)
    · exact h5 h.2
    · exact absurd h.1 (by decide)
    · exact h5 h
    · exact h5 h.symm

/-- Of static types only the same are subtypes, on either side. -/
theorem sb_static : ∀ (a b : Ty), ∀ s : Int, s = 0 ∨ s = 1 → right a = true → right b = true → without 5 a = true → without 5 b = true → (sb s a b = true ↔ a = b) := by
  refine Ty.ind2 fun a b ih s hs ha hb wa wb => ?_
  have a5 := without_kind wa
  have b5 := without_kind wb
  have hso : other s = 0 ∨ other s = 1 := by rcases hs with rfl | rfl; exact .inr rfl; exact .inl rfl
  constructor
  · intro h
    rw [sb_iff ha hb] at h
    rcases h with h | h | ⟨_, h, _⟩ | ⟨_, _, hk, hn, h⟩
    · exact absurd h.2 b5
    · exact absurd h.2 a5
    · exact absurd h b5
    · have hl := right_len ha hb hk
      refine Ty.ext' hk hn hl fun i hi => ?_
      have e1 := nodes_kid' hi
      have e2 := nodes_kid' (t := b) (i := i) (by omega)
      have g := h i hi
      by_cases h9 : a.kind = 9 ∧ i = 0
      · rw [if_pos h9] at g
        exact ((ih _ _ (by omega) _ hso (right_kid hb (by omega)) (right_kid ha hi) (without_kid wb (by omega)) (without_kid wa hi)).1 g).symm
      · rw [if_neg h9] at g
        exact (ih _ _ (by omega) _ hs (right_kid ha hi) (right_kid hb (by omega)) (without_kid wa hi) (without_kid wb (by omega))).1 g
  · rintro rfl
    exact sb_refl a s (by rcases hs with h | h; exact .inl h; exact .inr (.inl h)) ha

/-- A closed type that is a subtype, on either side, agrees. -/
theorem sb_agree : ∀ (a b : Ty), ∀ s : Int, s = 0 ∨ s = 1 → right a = true → right b = true → without 6 a = true → without 6 b = true → sb s a b = true → agree a b = true := by
  refine Ty.ind2 fun a b ih s hs ha hb wa wb h => ?_
  have hso : other s = 0 ∨ other s = 1 := by rcases hs with rfl | rfl; exact .inr rfl; exact .inl rfl
  rw [agree_iff]
  by_cases a5 : a.kind = 5
  · exact .inl ⟨a5, wb⟩
  · by_cases b5 : b.kind = 5
    · exact .inr (.inl ⟨a5, b5, wa⟩)
    · rw [sb_iff ha hb] at h
      rcases h with h | h | ⟨_, h, _⟩ | ⟨_, _, hk, hn, h⟩
      · exact absurd h.2 b5
      · exact absurd h.2 a5
      · exact absurd h b5
      · have hl := right_len ha hb hk
        refine .inr (.inr ⟨a5, b5, hk, hn, fun i hi => ?_⟩)
        have e1 := nodes_kid' hi
        have e2 := nodes_kid' (t := b) (i := i) (by omega)
        have g := h i hi
        by_cases h9 : a.kind = 9 ∧ i = 0
        · rw [if_pos h9] at g
          exact agree_symm (right_kid hb (by omega)) (right_kid ha hi) (ih _ _ (by omega) _ hso (right_kid hb (by omega)) (right_kid ha hi) (without_kid wb (by omega)) (without_kid wa hi) g)
        · rw [if_neg h9] at g
          exact ih _ _ (by omega) _ hs (right_kid ha hi) (right_kid hb (by omega)) (without_kid wa hi) (without_kid wb (by omega)) g

/-! SubParts. -/
theorem right_two {k : Int} (hk : k = 7 ∨ k = 9) {a b : Ty} : right (twoT k a b) = (right a && right b) := by
  rw [twoT, right, rightL, rightL, rightL, Bool.and_true]
  have : okN (.mk k 0 [a, b]) = true := by
    rcases hk with rfl | rfl <;> rfl
  rw [this, Bool.true_and]
theorem right_list {a : Ty} : right (listT a) = right a := by
  rw [listT, right, rightL, rightL, Bool.and_true]
  have : okN (.mk 8 0 [a]) = true := rfl
  rw [this, Bool.true_and]
theorem two_len (k : Int) (a b : Ty) : (twoT k a b).kids.length = 2 := rfl
theorem sb_fun {s : Int} {a b c d : Ty} (h : right (twoT 9 a b) = true) (h' : right (twoT 9 c d) = true) : sb s (twoT 9 a b) (twoT 9 c d) = (sb (other s) c a && sb s b d) := by
  rw [sb_eq h h', twoT, twoT]
  have e : ∀ x y : Ty, (Ty.mk 9 0 [x, y]).kind = 9 := fun _ _ => rfl
  simp only [e, kidF]
  simp [Ty.kid, Ty.kids, Ty.num]
theorem sb_pair {s : Int} {a b c d : Ty} (h : right (twoT 7 a b) = true) (h' : right (twoT 7 c d) = true) : sb s (twoT 7 a b) (twoT 7 c d) = (sb s a c && sb s b d) := by
  rw [sb_eq h h', twoT, twoT]
  have e : ∀ x y : Ty, (Ty.mk 7 0 [x, y]).kind = 7 := fun _ _ => rfl
  simp only [e, kidF]
  simp [Ty.kid, Ty.kids, Ty.num]
theorem sb_list {s : Int} {a c : Ty} (h : right (listT a) = true) (h' : right (listT c) = true) : sb s (listT a) (listT c) = sb s a c := by
  rw [sb_eq h h', listT, listT]
  have e : ∀ x : Ty, (Ty.mk 8 0 [x]).kind = 8 := fun _ => rfl
  simp only [e, kidF]
  simp [Ty.kid, Ty.kids, Ty.num]
theorem sb_apart {s : Int} {a b c d : Ty} (h : right (twoT 9 a b) = true) (h' : right (twoT 7 c d) = true) : sb s (twoT 9 a b) (twoT 7 c d) = false := by
  rw [← Bool.not_eq_true, sb_iff h h']
  rintro (h | h | ⟨_, h, _⟩ | ⟨_, _, h, _⟩)
  · exact absurd h.2 (show ¬ ((7 : Int) = 5) by decide)
  · exact absurd h.2 (show ¬ ((9 : Int) = 5) by decide)
  · exact absurd h (show ¬ ((7 : Int) = 5) by decide)
  · exact absurd h (show ¬ ((9 : Int) = 7) by decide)

end Go.Proofs.Ytdngjamjccjlmaa
end

section
/- Agreement and meets: further laws. No condition. -/
set_option linter.unusedSimpArgs false
set_option linter.unusedVariables false
namespace Go.Proofs.Ytdngjamjccjlmaa
open Go Go.Ab

theorem agree_kids {a b : Ty} (h5 : a.kind ≠ 5) (h5' : b.kind ≠ 5) : agree a b = true ↔ a.kind = b.kind ∧ a.num = b.num ∧ ∀ i, i < a.kids.length → agree (a.kid i) (b.kid i) = true := by
  rw [agree_iff]; simp [h5, h5']

theorem agree_two {k : Int} {a b c d : Ty} (h : k ≠ 5) : agree (twoT k a b) (twoT k c d) = (agree a c && agree b d) := by
  rw [agree_eq]
  simp [twoT, Ty.kind, Ty.num, Ty.kids, Ty.kid, h, allN_succ, allN_zero, List.length_cons]
theorem agree_list {a c : Ty} : agree (listT a) (listT c) = agree a c := by
  rw [agree_eq]
  simp [listT, Ty.kind, Ty.num, Ty.kids, Ty.kid, allN_succ, allN_zero, List.length_cons]
theorem meet_two {k : Int} {a b c d : Ty} (h : k ≠ 5) : meet (twoT k a b) (twoT k c d) = twoT k (meet a c) (meet b d) := by
  rw [meet_eq]
  simp [twoT, Ty.kind, Ty.kids, Ty.kid, h, List.range_succ]
theorem meet_list {a c : Ty} : meet (listT a) (listT c) = listT (meet a c) := by
  rw [meet_eq]
  simp [listT, Ty.kind, Ty.kids, Ty.kid, List.range_succ]

theorem without_meet : ∀ {a b : Ty}, right a = true → right b = true → agree a b = true → (without 6 a = true → without 6 b = true → without 6 (meet a b) = true) ∧ (without 5 a = true → without 5 (meet a b) = true ∧ meet a b = a) := by
  refine fun {a} {b} => ?_
  induction a using Ty.ind generalizing b with
  | h a ih =>
    intro ha hb h
    rcases agree_iff.1 h with ⟨h1, h2⟩ | ⟨h1, h2, h3⟩ | ⟨h1, h2, hk, hn, hkid⟩
    · rw [meet_dyn_l h1]
      exact ⟨fun _ h => h, fun h => absurd h1 (without_kind h)⟩
    · rw [meet_dyn_r h1 h2]
      exact ⟨fun h _ => h, fun h => ⟨h, rfl⟩⟩
    · have hlen := right_len ha hb hk
      obtain ⟨m1, m2, m3, m4⟩ := meet_same (b := b) ha h1 h2
      refine ⟨fun wa wb => ?_, fun wa => ?_⟩
      · rw [without_eq, Bool.and_eq_true, decide_eq_true_eq, allN_iff, m3, m1]
        refine ⟨without_kind wa, fun i hi => ?_⟩
        rw [m4 i hi]
        exact (ih _ (kidmem hi) (right_kid ha hi) (right_kid hb (hlen.symm ▸ hi)) (hkid i hi)).1 (without_kid wa hi) (without_kid wb (hlen.symm ▸ hi))
      · have key : meet a b = a := by
          refine (Ty.ext' m1.symm m2.symm m3 fun i hi => ?_).symm
          rw [m4 i hi]
          exact ((ih _ (kidmem hi) (right_kid ha hi) (right_kid hb (hlen.symm ▸ hi)) (hkid i hi)).2 (without_kid wa hi)).2.symm
        exact ⟨by rw [key]; exact wa, key⟩

theorem nodesL_le {l m : List Ty} (hl : l.length ≤ m.length) (h : ∀ i, i < l.length → nodes (l.getD i default) ≤ nodes (m.getD i default)) : nodesL l ≤ nodesL m := by
  induction l generalizing m with
  | nil => simp [nodesL]
  | cons x l ih =>
    cases m with
    | nil => simp at hl
    | cons y m =>
      have h0 := h 0 (by simp)
      have h1 := ih (m := m) (by simpa using hl) fun i hi => by simpa using h (i + 1) (by simpa using hi)
      simp at h0
      simp [nodesL]; omega

theorem meet_nodes : ∀ {a b : Ty}, right a = true → right b = true → agree a b = true → nodes a ≤ nodes (meet a b) := by
  refine fun {a} {b} => ?_
  induction a using Ty.ind generalizing b with
  | h a ih =>
    intro ha hb h
    rcases agree_iff.1 h with ⟨h1, h2⟩ | ⟨h1, h2, h3⟩ | ⟨h1, h2, hk, hn, hkid⟩
    · rw [meet_dyn_l h1, dyn_eq ha h1]
      exact nodes_pos b
    · rw [meet_dyn_r h1 h2]; exact Nat.le_refl _
    · have hlen := right_len ha hb hk
      obtain ⟨m1, m2, m3, m4⟩ := meet_same (b := b) ha h1 h2
      rw [nodes_eq, nodes_eq (meet a b)]
      refine Nat.add_le_add_left (nodesL_le (Nat.le_of_eq m3.symm) fun i hi => ?_) 1
      have := m4 i hi
      simp only [Ty.kid] at this
      rw [this]
      exact ih _ (kidmem hi) (right_kid ha hi) (right_kid hb (hlen.symm ▸ hi)) (hkid i hi)
theorem meet_nodes_r {a b : Ty} (ha : right a = true) (hb : right b = true) (h : agree a b = true) : nodes b ≤ nodes (meet a b) := by
  rw [meet_comm ha hb h]; exact meet_nodes hb ha (agree_symm ha hb h)

theorem nodesL_le2 {l m k : List Ty} (hl : l.length ≤ m.length) (hk : l.length ≤ k.length) (h : ∀ i, i < l.length → nodes (l.getD i default) ≤ nodes (m.getD i default) + nodes (k.getD i default)) : nodesL l ≤ nodesL m + nodesL k := by
  induction l generalizing m k with
  | nil => simp [nodesL]
  | cons x l ih =>
    cases m with
    | nil => simp at hl
    | cons y m =>
      cases k with
      | nil => simp at hk
      | cons z k =>
        have h0 := h 0 (by simp)
        have h1 := ih (m := m) (k := k) (by simpa using hl) (by simpa using hk) fun i hi => by simpa using h (i + 1) (by simpa using hi)
        simp at h0
        simp [nodesL]; omega
theorem meet_size : ∀ {a b : Ty}, right a = true → right b = true → agree a b = true → nodes (meet a b) ≤ nodes a + nodes b := by
  refine fun {a} {b} => ?_
  induction a using Ty.ind generalizing b with
  | h a ih =>
    intro ha hb h
    rcases agree_iff.1 h with ⟨h1, h2⟩ | ⟨h1, h2, h3⟩ | ⟨h1, h2, hk, hn, hkid⟩
    · rw [meet_dyn_l h1]; omega
    · rw [meet_dyn_r h1 h2]; omega
    · have hlen := right_len ha hb hk
      obtain ⟨m1, m2, m3, m4⟩ := meet_same (b := b) ha h1 h2
      rw [nodes_eq a, nodes_eq b, nodes_eq (meet a b)]
      have := nodesL_le2 (l := (meet a b).kids) (m := a.kids) (k := b.kids) (by omega) (by omega) fun i hi => by
        rw [m3] at hi
        have := m4 i hi
        simp only [Ty.kid] at this
        rw [this]
        exact ih _ (kidmem hi) (right_kid ha hi) (right_kid hb (hlen.symm ▸ hi)) (hkid i hi)
      omega

/-- What agrees agrees with its meet. -/
theorem agree_meet : ∀ {a b : Ty}, right a = true → right b = true → agree a b = true → agree a (meet a b) = true ∧ meet a (meet a b) = meet a b := by
  refine fun {a} {b} => ?_
  induction a using Ty.ind generalizing b with
  | h a ih =>
    intro ha hb h
    rcases agree_iff.1 h with ⟨h1, h2⟩ | ⟨h1, h2, h3⟩ | ⟨h1, h2, hk, hn, hkid⟩
    · rw [meet_dyn_l h1, meet_dyn_l h1]
      exact ⟨h, rfl⟩
    · rw [meet_dyn_r h1 h2]
      exact ⟨agree_refl ha, meet_idem ha⟩
    · have hlen := right_len ha hb hk
      obtain ⟨m1, m2, m3, m4⟩ := meet_same (b := b) ha h1 h2
      have hm5 : (meet a b).kind ≠ 5 := by rw [m1]; exact h1
      obtain ⟨n1, n2, n3, n4⟩ := meet_same (b := meet a b) ha h1 hm5
      have key := fun i hi => ih _ (kidmem hi) (right_kid ha hi) (right_kid hb (hlen.symm ▸ hi)) (hkid i hi)
      refine ⟨(agree_kids h1 hm5).2 ⟨m1.symm, m2.symm, fun i hi => ?_⟩, Ty.ext' (by rw [n1, m1]) (by rw [n2, m2]) (by rw [n3, m3]) fun i hi => ?_⟩
      · rw [m4 i hi]; exact (key i hi).1
      · rw [n3] at hi
        rw [n4 i hi, m4 i hi]; exact (key i hi).2
theorem agree_meet_r {a b : Ty} (ha : right a = true) (hb : right b = true) (h : agree a b = true) : agree (meet a b) b = true ∧ meet (meet a b) b = meet a b := by
  have hm := meet_right ha hb h
  have h' := agree_symm ha hb h
  have := agree_meet hb ha h'
  rw [← meet_comm ha hb h] at this
  exact ⟨agree_symm hb hm this.1, by rw [← meet_comm hb hm this.1]; exact this.2⟩

theorem agree_static : ∀ {a b : Ty}, right a = true → right b = true → without 5 a = true → without 5 b = true → (agree a b = true ↔ a = b) := by
  refine fun {a} {b} => ?_
  intro ha hb wa wb
  constructor
  · intro h
    have e1 := ((without_meet ha hb h).2 wa).2
    have e2 := ((without_meet hb ha (agree_symm ha hb h)).2 wb).2
    rw [← meet_comm ha hb h] at e2
    exact e1.symm.trans e2
  · rintro rfl; exact agree_refl ha

theorem agree_dyn_r {a : Ty} (ha : right a = true) : agree a dynT = without 6 a := by
  rw [agree_eq]
  by_cases h : a.kind = 5
  · have e := dyn_eq ha h
    rw [if_pos h]; subst e; rfl
  · rw [if_neg h, if_pos (show dynT.kind = 5 from rfl)]
theorem agree_dyn_l {a : Ty} : agree dynT a = without 6 a := by
  rw [agree_eq]; simp [dynT, Ty.kind]

theorem agree_apart {a b c d : Ty} {k l : Int} (hk : k ≠ 5) (hl : l ≠ 5) (h : k ≠ l) : agree (twoT k a b) (twoT l c d) = false := by
  rw [agree_eq]; simp [twoT, Ty.kind, hk, hl, h]

end Go.Proofs.Ytdngjamjccjlmaa
end

