/- The key words, as the page has them in one text; plain Lean. No condition. -/
import Derived.Test.YtofogicgnldfhaaPYa
set_option linter.unusedSimpArgs false
set_option linter.unusedVariables false
set_option maxRecDepth 100000
namespace Go.Proofs.Ytofogicgnldfhaa
open Go Go.Ab

/-- All key words, between blanks. -/
def wordsL : List UInt8 := [32, 108, 101, 116, 32, 114, 101, 99, 32, 105, 110, 32, 102, 117, 110, 32, 105, 102, 32, 116, 104, 101, 110, 32, 101, 108, 115, 101, 32, 109, 97, 116, 99, 104, 32, 119, 105, 116, 104, 32, 101, 110, 100, 32, 116, 114, 117, 101, 32, 102, 97, 108, 115, 101, 32, 105, 110, 116, 32, 98, 111, 111, 108, 32, 115, 116, 114, 105, 110, 103, 32, 117, 110, 105, 116, 32, 108, 105, 115, 116, 32]
def lowU (c : UInt8) : Bool := decide (97 ≤ c.toNat) && decide (c.toNat ≤ 122)
def runAt (i : Nat) : List UInt8 := (wordsL.drop (i + 1)).takeWhile lowU
theorem runs_key : ∀ i < 81, (wordsL.getD i 0 == 32) = true → runAt i = [] ∨ keys.contains (runAt i) = true := by decide +kernel
theorem keys_run : ∀ k ∈ keys, (List.range 81).any (fun i => decide (i + (k.length + 2) ≤ 81) && ((wordsL.drop i).take (k.length + 2) == 32 :: (k ++ [32]))) = true := by decide +kernel
theorem keys_pos : ∀ k ∈ keys, 0 < k.length := by decide +kernel
theorem takeWhile_app {l r : List UInt8} (h : ∀ x ∈ l, lowU x = true) : (l ++ 32 :: r).takeWhile lowU = l := by
  induction l with
  | nil => simp [List.takeWhile, show lowU 32 = false by decide]
  | cons a l ih =>
    rw [List.cons_append, List.takeWhile_cons_of_pos (h a List.mem_cons_self), ih fun x hx => h x (List.mem_cons_of_mem _ hx)]
/-- At one place. -/
def keyAt (l : List UInt8) (i : Nat) : Bool := (wordsL.drop i).take (l.length + 2) == 32 :: (l ++ [32])
theorem keyAt_run {l : List UInt8} {i : Nat} (hl : ∀ x ∈ l, lowU x = true) (hi : i < 81) (h : keyAt l i = true) : wordsL.getD i 0 = 32 ∧ runAt i = l := by
  simp only [keyAt, beq_iff_eq] at h
  have e : wordsL.drop i = 32 :: (l ++ [32]) ++ (wordsL.drop i).drop (l.length + 2) := by
    conv => lhs; rw [← List.take_append_drop (l.length + 2) (wordsL.drop i), h]
  generalize (wordsL.drop i).drop (l.length + 2) = r at e
  constructor
  · have g : wordsL[i]? = (wordsL.drop i)[0]? := by simp
    rw [List.getD_eq_getElem?_getD, g, e]; rfl
  · unfold runAt
    have : wordsL.drop (i + 1) = (wordsL.drop i).drop 1 := by rw [List.drop_drop]
    rw [this, e]
    simp only [List.cons_append, List.drop_succ_cons, List.drop_zero, List.append_assoc, List.nil_append]
    exact takeWhile_app hl
theorem keyAt_iff {l : List UInt8} (hl : ∀ x ∈ l, lowU x = true) : (∃ i, i + (l.length + 2) ≤ 81 ∧ 0 < l.length ∧ keyAt l i = true) ↔ keys.contains l = true := by
  constructor
  · rintro ⟨i, hi, hp, h⟩
    obtain ⟨h1, h2⟩ := keyAt_run hl (by omega) h
    rcases runs_key i (by omega) (by simp only [h1, beq_self_eq_true]) with h3 | h3
    · rw [h3] at h2; subst h2; simp at hp
    · rwa [h2] at h3
  · intro h
    have hm : l ∈ keys := by simpa using h
    have h1 := keys_run l hm
    rw [List.any_eq_true] at h1
    obtain ⟨i, _, h2⟩ := h1
    simp only [Bool.and_eq_true, decide_eq_true_eq] at h2
    exact ⟨i, h2.1, keys_pos l hm, h2.2⟩

end Go.Proofs.Ytofogicgnldfhaa
