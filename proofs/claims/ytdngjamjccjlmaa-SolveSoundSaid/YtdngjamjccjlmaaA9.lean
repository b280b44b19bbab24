/- Calls whose heap gets a place for a slice that is nil so far; calls that hand back slices of objects of their own, which nobody writes any more. Conditions stand ahead of each part. -/
import Derived.Test.YtdngjamjccjlmaaA8
set_option linter.unusedSimpArgs false
set_option linter.unusedVariables false
namespace Go.Ab
open Go

section
variable {P : Program}
theorem pcalls_of {f : Nat} {args : List AV} {r : AV} (hr : r.bel 0 = true) (h : ∀ F : List AObj, DCalls P f args F r F) : PCalls P f args r := ⟨hr, h⟩
/-- Arrays that nobody writes any more. -/
def frzA : List (Nat × Nat × List AV) → AV → AV
  | [], x => x
  | (q, ver, es) :: fz, .ms r v n => if r = q ∧ v = ver ∧ n ≤ es.length then .sl (es.take n) .no else frzA fz (.ms r v n)
  | _ :: _, x => x
def frzV (fz : List (Nat × Nat × List AV)) : AV → AV
  | .tup vs => .tup (vs.map (frzA fz))
  | x => frzA fz x
theorem frzA_ms {fz : List (Nat × Nat × List AV)} {r v n : Nat} : frzA fz (.ms r v n) = .ms r v n ∨ ∃ es, (r, v, es) ∈ fz ∧ n ≤ es.length ∧ frzA fz (.ms r v n) = .sl (es.take n) .no := by
  induction fz with
  | nil => exact .inl rfl
  | cons p fz ih =>
    obtain ⟨q, ver, es⟩ := p
    simp only [frzA]
    split
    · rename_i h; obtain ⟨rfl, rfl, h3⟩ := h; exact .inr ⟨es, List.mem_cons_self, h3, rfl⟩
    · rcases ih with h | ⟨es', h1, h2, h3⟩
      · exact .inl h
      · exact .inr ⟨es', List.mem_cons_of_mem _ h1, h2, h3⟩
theorem frzA_other {fz : List (Nat × Nat × List AV)} {x : AV} (h : ∀ r v n, x ≠ .ms r v n) : frzA fz x = x := by
  cases fz with
  | nil => rfl
  | cons p fz => cases x <;> first | rfl | exact absurd rfl (h _ _ _)
/-- What is known of a value where arrays turned into slices. -/
def FrzOK (V V' : View) (fz : List (Nat × Nat × List AV)) : Prop := ∀ q ver es, (q, ver, es) ∈ fz → ∀ n, n ≤ es.length → ∀ u, Rep V u (.ms q ver n) → Rep V' u (.sl (es.take n) .no)
theorem FrzOK.one {V V' : View} {fz : List (Nat × Nat × List AV)} {m : Nat} (h : FrzOK V V' fz) (hc : (V.cut m).Le V') {u : Value} {x : AV} (hu : Rep V u x) (hb : (frzA fz x).bel m = true) : Rep V' u (frzA fz x) := by
  by_cases hx : ∃ r v n, x = .ms r v n
  · obtain ⟨r, v, n, rfl⟩ := hx
    rcases frzA_ms (fz := fz) (r := r) (v := v) (n := n) with e | ⟨es, h1, h2, e⟩
    · rw [e] at hb ⊢; exact (hu.cut hb).mono hc
    · rw [e]; exact h _ _ _ h1 n h2 u hu
  · rw [frzA_other (fun r v n e => hx ⟨r, v, n, e⟩)] at hb ⊢; exact (hu.cut hb).mono hc
theorem FrzOK.val {V V' : View} {fz : List (Nat × Nat × List AV)} {m : Nat} (h : FrzOK V V' fz) (hc : (V.cut m).Le V') {u : Value} {x : AV} (hu : Rep V u x) (hb : (frzV fz x).bel m = true) : Rep V' u (frzV fz x) := by
  by_cases hx : ∃ vs, x = .tup vs
  · obtain ⟨vs, rfl⟩ := hx
    simp only [frzV, AV.bel] at hb ⊢
    cases hu with
    | tup cs _ hl h2 =>
      refine .tup cs _ (by simpa using hl) fun i hi => ?_
      rw [List.length_map] at hi
      have e : (vs.map (frzA fz)).getD i .any = frzA fz (vs.getD i .any) := by simp [hi]
      have := belL_get hb i
      rw [e] at this ⊢
      exact h.one hc (h2 i hi) this
  · have e : frzV fz x = frzA fz x := by cases x <;> first | rfl | exact absurd ⟨_, rfl⟩ hx
    rw [e] at hb ⊢
    exact h.one hc hu hb
end

end Go.Ab
