/- Types as trees, back. No condition. -/
import Derived.Test.YtofogicgnldfhaaPCa
set_option linter.unusedVariables false
namespace Go.Proofs.Ytofogicgnldfhaa
open Go Go.Ab
open Classical

noncomputable def tOf (a : Ty) : T := if h : ∃ x : T, a = x.ty then h.choose else .dyn
theorem T.of_right' {a : Ty} (h : right a = true) : ∃ x : T, a = x.ty ∧ x.ok = true := by
  obtain ⟨x, rfl⟩ := T.of_right a h
  exact ⟨x, rfl, by rw [← T.right_ty]; exact h⟩
end Go.Proofs.Ytofogicgnldfhaa
