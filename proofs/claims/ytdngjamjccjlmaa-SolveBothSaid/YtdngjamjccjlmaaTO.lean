/- Types as trees, back. No condition. -/
import Derived.Test.YtdngjamjccjlmaaPCa
set_option linter.unusedVariables false
namespace Go.Proofs.Ytdngjamjccjlmaa
open Go Go.Ab
open Classical

noncomputable def tOf (a : Ty) : T := if h : ∃ x : T, a = x.ty then h.choose else .dyn
theorem tOf_ty (x : T) : tOf x.ty = x := by
  have h : ∃ k' : T, x.ty = k'.ty := ⟨x, rfl⟩
  unfold tOf; rw [dif_pos h]; exact (T.ty_inj h.choose_spec).symm
theorem nodes_size (t : T) : nodes t.ty = t.size := by
  induction t with
  | base k => rfl
  | dyn => rfl
  | var n => rfl
  | pair a b ih1 ih2 => simp only [T.ty, nodes, nodesL, T.size, ih1, ih2]; omega
  | fn a b ih1 ih2 => simp only [T.ty, nodes, nodesL, T.size, ih1, ih2]; omega
  | list a ih1 => simp only [T.ty, nodes, nodesL, T.size, ih1]; omega

end Go.Proofs.Ytdngjamjccjlmaa
