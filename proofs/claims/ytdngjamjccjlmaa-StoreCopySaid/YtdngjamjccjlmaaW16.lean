/- Layer 12: what is put is read as it was. No condition. -/
import Derived.Test.YtdngjamjccjlmaaW15
set_option linter.unusedSimpArgs false
set_option linter.unusedVariables false
set_option maxHeartbeats 4000000
set_option maxRecDepth 100000
namespace Go.Proofs.Ytdngjamjccjlmaa
open Go Go.Ab
attribute [local irreducible] PCalls ACalls CallK GoCall GoDCall GoIf GoGb GoDGb GoO GoD GoX GoDX GoG GoDG GoGv GoDGv Go ALoop

theorem nodes_size (t : T) : nodes t.ty = t.size := by
  induction t with
  | base k => rfl
  | dyn => rfl
  | var n => rfl
  | pair a b ih1 ih2 => simp only [T.ty, nodes, nodesL, T.size, ih1, ih2]; omega
  | fn a b ih1 ih2 => simp only [T.ty, nodes, nodesL, T.size, ih1, ih2]; omega
  | list a ih1 => simp only [T.ty, nodes, nodesL, T.size, ih1]; omega
theorem take_low {G F H : List AObj} {b : Nat} (ht : G.take F.length = F) (hb : b ≤ F.length) (h : F.take b = H) : G.take b = H := by
  have e : (G.take F.length).take b = G.take b := by rw [List.take_take, Nat.min_eq_left hb]
  rw [← e, ht, h]
end Go.Proofs.Ytdngjamjccjlmaa
