/- Walks: the page wraps a value, takes its parts. No condition. -/
import Derived.Test.YtofogicgnldfhaaPYh
import Derived.Test.YtofogicgnldfhaaPYe
set_option linter.unusedSimpArgs false
set_option linter.unusedVariables false
set_option maxHeartbeats 4000000
set_option maxRecDepth 100000
namespace Go.Proofs.Ytofogicgnldfhaa
open Go Go.Ab
attribute [local irreducible] PCalls ACalls CallK GoCall GoDCall GoIf GoGb GoDGb GoO GoD GoX GoDX GoG GoDG GoGv GoDGv Go ALoop

theorem rightC_dOf {v : Vl} (h : rightV v = true) : rightC (dOf v) = true := by
  unfold dOf
  split
  · decide
  · next hn =>
    have ho := ownV_of h
    simp only [ownV, oneV, aroundV, Bool.and_eq_true] at ho
    have := ho.1.2
    simp only [hn, Bool.false_or, Bool.and_eq_true] at this
    exact this.1
end Go.Proofs.Ytofogicgnldfhaa
