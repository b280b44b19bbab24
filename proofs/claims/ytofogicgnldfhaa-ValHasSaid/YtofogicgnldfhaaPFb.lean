/- Lemmas: the functions of types, second part. No condition. -/
import Derived.Test.YtofogicgnldfhaaPFa
import Derived.Test.YtofogicgnldfhaaPMa

section
/- Walks: fill, put, Less. No condition. -/
set_option linter.unusedSimpArgs false
set_option linter.unusedVariables false
set_option maxHeartbeats 4000000
namespace Go.Proofs.Ytofogicgnldfhaa
open Go Go.Ab

theorem bools_norm (l : List Bool) : AV.normL (l.map AV.bool) = l.map AV.bool := by induction l with | nil => rfl | cons b l ih => simp [AV.normL, AV.norm, ih]

end Go.Proofs.Ytofogicgnldfhaa
end

section
/- Plain laws: grounds. No condition. -/
set_option linter.unusedSimpArgs false
set_option linter.unusedVariables false
namespace Go.Proofs.Ytofogicgnldfhaa
open Go Go.Ab

end Go.Proofs.Ytofogicgnldfhaa
end

section
/- Plain laws: subtypes. No condition. -/
set_option linter.unusedSimpArgs false
set_option linter.unusedVariables false
namespace Go.Proofs.Ytofogicgnldfhaa
open Go Go.Ab

/-! SubDyn. -/
/-! SubParts. -/
end Go.Proofs.Ytofogicgnldfhaa
end

