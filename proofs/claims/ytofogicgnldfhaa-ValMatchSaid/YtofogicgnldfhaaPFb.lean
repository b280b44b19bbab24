/- Lemmas: the functions of types, second part. No condition. -/
import Derived.Test.YtofogicgnldfhaaPFa
import Derived.Test.YtofogicgnldfhaaPMa

section
/- Plain laws: grounds. No condition. -/
set_option linter.unusedSimpArgs false
set_option linter.unusedVariables false
namespace Go.Proofs.Ytofogicgnldfhaa
open Go Go.Ab

end Go.Proofs.Ytofogicgnldfhaa
end

section
/- Plain laws: subtypes. No condition. -/
set_option linter.unusedSimpArgs false
set_option linter.unusedVariables false
namespace Go.Proofs.Ytofogicgnldfhaa
open Go Go.Ab

/-! SubDyn. -/
/-! SubParts. -/
end Go.Proofs.Ytofogicgnldfhaa
end

