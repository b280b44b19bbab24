/- Lemmas: the functions of types, second part. No condition. -/
import Derived.Test.YtdngjamjccjlmaaPFa
import Derived.Test.YtdngjamjccjlmaaPMa

section
/- Plain laws: grounds. No condition. -/
set_option linter.unusedSimpArgs false
set_option linter.unusedVariables false
namespace Go.Proofs.Ytdngjamjccjlmaa
open Go Go.Ab

end Go.Proofs.Ytdngjamjccjlmaa
end

section
/- Plain laws: subtypes. No condition. -/
set_option linter.unusedSimpArgs false
set_option linter.unusedVariables false
namespace Go.Proofs.Ytdngjamjccjlmaa
open Go Go.Ab

/-! SubDyn. -/
/-! SubParts. -/
end Go.Proofs.Ytdngjamjccjlmaa
end

