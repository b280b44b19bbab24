/- Lemmas: the functions of types, second part. No condition. -/
import Derived.Test.YtdngjamjccjlmaaGreatPFa
import Derived.Test.YtdngjamjccjlmaaGreatPMa
set_option linter.unusedSimpArgs false
set_option linter.unusedVariables false
namespace Go.Proofs.YtdngjamjccjlmaaGreat
open Go Go.Ab
section
end
section
end
end Go.Proofs.YtdngjamjccjlmaaGreat
