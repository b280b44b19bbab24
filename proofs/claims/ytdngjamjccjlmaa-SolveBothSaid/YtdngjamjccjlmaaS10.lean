/- Variables of types that were made in a store, and levels. No condition. -/
import Derived.Test.YtdngjamjccjlmaaPSb
set_option linter.unusedSimpArgs false
set_option linter.unusedVariables false
namespace Go.Proofs.Ytdngjamjccjlmaa
open Go Go.Ab

end Go.Proofs.Ytdngjamjccjlmaa
