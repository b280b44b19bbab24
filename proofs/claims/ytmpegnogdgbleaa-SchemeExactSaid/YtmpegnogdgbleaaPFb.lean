/- Lemmas: the functions of types, second part. No condition. -/
import Derived.Test.YtmpegnogdgbleaaPFa
import Derived.Test.YtmpegnogdgbleaaPMa
set_option linter.unusedSimpArgs false
set_option linter.unusedVariables false
namespace Go.Proofs.Ytmpegnogdgbleaa
open Go Go.Ab
section
end
section
end
end Go.Proofs.Ytmpegnogdgbleaa
