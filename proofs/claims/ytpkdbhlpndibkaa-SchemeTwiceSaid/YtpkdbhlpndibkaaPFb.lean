/- Lemmas: the functions of types, second part. No condition. -/
import Derived.Test.YtpkdbhlpndibkaaPFa
import Derived.Test.YtpkdbhlpndibkaaPMa

section
/- Plain laws: grounds. No condition. -/
set_option linter.unusedSimpArgs false
set_option linter.unusedVariables false
namespace Go.Proofs.Ytpkdbhlpndibkaa
open Go Go.Ab

end Go.Proofs.Ytpkdbhlpndibkaa
end

section
/- Plain laws: subtypes. No condition. -/
set_option linter.unusedSimpArgs false
set_option linter.unusedVariables false
namespace Go.Proofs.Ytpkdbhlpndibkaa
open Go Go.Ab

/-! SubDyn. -/
/-! SubParts. -/
end Go.Proofs.Ytpkdbhlpndibkaa
end

