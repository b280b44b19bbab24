/- Layer 11: numbers anew. No condition. -/
import Derived.Test.YtpkdbhlpndibkaaEB
import Derived.Test.YtpkdbhlpndibkaaPW
set_option linter.unusedSimpArgs false
set_option linter.unusedVariables false
set_option maxHeartbeats 4000000
set_option maxRecDepth 100000
namespace Go.Proofs.Ytpkdbhlpndibkaa
open Go Go.Ab
attribute [local irreducible] PCalls ACalls CallK GoCall GoDCall GoIf GoGb GoDGb GoO GoD GoX GoDX GoG GoDG GoGv GoDGv Go ALoop

end Go.Proofs.Ytpkdbhlpndibkaa
