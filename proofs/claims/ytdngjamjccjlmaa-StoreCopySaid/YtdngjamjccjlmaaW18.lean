/- Walks: the store: whether there is ?; levels are lowered. No condition. -/
import Derived.Test.YtdngjamjccjlmaaW17
set_option linter.unusedSimpArgs false
set_option linter.unusedVariables false
set_option maxHeartbeats 4000000
set_option maxRecDepth 100000
namespace Go.Proofs.Ytdngjamjccjlmaa
open Go Go.Ab
attribute [local irreducible] PCalls ACalls CallK GoCall GoDCall GoIf GoGb GoDGb GoO GoD GoX GoDX GoG GoDG GoGv GoDGv Go ALoop

section
variable {F : List AObj} {s r v : Nat} {L : Mem} {lim cnt rd : Int}
end

end Go.Proofs.Ytdngjamjccjlmaa
