/- Layer 11: matching: plain laws about the binds of the statements. No condition. -/
import Derived.Test.YtmpegnogdgbleaaE4
import Derived.Test.YtmpegnogdgbleaaPEa
set_option linter.unusedSimpArgs false
set_option linter.unusedVariables false
namespace Go.Proofs.Ytmpegnogdgbleaa
open Go Go.Ab
noncomputable def gT(l:List Ty)(c:Bool)(i:Nat):T:=if l.length=0 then .base 0 else zSc c (tOf (l.getD (i % l.length) default))
end Go.Proofs.Ytmpegnogdgbleaa
