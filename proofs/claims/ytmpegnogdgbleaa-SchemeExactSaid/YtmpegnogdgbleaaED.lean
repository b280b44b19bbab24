/- Whatever the input: SchemeCanon answers true, and its arguments read as they did. No condition. -/
import Derived.Test.YtmpegnogdgbleaaLawS
import Derived.Test.YtmpegnogdgbleaaPLa
import Derived.Test.YtmpegnogdgbleaaEC
namespace Go.Proofs.Ytmpegnogdgbleaa
open Go Go.Ab
end Go.Proofs.Ytmpegnogdgbleaa
