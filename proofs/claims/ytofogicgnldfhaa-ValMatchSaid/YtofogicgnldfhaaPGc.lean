/- Lemmas: the functions of coercions, third part. No condition. -/
import Derived.Test.YtofogicgnldfhaaPGa
import Derived.Test.YtofogicgnldfhaaPFa
import Derived.Test.YtofogicgnldfhaaPCa
import Derived.Test.YtofogicgnldfhaaPGb

section
/- Walks: from where to where coercions go. No condition. -/
set_option linter.unusedSimpArgs false
set_option linter.unusedVariables false
set_option maxHeartbeats 4000000
set_option maxRecDepth 100000
namespace Go.Proofs.Ytofogicgnldfhaa
open Go Go.Ab
attribute [local irreducible] PCalls ACalls CallK GoCall GoDCall GoIf GoGb GoDGb GoO GoD GoX GoDX GoG GoDG GoGv GoDGv Go ALoop

def FitsOK (f : Nat) (k : K) (a b : T) : Prop := PCalls Try.prog f [embC k.co, emb a.ty, emb b.ty] (.bool (fitsK k a b))

end Go.Proofs.Ytofogicgnldfhaa
end

section
/- Walks: casts as coercions. No condition. -/
set_option linter.unusedSimpArgs false
set_option linter.unusedVariables false
set_option maxHeartbeats 4000000
set_option maxRecDepth 100000
namespace Go.Proofs.Ytofogicgnldfhaa
open Go Go.Ab
attribute [local irreducible] PCalls ACalls CallK GoCall GoDCall GoIf GoGb GoDGb GoO GoD GoX GoDX GoG GoDG GoGv GoDGv Go ALoop

def mu (a b : T) : Nat := 2 * max a.size b.size + if a.isDyn || b.isDyn then 1 else 0
def CastOK (f : Nat) (l : Int) (a b : T) (n : Bool) : Prop := PCalls Try.prog f [emb a.ty, emb b.ty, .int .i64 l, .bool n] (embC (castT l a b n).co)


end Go.Proofs.Ytofogicgnldfhaa
end

