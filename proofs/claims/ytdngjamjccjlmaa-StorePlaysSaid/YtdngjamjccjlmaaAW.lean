/- A drawn region walked under another table of calls. Conditions stand ahead of each part. -/
import Derived.Test.YtdngjamjccjlmaaPAd
set_option linter.unusedSimpArgs false
set_option linter.unusedVariables false
namespace Go.Ab
open Go
theorem zoR{P:Program}{A D:Cfg}{K:Exit->AState->Prop}{k:List KI}{s:AState}{id:Nat}{ops:Array Oper}(h:Go P D (Un P A K k) [.code (.region id ops true)] s):Go P A K (.code (.region id ops true)::k) s:=h
end Go.Ab
