/- Lemmas: how a law is said. No condition. -/
import Derived.Test.YtmpegnogdgbleaaRows
import Derived.ProofKit
set_option maxRecDepth 100000
namespace Go.Proofs.Ytmpegnogdgbleaa
open Go
section
def ioL:List Char:=['h','a','r','n','e','s','s',' ','4','c','8','b','d','1','f','5','d','8','9','c','f','1','9','a','4','f','9','8','6','d','a','f','8','0','9','e','9','e','5','3','4','3','e','2','c','6','9','5','2','a','9','b','8','4','1','1','1','c','1','e','a','a','1','f','a','f','0','0','f','8','d','8',' ','c','u','t',' ','a','t',' ','s','u','r','e','t','y','/','s','u','r','e','t','y','l','a','w','1','1','.','S','c','h','e','m','e','E','x','a','c','t',' ','s','u','r','e','t','y','/','s','u','r','e','t','y','l','a','w','1','1','.','S','c','h','e','m','e','M','a','t','c','h',' ','s','u','r','e','t','y','/','s','u','r','e','t','y','l','a','w','1','1','.','S','c','h','e','m','e','C','a','n','o','n',' ','s','u','r','e','t','y','/','s','u','r','e','t','y','l','a','w','1','1','.','S','c','h','e','m','e','T','w','i','c','e',' ','s','u','r','e','t','y','/','s','u','r','e','t','y','l','a','w','1','1','.','S','c','h','e','m','e','U','n','d','e','r',' ','s','u','r','e','t','y','/','s','u','r','e','t','y','l','a','w','1','1','.','S','c','h','e','m','e','U','n','d','e','r','S','e','l','f']
theorem zL4:Try.prog.initOrder=String.ofList ioL:=by kernel_rfl
theorem zL6:Try.prog.initOrder.toList=ioL:=by rw[zL4,String.toList_ofList]
theorem zL8:Try.prog.mayEnter=true:=by
 unfold Program.mayEnter
 rw[zL6]
 kernel_rfl
theorem zL7:Try.prog.make=some .cut:=by
 unfold Program.make
 rw[zL6]
 kernel_rfl
theorem zL5:Try.prog.liftsFinal=false:=by
 unfold Program.liftsFinal Program.headLifts
 rw[zL6]
 kernel_rfl
end
end Go.Proofs.Ytmpegnogdgbleaa
