/- Types that stores and matching give: right, closed, static. No condition. -/
import Derived.Test.YtdngjamjccjlmaaEM
import Derived.Test.YtdngjamjccjlmaaPNb
set_option linter.unusedSimpArgs false
set_option linter.unusedVariables false
namespace Go.Proofs.Ytdngjamjccjlmaa
open Go Go.Ab
theorem zRQ:∀a:T,(∀z,a.has z=true->0<=z/\z<=1048576)->a.ok=true:=by
 intro a
 induction a with
 |var n=>intro h;have:=h n (by simp[T.has]);simp[T.ok,this.1,this.2]
 |pair a b ih1 ih2=>intro h;simp only[T.ok,YAA];exact⟨ih1 fun z hz=>h z (by simp[T.has,hz]),ih2 fun z hz=>h z (by simp[T.has,hz])⟩
 |fn a b ih1 ih2=>intro h;simp only[T.ok,YAA];exact⟨ih1 fun z hz=>h z (by simp[T.has,hz]),ih2 fun z hz=>h z (by simp[T.has,hz])⟩
 |list a ih1=>intro h;exact ih1 fun z hz=>h z (by simp[T.has,hz])
 |_=>intro _;rfl
theorem Wf.zYC{S:St}(hw:Wf S)(hl:S.length<=1000000){n:Nat}(hn:n<S.length):(S.tT n).ok=true:=
 zRQ _ fun z hz=>by
  obtain⟨m,rfl,h1,_⟩:=hw.zK9 n hn z hz
  omega
theorem zXd:∀a:T,a.stat=a.static:=by
 intro a;induction a<;>simp_all [T.stat,T.static]
end Go.Proofs.Ytdngjamjccjlmaa
