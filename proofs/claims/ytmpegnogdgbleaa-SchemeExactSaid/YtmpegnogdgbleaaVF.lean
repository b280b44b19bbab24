/- Layer 11: the document's Under, plain: it tells whether an instance is below another one. No condition. -/
import Derived.Test.YtmpegnogdgbleaaPVb
import Derived.Test.YtmpegnogdgbleaaUU
set_option linter.unusedSimpArgs false
set_option linter.unusedVariables false
namespace Go.Proofs.Ytmpegnogdgbleaa
open Go Go.Ab
def apT(t:T):T:=putS (fun n=> .var (2097154+n)) t
theorem zr5:∀ {x:T},x.ok=true->∀n,x.has n=true->0<=n/\n<=1048576:=zLA
theorem zqk{t:T}{n:Int}(h:(apT t).has n=true):t.has (n-2097154)=true:=by
 obtain⟨m,h1,h2⟩:=(zr7 t).1 h
 have:2097154+m=n:=by simpa [T.has]using h2
 rw[show n-2097154=m by omega];exact h1
theorem zqj{t:T}(h:t.ok=true):FbV 4194308 (apT t):=fun n hn=>by
 have:=zr5 h _ (zqk hn);omega
theorem zr4{t:T}(h:t.ok=true):FbV 4194308 t:=fun n hn=>by
 have:=zr5 h _ hn;omega
theorem zs4{t u:T}(ht:t.ok=true)(hu:u.ok=true){f:Nat}{r:Bool}{R':List BT}(h:beV f [] t (apT u)=some (r,R')):r=true ↔ UndT t u:=by
 have e0:frN []=4194308:=rfl
 have o:=zqv f [] t (apT u) r R' trivial (fun n t h=>by cases h) (by rw[e0];exact zr4 ht) (by rw[e0];exact zqj hu) h
 constructor
 ·intro hr
  have hs:=zsY o.wf
  have hb:=o.so hr _ hs _ YAU
  refine⟨_,fun n=>(fun n=>putS (fun _=> .base 0) (thV R' n)) (2097154+n),hs.g,fun n=>hs.g (2097154+n),?_⟩
  rw[apT,zsA]at hb
  exact hb
 ·rintro⟨σ,τ,hσ,hτ,hb⟩
  have e1:putS (fun n=>if n<2097154 then σ n else τ (n-2097154)) t=putS σ t:=zr6 t fun n hn=>by
   have:=zr5 ht n hn
   rw[if_pos (by omega)]
  have e2:putS (fun n=>if n<2097154 then σ n else τ (n-2097154)) (apT u)=putS τ u:=by
   rw[apT,zsA]
   refine zr6 u fun n hn=> ?_
   have:=zr5 hu n hn
   simp only[putS]
   rw[if_neg (by omega),show 2097154+n-2097154=n by omega]
  refine(o.co (fun n=>if n<2097154 then σ n else τ (n-2097154)) ⟨fun n=> ?_,fun n t hl=>by cases hl⟩ fun p hp=> ?_).1
  ·show GdV (if n<2097154 then σ n else τ (n-2097154))
   split
   ·exact hσ n
   ·exact hτ _
  ·simp only[List.mem_singleton]at hp
   subst hp
   simp only
   rw[e1,e2];exact hb
end Go.Proofs.Ytmpegnogdgbleaa
