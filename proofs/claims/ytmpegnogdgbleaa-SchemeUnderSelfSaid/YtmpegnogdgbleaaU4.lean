/- Layer 11: put on graphs. Plain; no condition. -/
import Derived.Test.YtmpegnogdgbleaaU3
set_option linter.unusedSimpArgs false
set_option linter.unusedVariables false
namespace Go.Proofs.Ytmpegnogdgbleaa
open Go Go.Ab
section
variable {N : List Nd} {ρ ρ' : Nat -> T}
theorem Mdl.congr(g:Gr N)(M:Mdl N ρ)(h:∀j,j<N.length->ρ' j=ρ j):Mdl N ρ':=by
 refine⟨fun n hn=>by rw[h n hn];exact M.gr n hn,fun n hn=>by rw[h n hn,h _ (g.ln n hn)];exact M.ln n hn,fun n hn hk=> ?_⟩
 rw[h n hn]
 obtain⟨k1,k2⟩:=M.kd n hn hk
 refine⟨k1,by rw[k2];exact List.map_congr_left fun j hj=>(h j (g.kd n hn j hj)).symm⟩
def addN(N:List Nd)(k:Int)(ks:List Nat):List Nd:=N++ [(k,N.length,ks)]
theorem zhf(k:Int)(ks:List Nat):(addN N k ks).length=N.length+1:=by simp[addN]
theorem zhe{n:Nat}(hn:n<N.length)(k:Int)(ks:List Nat):(addN N k ks).getD n (0,n,[])=N.getD n (0,n,[]):=by
 simp[addN,YAG hn]
theorem zhg(k:Int)(ks:List Nat):(addN N k ks).getD N.length (0,N.length,[])=(k,N.length,ks):=by simp[addN]
theorem zhh{n:Nat}(hn:N.length+1<=n)(k:Int)(ks:List Nat):(addN N k ks).getD n (0,n,[])=N.getD n (0,n,[]):=by
 simp only[YAF]
 rw[YAR (by rw[zhf];exact hn),YAR (by omega)]
theorem zjQ{n:Nat}(hn:n<N.length)(k:Int)(ks:List Nat):lnk (addN N k ks) n=lnk N n:=by rw[lnk,zhe hn,lnk]
theorem zi5{n:Nat}(hn:n<N.length)(k:Int)(ks:List Nat):knd (addN N k ks) n=knd N n:=by rw[knd,zhe hn,knd]
theorem zi0{n:Nat}(hn:n<N.length)(k:Int)(ks:List Nat):kds (addN N k ks) n=kds N n:=by rw[kds,zhe hn,kds]
theorem Mdl.add(k:Int)(ks:List Nat):Mdl (addN N k ks) ρ ↔ (Mdl N ρ/\((ρ N.length).stat=true/\(ρ N.length).closed=true)/\(k≠0->(ρ N.length).kind=k/\(ρ N.length).sub=ks.map ρ)):=by
 have en:lnk (addN N k ks) N.length=N.length/\knd (addN N k ks) N.length=k/\kds (addN N k ks) N.length=ks:=by
  simp only[lnk,knd,kds,zhg,and_self]
 constructor
 ·intro M
  refine⟨⟨fun n hn=>M.gr n (by rw[zhf];omega),fun n hn=> ?_,fun n hn hk=> ?_⟩,M.gr _ (by rw[zhf];omega),fun hk=> ?_⟩
  ·have:=M.ln n (by rw[zhf];omega)
   rwa[zjQ hn]at this
  ·have:=M.kd n (by rw[zhf];omega) (by rwa[zi5 hn])
   rwa[zi5 hn,zi0 hn]at this
  ·have:=M.kd N.length (by rw[zhf];omega) (by rw[en.2.1];exact hk)
   rwa[en.2.1,en.2.2]at this
 ·rintro⟨M,hg,hk⟩
  refine⟨fun n hn=> ?_,fun n hn=> ?_,fun n hn h=> ?_⟩
  all_goals rw[zhf]at hn
  ·by_cases e:n=N.length
   ·rw[e];exact hg
   ·exact M.gr n (by omega)
  ·by_cases e:n=N.length
   ·rw[e,en.1]
   ·rw[zjQ (by omega)];exact M.ln n (by omega)
  ·by_cases e:n=N.length
   ·rw[e]at h⊢;rw[en.2.1]at h⊢;rw[en.2.2];exact hk h
   ·rw[zi5 (by omega)]at h⊢;rw[zi0 (by omega)];exact M.kd n (by omega) h
theorem Rt.add(g:Gr N)(k:Int)(ks:List Nat){d n r:Nat}(h:Rt N d n r)(hn:n<N.length):Rt (addN N k ks) d n r:=by
 induction h with
 |here h=>exact .here (by rw[zjQ hn];exact h)
 |step h1 _ ih=>exact .step (by rw[zjQ hn];exact h1) (by rw[zjQ hn];exact ih (g.ln _ hn))
theorem Gr.add(g:Gr N)(k:Int){ks:List Nat}(hk:∀j∈ks,j<N.length):Gr (addN N k ks):=by
 have en:lnk (addN N k ks) N.length=N.length/\kds (addN N k ks) N.length=ks:=by
  simp only[lnk,kds,zhg,and_self]
 refine⟨fun n hn=> ?_,fun n hn j hj=> ?_,fun n hn=> ?_⟩
 all_goals rw[zhf]at*
 ·by_cases e:n=N.length
  ·rw[e,en.1];omega
  ·rw[zjQ (by omega)];have:=g.ln n (by omega);omega
 ·by_cases e:n=N.length
  ·rw[e,en.2]at hj;have:=hk j hj;omega
  ·rw[zi0 (by omega)]at hj;have:=g.kd n (by omega) j hj;omega
 ·by_cases e:n=N.length
  ·exact⟨0,n,.here (by rw[e,en.1])⟩
  ·obtain⟨d,r,h⟩:=g.rt n (by omega)
   exact⟨d,r,h.add g k ks (by omega)⟩
theorem Ar.add(a:Ar N){k:Int}{ks:List Nat}(h:ks.length=ar k):Ar (addN N k ks):=by
 intro n
 by_cases e:n<N.length
 ·rw[zi0 e,zi5 e];exact a n
 ·by_cases e2:n=N.length
  ·subst e2;simp only[kds,knd,zhg];exact h
  ·simp only[kds,knd,zhh (N:=N) (n:=n) (by omega)];exact a n
end
def zjU:List (Int×Nat)->Int->Option Nat
 | [],_=>none
 |p::l,n=>if p.1=n then some p.2 else zjU l n
def putF:T->List Nd->List (Int×Nat)->List Nd×List (Int×Nat)×Nat
 | .dyn,N,M=>(addN N 0 [],M,N.length)
 | .var n,N,M=>match zjU M n with
  |some i=>(N,M,i)
  |none=>(addN N 0 [],M++ [(n,N.length)],N.length)
 | .base k,N,M=>(addN N (k.val+1) [],M,N.length)
 | .list a,N,M=>
  let r:=putF a N M
  (addN r.1 8 [r.2.2],r.2.1,r.1.length)
 | .pair a b,N,M=>
  let r:=putF a N M
  let q:=putF b r.1 r.2.1
  (addN q.1 7 [r.2.2,q.2.2],q.2.1,q.1.length)
 | .fn a b,N,M=>
  let r:=putF a N M
  let q:=putF b r.1 r.2.1
  (addN q.1 9 [r.2.2,q.2.2],q.2.1,q.1.length)
end Go.Proofs.Ytmpegnogdgbleaa
