/- Layer 11: does nothing go round? Plain; no condition. -/
import Derived.Test.YtmpegnogdgbleaaU8
set_option linter.unusedSimpArgs false
set_option linter.unusedVariables false
namespace Go.Proofs.Ytmpegnogdgbleaa
open Go Go.Ab
abbrev OS:=List Nd×List Nat
def zju(g:OS->Nat->Bool×OS):OS->List Nat->Bool×OS
 |s,[]=>(true,s)
 |s,k::ks=>if(g s k).1=true then zju g (g s k).2 ks else g s k
noncomputable def zjq:Nat->OS->Nat->Bool×OS
 |0,s,_=>(false,s)
 |f+1,s,n=>
  let r:=zkJ s.1 n
  if 0<s.2.getD r.2 0 then(decide (s.2.getD r.2 0=2),(r.1,s.2))
  else
   let e:=zju (zjq f) (r.1,s.2.set r.2 1) (kds r.1 r.2)
   if e.1=true then(true,(e.2.1,e.2.2.set r.2 2))else e
theorem T.zkh{v x:T}(h:x∈v.sub):x.size<v.size:=by
 cases v<;>simp only[T.sub,List.mem_cons,List.not_mem_nil,or_false]at h
 ·rcases h with rfl|rfl<;>simp only[T.size]<;>omega
 ·subst h;simp only[T.size];omega
 ·rcases h with rfl|rfl<;>simp only[T.size]<;>omega
theorem Mdl.kid{N:List Nd}{ρ:Nat->T}(M:Mdl N ρ){n k:Nat}(hn:n<N.length)(h0:knd N n≠0)(hk:k∈kds N n):(ρ k).size<(ρ n).size:=by
 refine T.zkh ?_
 rw[(M.kd n hn h0).2]
 exact List.mem_map.2 ⟨k,hk,rfl⟩
theorem Ar.zi3{N:List Nd}(a:Ar N){n:Nat}(h0:knd N n=0):kds N n=[]:=by
 have:=a n
 rw[h0]at this
 exact List.eq_nil_of_length_eq_zero this
end Go.Proofs.Ytmpegnogdgbleaa
