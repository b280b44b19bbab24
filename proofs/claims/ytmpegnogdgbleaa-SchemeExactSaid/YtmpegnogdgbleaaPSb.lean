/- Lemmas: a store in plain Lean, second part. No condition. -/
import Derived.Test.YtmpegnogdgbleaaPCa
import Derived.Test.YtmpegnogdgbleaaPVa
set_option linter.unusedSimpArgs false
set_option linter.unusedVariables false
namespace Go.Proofs.Ytmpegnogdgbleaa
open Go Go.Ab
section
abbrev BT:=Int×T
def zNg:List BT->Int->Option T
 | [],_=>none
 |p::l,n=>if p.1=n then some p.2 else zNg l n
def sigT(l:List BT)(n:Int):T:=(zNg l n).getD (.var n)
theorem zNh(l m:List BT)(n:Int):zNg (l++m) n=(zNg l n).or (zNg m n):=by
 induction l with
 |nil=>simp[zNg]
 |cons p l ih=>simp only[List.cons_append,zNg];split<;>simp[ih]
theorem zNi{l:List BT}{n:Int}{t:T}(h:zNg l n=some t):(n,t)∈l:=by
 induction l with
 |nil=>cases h
 |cons p l ih=>
  rw[zNg]at h
  split at h
  ·rename_i e;cases h;subst e;exact YAU
  ·exact YAT _ (ih h)
def T.zaU:T->List Int->List Int
 | .var n,out=>if n ∉ out then out++ [n]else out
 | .pair a b,out=>b.zaU (a.zaU out)
 | .fn a b,out=>b.zaU (a.zaU out)
 | .list a,out=>a.zaU out
 |_,out=>out
theorem T.zaX:∀(a:T) (out:List Int),Go.Proofs.Ytmpegnogdgbleaa.zaU a.ty out=a.zaU out:=by
 intro a
 induction a with
 |base k=>intro out;have:=zDD k;simp only[T.ty,Go.Proofs.Ytmpegnogdgbleaa.zaU,zaY,T.zaU,this.2.1,false_and,if_false]
 |dyn=>intro out;simp[T.ty,Go.Proofs.Ytmpegnogdgbleaa.zaU,zaY,T.zaU]
 |var n=>intro out;simp[T.ty,Go.Proofs.Ytmpegnogdgbleaa.zaU,zaY,T.zaU]
 |pair a b ih1 ih2=>intro out;simp[T.ty,Go.Proofs.Ytmpegnogdgbleaa.zaU,zaY,T.zaU,ih1,ih2]
 |fn a b ih1 ih2=>intro out;simp[T.ty,Go.Proofs.Ytmpegnogdgbleaa.zaU,zaY,T.zaU,ih1,ih2]
 |list a ih1=>intro out;simp[T.ty,Go.Proofs.Ytmpegnogdgbleaa.zaU,zaY,T.zaU,ih1]
def T.has(n:Int):T->Bool
 | .var m=>decide (m=n)
 | .pair a b=>a.has n||b.has n
 | .fn a b=>a.has n||b.has n
 | .list a=>a.has n
 |_=>false
theorem zPL:∀(a:T) (out:List Int) (n:Int),n∈a.zaU out ↔ n∈out\/a.has n=true:=by
 intro a
 induction a with
 |var m=>
  intro out n
  simp only[T.zaU,T.has,YAa]
  by_cases h:m∈out
  ·simp only[h,not_true_eq_false,if_false]
   exact⟨.inl,fun h'=>h'.elim id fun e=>e▸h⟩
  ·simp only[h,not_false_eq_true,if_true,List.mem_append,List.mem_singleton]
   exact⟨fun h'=>h'.imp id Eq.symm,fun h'=>h'.imp id Eq.symm⟩
 |pair a b ih1 ih2=>intro out n;simp only[T.zaU,T.has,ih2,ih1,YAP,or_assoc]
 |fn a b ih1 ih2=>intro out n;simp only[T.zaU,T.has,ih2,ih1,YAP,or_assoc]
 |list a ih1=>intro out n;simp only[T.zaU,T.has,ih1]
 |_=>intro out n;simp[T.zaU,T.has]
theorem zSx{σ τ:Int->T}:∀a:T,(∀n,a.has n=true->σ n=τ n)->putS σ a=putS τ a:=by
 intro a
 induction a with
 |var n=>intro h;exact h n (by simp[T.has])
 |pair a b ih1 ih2=>intro h;simp only[putS];rw[ih1 fun n hn=>h n (by simp[T.has,hn]),ih2 fun n hn=>h n (by simp[T.has,hn])]
 |fn a b ih1 ih2=>intro h;simp only[putS];rw[ih1 fun n hn=>h n (by simp[T.has,hn]),ih2 fun n hn=>h n (by simp[T.has,hn])]
 |list a ih1=>intro h;simp only[putS];rw[ih1 fun n hn=>h n (by simp[T.has,hn])]
 |_=>intro _;rfl
def T.stat:T->Bool
 | .dyn=>false
 | .pair a b=>a.stat&&b.stat
 | .fn a b=>a.stat&&b.stat
 | .list a=>a.stat
 |_=>true
def zO6:T->T->List BT->Option (List BT)
 | .var n,u,l=>match zNg l n with
  |some v=>if v=u then some l else none
  |none=>if u.stat=true then some (l++ [(n,u)])else none
 | .pair a b,.pair c d,l=>(zO6 a c l).bind (zO6 b d)
 | .fn a b,.fn c d,l=>(zO6 a c l).bind (zO6 b d)
 | .list a,.list c,l=>zO6 a c l
 | .dyn,.dyn,l=>some l
 | .base k,.base k',l=>if k=k' then some l else none
 |_,_,_=>none
def zDx(σ:Int->T)(L:List Int):List BT:=L.map fun n=>(n,σ n)
end
section
def idxI(vs:List Int)(n:Int):Int:=((vs.idxOf n:Nat):Int)
def zEI(a:T):T:=putS (fun n=> .var (idxI (a.zaU []) n)) a
theorem zPK{a:T}{n:Int}:n∈a.zaU [] ↔ a.has n=true:=by rw[zPL];simp
end
end Go.Proofs.Ytmpegnogdgbleaa
