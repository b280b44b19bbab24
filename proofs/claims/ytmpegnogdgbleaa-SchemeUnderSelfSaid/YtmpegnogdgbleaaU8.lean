/- Layer 11: what below comes to, for all types. Plain; no condition. -/
import Derived.Test.YtmpegnogdgbleaaU7
set_option linter.unusedSimpArgs false
set_option linter.unusedVariables false
namespace Go.Proofs.Ytmpegnogdgbleaa
open Go Go.Ab
theorem zhx(a:T):zDd a .dyn=true:=by cases a<;>rfl
theorem zkg{σ:Int->T}:∀a:T,(putS σ a).stat=true->a.stat=true:=by
 intro a
 induction a with
 |pair a b i1 i2=>
  intro h;simp only[putS,T.stat,YAA]at h⊢;exact⟨i1 h.1,i2 h.2⟩
 |fn a b i1 i2=>
  intro h;simp only[putS,T.stat,YAA]at h⊢;exact⟨i1 h.1,i2 h.2⟩
 |list a i1=>intro h;simp only[putS,T.stat]at h⊢;exact i1 h
 |dyn=>intro h;exact h
 |_=>intro _;rfl
theorem zhs{a b:T}{s:GS}(h:∀σ τ:Int->T,zDd (putS σ a) (putS τ b)=true->False):BelR a b s none:=
 ⟨fun s' h=>(by cases h),fun s' h=>(by cases h),fun ρ σ τ _ hb=>(h σ τ hb).elim⟩
theorem zhu{a b:T}{s:GS}(g:OkG s)(h:∀σ τ:Int->T,zDd (putS σ a) (putS τ b)=true):BelR a b s (some s):=
 ⟨fun s' e=>(by cases e;exact⟨g,YAV _,by omega⟩),fun s' e ρ σ τ F=>(by cases e;exact⟨F,h σ τ⟩),fun ρ σ τ F _=>⟨s,ρ,rfl,F⟩⟩
theorem zhv{k:Int}{c:T->T->T}(B:Bin k c){a a' b b':T}{s:GS}{o:Option GS}{f:GS->Option GS}(h1:BelR a b s o)(h2:∀s1,o=some s1->BelR a' b' s1 (f s1)):BelR (c a a') (c b b') s (o.bind f):=by
 refine⟨fun s' h=> ?_,fun s' h ρ σ τ F=> ?_,fun ρ σ τ F hb=> ?_⟩
 ·obtain⟨s1,e1,e2⟩:=Option.bind_eq_some_iff.1 h
  obtain⟨k1,k2,k3⟩:=h1.ok s1 e1
  obtain⟨k4,k5,k6⟩:=(h2 s1 e1).ok s' e2
  refine⟨k4,by omega,?_⟩
  rw[B.sz,B.sz];omega
 ·obtain⟨s1,e1,e2⟩:=Option.bind_eq_some_iff.1 h
  obtain⟨F1,q2⟩:=(h2 s1 e1).so s' e2 ρ σ τ F
  obtain⟨F2,q1⟩:=h1.so s1 e1 ρ σ τ F1
  exact⟨F2,by rw[B.ps,B.ps,B.bw];exact⟨q1,q2⟩⟩
 ·rw[B.ps,B.ps,B.bw]at hb
  obtain⟨s1,ρ1,e1,F1⟩:=h1.co ρ σ τ F hb.1
  obtain⟨s2,ρ2,e2,F2⟩:=(h2 s1 e1).co ρ1 σ τ F1 hb.2
  exact⟨s2,ρ2,by rw[e1];exact e2,F2⟩
theorem zht{a b:T}{s:GS}{o:Option GS}(h:BelR a b s o):BelR (.list a) (.list b) s o:=by
 refine⟨fun s' e=> ?_,h.so,h.co⟩
 obtain⟨k1,k2,k3⟩:=h.ok s' e
 exact⟨k1,k2,by simp only[T.size];omega⟩
theorem ziY:∀(b a:T) {s:GS},OkG s->BelR a b s (gbelow a b s):=by
 intro b
 induction b with
 |dyn=>intro a s g;cases a<;>exact zhu g fun σ τ=>zhx _
 |var n=>
  intro a s g
  have:=zic (a:=a) (b:= .var n) g fun σ τ hσ hτ h=>by
   have e:=zh0 _ _ (hτ n).1 h
   refine zkg (σ:=σ) a ?_
   rw[e];exact(hτ n).1
  cases a<;>exact this
 |base k=>
  intro a s g
  cases a with
  |var n=>exact zic g fun _ _ _ _ _=>rfl
  |base k'=>
   rw[gbelow]
   split
   ·rename_i e;exact zhu g fun σ τ=>by simp only[putS,zDd,e,decide_true]
   ·rename_i e;exact zhs fun σ τ h=>by simp only[putS,zDd,YAa]at h;exact e h
  |_=>exact zhs fun σ τ h=>by simp[putS,zDd]at h
 |pair b b' i1 i2=>
  intro a s g
  cases a with
  |var n=>exact zic g fun _ _ _ _ _=>rfl
  |pair a a'=>exact zhv zh4 (i1 a g) fun s1 e=>i2 a' ((i1 a g).ok s1 e).1
  |_=>exact zhs fun σ τ h=>by simp[putS,zDd]at h
 |fn b b' i1 i2=>
  intro a s g
  cases a with
  |var n=>exact zic g fun _ _ _ _ _=>rfl
  |fn a a'=>exact zhv zh3 (i1 a g) fun s1 e=>i2 a' ((i1 a g).ok s1 e).1
  |_=>exact zhs fun σ τ h=>by simp[putS,zDd]at h
 |list b i1=>
  intro a s g
  cases a with
  |var n=>exact zic g fun _ _ _ _ _=>rfl
  |list a=>exact zht (i1 a g)
  |_=>exact zhs fun σ τ h=>by simp[putS,zDd]at h
end Go.Proofs.Ytmpegnogdgbleaa
