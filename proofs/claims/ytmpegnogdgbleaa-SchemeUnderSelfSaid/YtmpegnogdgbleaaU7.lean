/- Layer 11: below on graphs. Plain; no condition. -/
import Derived.Test.YtmpegnogdgbleaaU6
set_option linter.unusedSimpArgs false
set_option linter.unusedVariables false
namespace Go.Proofs.Ytmpegnogdgbleaa
open Go Go.Ab
abbrev GS:=List Nd×List (Int×Nat)×List (Int×Nat)
noncomputable def gjoin(a b:T)(s:GS):Option GS:=
 let r:=putF a s.1 s.2.1
 let q:=putF b r.1 s.2.2
 let e:=zkQ (3*rts q.1+1) q.1 [(r.2.2,q.2.2)]
 if a.stat=true/\e.1=true then some (e.2,r.2.1,q.2.1)else none
noncomputable def gbelow:T->T->GS->Option GS
 |_,.dyn,s=>some s
 |a,.var n,s=>gjoin a (.var n) s
 | .var n,b,s=>gjoin (.var n) b s
 | .base k,.base k',s=>if k=k' then some s else none
 | .pair a a',.pair b b',s=>(gbelow a b s).bind (gbelow a' b')
 | .fn a a',.fn b b',s=>(gbelow a b s).bind (gbelow a' b')
 | .list a,.list b,s=>gbelow a b s
 |_,_,_=>none
structure OkG (s:GS):Prop where
 gr:Gr s.1
 ar:Ar s.1
 ma:∀n i,zjU s.2.1 n=some i->i<s.1.length
 mb:∀n i,zjU s.2.2 n=some i->i<s.1.length
structure Fit (s:GS) (ρ:Nat->T) (σ τ:Int->T):Prop where
 md:Mdl s.1 ρ
 sa:∀n,Gnd (σ n)
 sb:∀n,Gnd (τ n)
 ma:∀n i,zjU s.2.1 n=some i->σ n=ρ i
 mb:∀n i,zjU s.2.2 n=some i->τ n=ρ i
structure BelR (a b:T) (s:GS) (o:Option GS):Prop where
 ok:∀s',o=some s'->OkG s'/\s.1.length<=s'.1.length/\s'.1.length<=s.1.length+a.size+b.size
 so:∀s',o=some s'->∀ρ σ τ,Fit s' ρ σ τ->Fit s ρ σ τ/\zDd (putS σ a) (putS τ b)=true
 co:∀ρ σ τ,Fit s ρ σ τ->zDd (putS σ a) (putS τ b)=true->∃s' ρ',o=some s'/\Fit s' ρ' σ τ
theorem zkE{σ:Int->T}(h:∀n,Gnd (σ n)):∀a:T,a.stat=true->Gnd (putS σ a):=by
 intro a
 induction a with
 |var n=>intro _;exact h n
 |dyn=>intro h;cases h
 |base k=>intro _;exact⟨rfl,rfl⟩
 |pair a b i1 i2=>
  intro hs
  simp only[T.stat,YAA]at hs
  exact(zh4.gd _ _).2 ⟨i1 hs.1,i2 hs.2⟩
 |fn a b i1 i2=>
  intro hs
  simp only[T.stat,YAA]at hs
  exact(zh3.gd _ _).2 ⟨i1 hs.1,i2 hs.2⟩
 |list a i1=>intro hs;exact i1 hs
theorem zic{a b:T}{s:GS}(g:OkG s)(hab:∀σ τ:Int->T,(∀n,Gnd (σ n))->(∀n,Gnd (τ n))->zDd (putS σ a) (putS τ b)=true->a.stat=true):BelR a b s (gjoin a b s):=by
 obtain⟨N,A,B⟩:=s
 have R:=zj9 a g.gr g.ar g.ma
 have Q:=zj9 b R.gr R.ar (M:=B) (fun n i h=>YAW (g.mb n i h) R.le)
 have i1:(putF a N A).2.2<(putF b (putF a N A).1 B).1.length:=YAW R.ix Q.le
 have S:=zkS (3*rts (putF b (putF a N A).1 B).1+1) (td:=[((putF a N A).2.2,(putF b (putF a N A).1 B).2.2)]) Q.gr Q.ar (fun p hp=>by
  simp only[List.mem_cons,List.not_mem_nil,or_false]at hp
  rw[hp];exact⟨i1,Q.ix⟩) (by simp)
 unfold gjoin
 simp only at R Q S i1⊢
 generalize putF a N A=r at*
 generalize putF b r.1 B=q at*
 generalize zkQ (3*rts q.1+1) q.1 [(r.2.2,q.2.2)]=e at*
 have one:∀ρ:Nat->T,(∀p∈[(r.2.2,q.2.2)],ρ p.1=ρ p.2) ↔ ρ r.2.2=ρ q.2.2:=fun ρ=>by simp
 refine⟨fun s' h=> ?_,fun s' h ρ σ τ F=> ?_,fun ρ σ τ F hb=> ?_⟩
 ·split at h
  ·cases h
   refine⟨⟨S.gr,fun n=>by rw[S.ks,S.kd];exact Q.ar n,fun n i hi=> ?_,fun n i hi=> ?_⟩,?_,?_⟩
   ·have:=R.mm n i hi;have:=Q.le;simp only[S.len];omega
   ·have:=Q.mm n i hi;simp only[S.len];omega
   ·have:=R.le;have:=Q.le;simp only[S.len];omega
   ·have:=R.up;have:=Q.up;simp only[S.len];omega
  ·cases h
 ·split at h
  ·rename_i hc
   cases h
   obtain⟨M1,k⟩:=(S.tt hc.2 ρ).1 F.md
   have k:=(one ρ).1 k
   have M2:=Q.dn ρ M1
   refine⟨⟨R.dn ρ M2,F.sa,F.sb,fun n i h=>F.ma n i (R.ex n i h),fun n i h=>F.mb n i (Q.ex n i h)⟩,?_⟩
   have h1:=R.so ρ σ M2 F.ma
   have h2:=Q.so ρ τ M1 F.mb
   rw[<-zh0 _ _ (zkE F.sa a hc.1).1 h1,k]
   exact h2
  ·cases h
 ·have hs:=hab σ τ F.sa F.sb hb
  have hg:=zkE F.sa a hs
  obtain⟨ρ1,e1,M1,x1,m1⟩:=R.co ρ σ _ F.md F.sa F.ma hg (zhz _)
  obtain⟨ρ2,e2,M2,x2,m2⟩:=Q.co ρ1 τ _ M1 F.sb (fun n i h=>by rw[e1 i (g.mb n i h)];exact F.mb n i h) hg hb
  have hk:∀p∈[(r.2.2,q.2.2)],ρ2 p.1=ρ2 p.2:=(one ρ2).2 (by rw[x2,e2 _ R.ix,x1])
  have he:e.1=true:=by
   cases h:e.1 with
   |true=>rfl
   |false=>exact absurd hk (S.ff h ρ2 M2)
  refine⟨_,ρ2,if_pos ⟨hs,he⟩,(S.tt he ρ2).2 ⟨M2,hk⟩,F.sa,F.sb,fun n i h=> ?_,m2⟩
  rw[e2 i (R.mm n i h)];exact m1 n i h
end Go.Proofs.Ytmpegnogdgbleaa
