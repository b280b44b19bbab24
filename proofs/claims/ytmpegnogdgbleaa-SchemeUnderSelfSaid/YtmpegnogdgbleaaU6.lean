/- Layer 11: what put comes to, for all types. Plain; no condition. -/
import Derived.Test.YtmpegnogdgbleaaU5
set_option linter.unusedSimpArgs false
set_option linter.unusedVariables false
namespace Go.Proofs.Ytmpegnogdgbleaa
open Go Go.Ab
structure Bin (k:Int) (c:T->T->T):Prop where
 kd:∀x y,(c x y).kind=k
 sb:∀x y,(c x y).sub=[x,y]
 gd:∀x y,Gnd (c x y) ↔ (Gnd x/\Gnd y)
 bw:∀x y x' y',zDd (c x y) (c x' y')=true ↔ (zDd x x'=true/\zDd y y'=true)
 bi:∀v x y,zDd v (c x y)=true->∃v1 v2,v=c v1 v2
 ki:∀v:T,v.kind=k->∃v1 v2,v=c v1 v2
 ps:∀σ x y,putS σ (c x y)=c (putS σ x) (putS σ y)
 sz:∀x y,(c x y).size=x.size+y.size+1
 a2:ar k=2
 k0:k≠0
theorem zh4:Bin 7 .pair:=by
 refine⟨fun _ _=>rfl,fun _ _=>rfl,fun x y=> ?_,fun _ _ _ _=> ?_,fun v x y h=> ?_,fun v h=> ?_,fun _ _ _=>rfl,fun _ _=>rfl,rfl,by decide⟩
 ·simp only[Gnd,T.stat,T.closed,YAA]
  exact⟨fun h=>⟨⟨h.1.1,h.2.1⟩,⟨h.1.2,h.2.2⟩⟩,fun h=>⟨⟨h.1.1,h.2.1⟩,⟨h.1.2,h.2.2⟩⟩⟩
 ·simp only[zDd,YAA]
 ·cases v<;>simp only[zDd,YAB]at h
  exact⟨_,_,rfl⟩
 ·cases v<;>simp only[T.kind]at h<;>first|omega|exact⟨_,_,rfl⟩
theorem zh3:Bin 9 .fn:=by
 refine⟨fun _ _=>rfl,fun _ _=>rfl,fun x y=> ?_,fun _ _ _ _=> ?_,fun v x y h=> ?_,fun v h=> ?_,fun _ _ _=>rfl,fun _ _=>rfl,rfl,by decide⟩
 ·simp only[Gnd,T.stat,T.closed,YAA]
  exact⟨fun h=>⟨⟨h.1.1,h.2.1⟩,⟨h.1.2,h.2.2⟩⟩,fun h=>⟨⟨h.1.1,h.2.1⟩,⟨h.1.2,h.2.2⟩⟩⟩
 ·simp only[zDd,YAA]
 ·cases v<;>simp only[zDd,YAB]at h
  exact⟨_,_,rfl⟩
 ·cases v<;>simp only[T.kind]at h<;>first|omega|exact⟨_,_,rfl⟩
theorem zkB{k:Int}{c:T->T->T}(B:Bin k c){a b:T}{N:List Nd}{M:List (Int×Nat)}{r q:List Nd×List (Int×Nat)×Nat}(R:PutR a N M r)(Q:PutR b r.1 r.2.1 q):
 PutR (c a b) N M (addN q.1 k [r.2.2,q.2.2],q.2.1,q.1.length):=by
 have i1:r.2.2<q.1.length:=YAW R.ix Q.le
 have hin:∀j∈[r.2.2,q.2.2],j<q.1.length:=by
  intro j hj
  simp only[List.mem_cons,List.not_mem_nil,or_false]at hj
  rcases hj with rfl|rfl
  ·exact i1
  ·exact Q.ix
 refine⟨Q.gr.add k hin,Q.ar.add (by rw[B.a2];rfl),fun n i h=>by have:=Q.mm n i h;rw[zhf];omega,by simp only[zhf];omega,by have:=R.le;have:=Q.le;simp only[zhf];omega,
  by have:=R.up;have:=Q.up;rw[B.sz];simp only[zhf];omega,fun n i h=>Q.ex n i (R.ex n i h),fun ρ Mo=>R.dn ρ (Q.dn ρ ((Mdl.add k _).1 Mo).1),fun ρ σ Mo hm=> ?_,fun ρ σ v Mo hσ hm hv hb=> ?_⟩
 ·obtain⟨M2,hg,hk⟩:=(Mdl.add k _).1 Mo
  obtain⟨h1,h2⟩:=hk B.k0
  obtain⟨v1,v2,e⟩:=B.ki _ h1
  rw[e,B.sb]at h2
  simp only[List.map_cons,List.map_nil,List.cons.injEq,and_true]at h2
  simp only
  rw[e,B.ps,B.bw,h2.1,h2.2]
  exact⟨R.so ρ σ (Q.dn ρ M2) fun n i h=>hm n i (Q.ex n i h),Q.so ρ σ M2 hm⟩
 ·rw[B.ps]at hb
  obtain⟨v1,v2,rfl⟩:=B.bi _ _ _ hb
  rw[B.bw]at hb
  obtain⟨g1,g2⟩:=(B.gd _ _).1 hv
  obtain⟨ρ1,e1,M1,x1,m1⟩:=R.co ρ σ v1 Mo hσ hm g1 hb.1
  obtain⟨ρ2,e2,M2,x2,m2⟩:=Q.co ρ1 σ v2 M1 hσ m1 g2 hb.2
  refine⟨updR ρ2 q.1.length (c v1 v2),fun j hj=> ?_,zhi Q.gr M2 hin hv fun _=>⟨B.kd _ _,?_⟩,zlL _ _ _,fun n i h=> ?_⟩
  ·have h1:=R.le;have h2:=Q.le
   rw[zlM _ (by omega),e2 j (by omega),e1 j hj]
  ·rw[B.sb];simp only[List.map_cons,List.map_nil]
   rw[x2,e2 _ R.ix,x1]
  ·rw[zlM _ (Q.mm n i h)];exact m2 n i h
theorem zkA{a:T}{N:List Nd}{M:List (Int×Nat)}{r:List Nd×List (Int×Nat)×Nat}(R:PutR a N M r):
 PutR (.list a) N M (addN r.1 8 [r.2.2],r.2.1,r.1.length):=by
 have hin:∀j∈[r.2.2],j<r.1.length:=by
  intro j hj
  simp only[List.mem_cons,List.not_mem_nil,or_false]at hj
  rw[hj];exact R.ix
 refine⟨R.gr.add 8 hin,R.ar.add rfl,fun n i h=>by have:=R.mm n i h;rw[zhf];omega,by simp only[zhf];omega,by have:=R.le;simp only[zhf];omega,
  by have:=R.up;simp only[zhf,T.size];omega,R.ex,fun ρ Mo=>R.dn ρ ((Mdl.add 8 _).1 Mo).1,fun ρ σ Mo hm=> ?_,fun ρ σ v Mo hσ hm hv hb=> ?_⟩
 ·obtain⟨M2,hg,hk⟩:=(Mdl.add 8 _).1 Mo
  obtain⟨h1,h2⟩:=hk (by decide)
  simp only
  have:∃v1,ρ r.1.length= .list v1:=by
   generalize ρ r.1.length=v at h1
   cases v<;>simp only[T.kind]at h1<;>first|omega|exact⟨_,rfl⟩
  obtain⟨v1,e⟩:=this
  rw[e]at h2⊢
  simp only[T.sub,List.map_cons,List.map_nil,List.cons.injEq,and_true]at h2
  simp only[putS,zDd]
  rw[h2]
  exact R.so ρ σ M2 hm
 ·simp only[putS]at hb
  have:∃v1,v= .list v1:=by
   cases v<;>simp only[zDd,YAB]at hb
   exact⟨_,rfl⟩
  obtain⟨v1,rfl⟩:=this
  simp only[zDd]at hb
  obtain⟨ρ1,e1,M1,x1,m1⟩:=R.co ρ σ v1 Mo hσ hm hv hb
  refine⟨updR ρ1 r.1.length (.list v1),fun j hj=> ?_,zhi R.gr M1 hin hv fun _=>⟨rfl,?_⟩,zlL _ _ _,fun n i h=> ?_⟩
  ·have h1:=R.le
   rw[zlM _ (by omega),e1 j hj]
  ·simp only[T.sub,List.map_cons,List.map_nil];rw[x1]
  ·rw[zlM _ (R.mm n i h)];exact m1 n i h
theorem zj9:∀(t:T) {N:List Nd} {M:List (Int×Nat)},Gr N->Ar N->(∀n i,zjU M n=some i->i<N.length)->PutR t N M (putF t N M):=by
 intro t
 induction t with
 |dyn=>
  intro N M g a hM
  exact zkH g a hM .dyn 0 rfl rfl (fun _ v σ _ _=>by cases v<;>rfl) (fun _ _ _ h=>absurd rfl h)
 |base b=>
  intro N M g a hM
  refine zkH g a hM (.base b) (b.val+1) (by match b with|0|1|2|3=>rfl) rfl (fun _ v σ hv h=> ?_) (fun σ v h _=> ?_)
  ·have h1:=(h (by omega)).1
   have:=b.isLt
   cases v<;>simp only[T.kind]at h1<;>first|omega|skip
   rename_i k'
   have e:k'=b:=Fin.ext (by omega)
   simp only[putS,zDd,e,decide_true]
  ·simp only[putS]at h
   cases v<;>simp only[zDd,YAB,YAa]at h
   subst h
   exact⟨rfl,rfl⟩
 |var n=>
  intro N M g a hM
  rw[putF]
  cases h:zjU M n with
  |some i=>
   simp only
   refine⟨g,a,hM,hM n i h,YAV _,Nat.le_add_right _ _,fun _ _ h=>h,fun _ h=>h,fun ρ σ Mo hm=> ?_,fun ρ σ v Mo hσ hm hv hb=>⟨ρ,fun _ _=>rfl,Mo,?_,hm⟩⟩
   ·simp only[putS];rw[hm n i h];exact zhz _
   ·simp only[putS]at hb;rw[zh0 _ _ (hσ n).1 hb,hm n i h]
  |none=>
   simp only
   have hl:∀m i,zjU (M++ [(n,N.length)]) m=some i->zjU M m=some i\/(m=n/\i=N.length):=by
    intro m i hmi
    rw[zjV]at hmi
    cases hh:zjU M m with
    |some j=>rw[hh]at hmi;exact .inl (by simpa using hmi)
    |none=>
     rw[hh]at hmi
     simp only[Option.none_or,zjU]at hmi
     split at hmi
     ·rename_i e;exact .inr ⟨e.symm,by simpa using hmi.symm⟩
     ·cases hmi
   have hnew:zjU (M++ [(n,N.length)]) n=some N.length:=by rw[zjV,h];simp[zjU]
   refine⟨g.add 0 (fun j hj=>by cases hj),a.add rfl,fun m i hm=> ?_,by simp only[zhf];omega,by simp only[zhf];omega,by simp only[zhf,T.size];omega,fun m i hm=>by simp only[zjV,hm,Option.some_or],fun ρ Mo=>((Mdl.add 0 []).1 Mo).1,fun ρ σ Mo hm=> ?_,fun ρ σ v Mo hσ hm hv hb=> ?_⟩
   ·simp only[zhf]
    rcases hl m i hm with h1|⟨_,rfl⟩
    ·have:=hM m i h1;omega
    ·omega
   ·simp only[putS];rw[hm n _ hnew];exact zhz _
   ·refine⟨updR ρ N.length v,fun j hj=>zlM ρ hj v,zhi g Mo (fun j hj=>by cases hj) hv (fun h0=>absurd rfl h0),zlL _ _ _,fun m i hmi=> ?_⟩
    rcases hl m i hmi with h1|⟨rfl,rfl⟩
    ·rw[zlM ρ (hM m i h1)];exact hm m i h1
    ·simp only[putS]at hb;rw[zlL,zh0 _ _ (hσ m).1 hb]
 |pair x y ih1 ih2=>
  intro N M g a hM
  have R:=ih1 g a hM
  exact zkB zh4 R (ih2 R.gr R.ar R.mm)
 |fn x y ih1 ih2=>
  intro N M g a hM
  have R:=ih1 g a hM
  exact zkB zh3 R (ih2 R.gr R.ar R.mm)
 |list x ih1=>
  intro N M g a hM
  exact zkA (ih1 g a hM)
end Go.Proofs.Ytmpegnogdgbleaa
