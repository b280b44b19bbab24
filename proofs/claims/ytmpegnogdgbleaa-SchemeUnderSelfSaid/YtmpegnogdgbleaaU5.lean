/- Layer 11: what put comes to. Plain; no condition. -/
import Derived.Test.YtmpegnogdgbleaaU4
import Derived.Test.YtmpegnogdgbleaaPCa
set_option linter.unusedSimpArgs false
set_option linter.unusedVariables false
namespace Go.Proofs.Ytmpegnogdgbleaa
open Go Go.Ab
theorem zh0:∀(b a:T),b.stat=true->zDd a b=true->a=b:=by
 intro b
 induction b with
 |dyn=>intro a h;cases h
 |base k=>intro a _ h;cases a<;>simp_all [zDd]
 |var n=>intro a _ h;cases a<;>simp_all [zDd]
 |pair b b' i1 i2=>
  intro a hs h
  simp only[T.stat,YAA]at hs
  cases a<;>simp only[zDd,YAA,YAB]at h
  rw[i1 _ hs.1 h.1,i2 _ hs.2 h.2]
 |fn b b' i1 i2=>
  intro a hs h
  simp only[T.stat,YAA]at hs
  cases a<;>simp only[zDd,YAA,YAB]at h
  rw[i1 _ hs.1 h.1,i2 _ hs.2 h.2]
 |list b i1=>
  intro a hs h
  simp only[T.stat]at hs
  cases a<;>simp only[zDd,YAB]at h
  rw[i1 _ hs h]
theorem zhz:∀a:T,zDd a a=true:=by
 intro a
 induction a<;>simp_all [zDd]
def Gnd(g:T):Prop:=g.stat=true/\g.closed=true
structure PutR (t:T) (N:List Nd) (M:List (Int×Nat)) (r:List Nd×List (Int×Nat)×Nat):Prop where
 gr:Gr r.1
 ar:Ar r.1
 mm:∀n i,zjU r.2.1 n=some i->i<r.1.length
 ix:r.2.2<r.1.length
 le:N.length<=r.1.length
 up:r.1.length<=N.length+t.size
 ex:∀n i,zjU M n=some i->zjU r.2.1 n=some i
 dn:∀ρ,Mdl r.1 ρ->Mdl N ρ
 so:∀ρ σ,Mdl r.1 ρ->(∀n i,zjU r.2.1 n=some i->σ n=ρ i)->zDd (ρ r.2.2) (putS σ t)=true
 co:∀ρ σ g,Mdl N ρ->(∀n,Gnd (σ n))->(∀n i,zjU M n=some i->σ n=ρ i)->Gnd g->zDd g (putS σ t)=true->
  ∃ρ',(∀j,j<N.length->ρ' j=ρ j)/\Mdl r.1 ρ'/\ρ' r.2.2=g/\∀n i,zjU r.2.1 n=some i->σ n=ρ' i
theorem zjV(M L:List (Int×Nat))(n:Int):zjU (M++L) n=(zjU M n).or (zjU L n):=by
 induction M with
 |nil=>simp[zjU]
 |cons p M ih=>simp only[List.cons_append,zjU];split<;>simp[ih]
section
variable {N : List Nd} {M : List (Int × Nat)}
def updR(ρ:Nat->T)(n:Nat)(g:T)(j:Nat):T:=if j=n then g else ρ j
theorem zlL(ρ:Nat->T)(n:Nat)(g:T):updR ρ n g n=g:=if_pos rfl
theorem zlM(ρ:Nat->T){n j:Nat}(h:j<n)(g:T):updR ρ n g j=ρ j:=if_neg (by omega)
theorem zhi(g:Gr N){ρ:Nat->T}(Mo:Mdl N ρ){k:Int}{ks:List Nat}(hk:∀j∈ks,j<N.length){v:T}(hv:Gnd v)(h:k≠0->v.kind=k/\v.sub=ks.map ρ):Mdl (addN N k ks) (updR ρ N.length v):=by
 refine(Mdl.add k ks).2 ⟨Mo.congr g fun j hj=>zlM ρ hj v,by rw[zlL];exact hv,fun h0=> ?_⟩
 rw[zlL]
 obtain⟨h1,h2⟩:=h h0
 exact⟨h1,by rw[h2];exact List.map_congr_left fun j hj=>(zlM ρ (hk j hj) v).symm⟩
theorem zkH(g:Gr N)(a:Ar N)(hM:∀n i,zjU M n=some i->i<N.length)(t:T)(k:Int)(h0:ar k=0)(hs:t.size=1)
 (h1:∀ρ:Nat->T,∀v σ,Gnd v->(k≠0->v.kind=k/\v.sub=[])->zDd v (putS σ t)=true)
 (h2:∀σ v,zDd v (putS σ t)=true->k≠0->v.kind=k/\v.sub=[]):PutR t N M (addN N k [],M,N.length):=by
 refine⟨g.add k (fun j hj=>by cases hj),a.add (by rw[h0];rfl),fun n i h=>by have:=hM n i h;rw[zhf];omega,by simp only[zhf];omega,by simp only[zhf];omega,by simp only[zhf];omega,fun _ _ h=>h,fun ρ Mo=>((Mdl.add k []).1 Mo).1,fun ρ σ Mo _=> ?_,fun ρ σ v Mo hσ hm hv hb=> ?_⟩
 ·obtain⟨_,h3,h4⟩:=(Mdl.add k []).1 Mo
  exact h1 ρ _ σ h3 (fun h=>by have:=h4 h;exact this)
 ·refine⟨updR ρ N.length v,fun j hj=>zlM ρ hj v,zhi g Mo (fun j hj=>by cases hj) hv (fun h=>h2 σ v hb h),zlL _ _ _,fun n i h=> ?_⟩
  rw[zlM ρ (hM n i h)];exact hm n i h
end
end Go.Proofs.Ytmpegnogdgbleaa
