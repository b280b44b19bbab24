/- Layer 11: matching: plain laws about the binds of the statements. No condition. -/
import Derived.Test.YtdngjamjccjlmaaE4
import Derived.Test.YtdngjamjccjlmaaPEa
set_option linter.unusedSimpArgs false
set_option linter.unusedVariables false
namespace Go.Proofs.Ytdngjamjccjlmaa
open Go Go.Ab
noncomputable def gT(l:List Ty)(c:Bool)(i:Nat):T:=if l.length=0 then .base 0 else zSc c (tOf (l.getD (i % l.length) default))
theorem zO9:∀(a u:T) (L L':List BT),u.ok=true->(∀p∈L,p.2.ok=true)->zO6 a u L=some L'->∀p∈L',p.2.ok=true:=by
 intro a
 induction a with
 |base k=>
  intro u L L' hu hL h
  cases u<;>simp only[zO6,reduceCtorEq]at h
  split at h
  ·cases h;exact hL
  ·cases h
 |dyn=>
  intro u L L' hu hL h
  cases u<;>simp only[zO6,reduceCtorEq]at h
  cases h;exact hL
 |var n=>
  intro u L L' hu hL h
  rw[zO6]at h
  split at h
  ·split at h
   ·cases h;exact hL
   ·cases h
  ·split at h
   ·cases h
    intro p hp
    rcases List.mem_append.1 hp with hp|hp
    ·exact hL p hp
    ·simp only[List.mem_singleton]at hp;subst hp;exact hu
   ·cases h
 |pair a b ih1 ih2=>
  intro u L L' hu hL h
  cases u<;>simp only[zO6,reduceCtorEq]at h
  simp only[T.ok,YAA]at hu
  obtain⟨L1,h1,h2⟩:=Option.bind_eq_some_iff.1 h
  exact ih2 _ _ _ hu.2 (ih1 _ _ _ hu.1 hL h1) h2
 |fn a b ih1 ih2=>
  intro u L L' hu hL h
  cases u<;>simp only[zO6,reduceCtorEq]at h
  simp only[T.ok,YAA]at hu
  obtain⟨L1,h1,h2⟩:=Option.bind_eq_some_iff.1 h
  exact ih2 _ _ _ hu.2 (ih1 _ _ _ hu.1 hL h1) h2
 |list a ih1=>
  intro u L L' hu hL h
  cases u<;>simp only[zO6,reduceCtorEq]at h
  simp only[T.ok]at hu
  exact ih1 _ _ _ hu hL h
theorem zNc(n:Int):∀L:List BT,zNa (bdL L) n=(zNg L n).map T.ty
 | []=>rfl
 |p::L=>by
  simp only[bdL,List.map_cons,zNa,zNg]
  split
  ·rfl
  ·exact zNc n L
theorem zV1(L:List BT):sigB (bdL L)=sigT L:=by
 funext n
 rw[sigB,zNc,sigT]
 cases zNg L n with
 |none=>rfl
 |some v=>exact zX5 v
theorem zDE{x y:T}(hx:x.ok=true)(hy:y.ok=true){L:List BT}(h:zO6 x y []=some L):okBs (bdL L)=true/\putS (sigB (bdL L)) x=y/\∀p∈L,p.2.stat=true:=by
 obtain⟨m,e,h1,h2,h3⟩:=zPB x y [] L h
 rw[List.nil_append]at e
 subst e
 have hok:=zO9 x y [] L hy (fun p hp=>by cases hp) h
 refine⟨List.all_eq_true.2 fun q hq=> ?_,by rw[zV1];exact h3,fun p hp=>(h1 p hp).1⟩
 obtain⟨p,hp,rfl⟩:=List.mem_map.1 hq
 have hr:=zLA hx p.1 (h1 p hp).2
 simp only[okBd,T.zT5,hok p hp,Bool.and_true,YAA]
 exact⟨decide_eq_true hr.1,decide_eq_true hr.2⟩
end Go.Proofs.Ytdngjamjccjlmaa
