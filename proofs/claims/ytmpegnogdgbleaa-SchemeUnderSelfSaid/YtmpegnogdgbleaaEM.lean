/- Layer 11: matching: plain laws about the binds of the statements. No condition. -/
import Derived.Test.YtmpegnogdgbleaaE4
import Derived.Test.YtmpegnogdgbleaaPEa
set_option linter.unusedSimpArgs false
set_option linter.unusedVariables false
namespace Go.Proofs.Ytmpegnogdgbleaa
open Go Go.Ab
theorem zjS:∀ {L:List Bd},(L.map Prod.fst).Nodup->∀p∈L,zNa L p.1=some p.2:=by
 intro L
 induction L with
 |nil=>intro _ p hp;cases hp
 |cons a L ih=>
  intro hn p hp
  rw[List.map_cons,List.nodup_cons]at hn
  rw[zNa]
  rcases List.mem_cons.1 hp with rfl|hp
  ·rw[if_pos rfl]
  ·rw[if_neg fun e=>hn.1 (List.mem_map.2 ⟨p,hp,e.symm⟩)]
   exact ih hn.2 p hp
noncomputable def gT(l:List Ty)(c:Bool)(i:Nat):T:=if l.length=0 then .base 0 else zSc c (tOf (l.getD (i % l.length) default))
theorem zkf(vs:List Int)(l:List Ty)(c:Bool)(i:Nat):zXa vs l c i=(vs.getD i 0,(gT l c i).ty):=by
 unfold zXa gT
 split<;>rfl
theorem zke(vs:List Int)(l:List Ty)(c:Bool):(zXW vs l c).map Prod.fst=vs:=by
 apply List.ext_getElem (by simp[zXW])
 intro i h1 h2
 simp[zXW,zXa,h2]
theorem zj4(c:Bool):∀x:T,(zSc c x).stat=true:=by
 intro x
 induction x<;>cases c<;>simp_all [zSc,T.stat]
theorem ziT(l:List Ty)(c:Bool)(i:Nat):(gT l c i).stat=true:=by
 unfold gT
 split
 ·rfl
 ·exact zj4 _ _
theorem zkb{vs:List Int}(hn:vs.Nodup)(l:List Ty)(c:Bool){n:Int}(h:n∈vs):∃i,sigB (zXW vs l c) n=gT l c i/\(n,(gT l c i).ty)∈zXW vs l c:=by
 obtain⟨i,hi,e⟩:=List.mem_iff_getElem.1 h
 have hm:zXa vs l c i∈zXW vs l c:=List.mem_map.2 ⟨i,List.mem_range.2 hi,rfl⟩
 have hl:=zjS (L:=zXW vs l c) (by rw[zke];exact hn) _ hm
 rw[zkf]at hl hm
 have e1:vs.getD i 0=n:=by rw[<-e];simp[hi]
 rw[e1]at hl hm
 exact⟨i,by rw[sigB,hl];exact zX5 _,hm⟩
theorem zXY{x:T}(hx:x.ok=true){l:List Ty}(hl:∀y∈l,right y=true)(c:Bool):okBs (zXW (x.zaU []) l c)=true:=by
 refine List.all_eq_true.2 fun p hp=> ?_
 obtain⟨i,hi,rfl⟩:=List.mem_map.1 hp
 have hi:=List.mem_range.1 hi
 have h1:=zLA hx ((x.zaU []).getD i 0) (zPK.1 (by simp[hi]))
 have h2:=zXb (vs:=x.zaU []) (c:=c) hl i
 have h3:(zXa (x.zaU []) l c i).1=(x.zaU []).getD i 0:=rfl
 simp only[okBd,h2,Bool.and_true,YAA]
 rw[h3]
 exact⟨decide_eq_true h1.1,decide_eq_true h1.2⟩
theorem zO9:∀(a u:T) (L L':List BT),u.ok=true->(∀p∈L,p.2.ok=true)->zO6 a u L=some L'->∀p∈L',p.2.ok=true:=by
 intro a
 induction a with
 |base k=>
  intro u L L' hu hL h
  cases u<;>simp only[zO6,reduceCtorEq]at h
  split at h
  ·cases h;exact hL
  ·cases h
 |dyn=>
  intro u L L' hu hL h
  cases u<;>simp only[zO6,reduceCtorEq]at h
  cases h;exact hL
 |var n=>
  intro u L L' hu hL h
  rw[zO6]at h
  split at h
  ·split at h
   ·cases h;exact hL
   ·cases h
  ·split at h
   ·cases h
    intro p hp
    rcases List.mem_append.1 hp with hp|hp
    ·exact hL p hp
    ·simp only[List.mem_singleton]at hp;subst hp;exact hu
   ·cases h
 |pair a b ih1 ih2=>
  intro u L L' hu hL h
  cases u<;>simp only[zO6,reduceCtorEq]at h
  simp only[T.ok,YAA]at hu
  obtain⟨L1,h1,h2⟩:=Option.bind_eq_some_iff.1 h
  exact ih2 _ _ _ hu.2 (ih1 _ _ _ hu.1 hL h1) h2
 |fn a b ih1 ih2=>
  intro u L L' hu hL h
  cases u<;>simp only[zO6,reduceCtorEq]at h
  simp only[T.ok,YAA]at hu
  obtain⟨L1,h1,h2⟩:=Option.bind_eq_some_iff.1 h
  exact ih2 _ _ _ hu.2 (ih1 _ _ _ hu.1 hL h1) h2
 |list a ih1=>
  intro u L L' hu hL h
  cases u<;>simp only[zO6,reduceCtorEq]at h
  simp only[T.ok]at hu
  exact ih1 _ _ _ hu hL h
theorem zNc(n:Int):∀L:List BT,zNa (bdL L) n=(zNg L n).map T.ty
 | []=>rfl
 |p::L=>by
  simp only[bdL,List.map_cons,zNa,zNg]
  split
  ·rfl
  ·exact zNc n L
theorem zV1(L:List BT):sigB (bdL L)=sigT L:=by
 funext n
 rw[sigB,zNc,sigT]
 cases zNg L n with
 |none=>rfl
 |some v=>exact zX5 v
theorem zDE{x y:T}(hx:x.ok=true)(hy:y.ok=true){L:List BT}(h:zO6 x y []=some L):okBs (bdL L)=true/\putS (sigB (bdL L)) x=y/\∀p∈L,p.2.stat=true:=by
 obtain⟨m,e,h1,h2,h3⟩:=zPB x y [] L h
 rw[List.nil_append]at e
 subst e
 have hok:=zO9 x y [] L hy (fun p hp=>by cases hp) h
 refine⟨List.all_eq_true.2 fun q hq=> ?_,by rw[zV1];exact h3,fun p hp=>(h1 p hp).1⟩
 obtain⟨p,hp,rfl⟩:=List.mem_map.1 hq
 have hr:=zLA hx p.1 (h1 p hp).2
 simp only[okBd,T.zT5,hok p hp,Bool.and_true,YAA]
 exact⟨decide_eq_true hr.1,decide_eq_true hr.2⟩
end Go.Proofs.Ytmpegnogdgbleaa
