/- Lemmas: binds and what is put for variables. No condition. -/
import Derived.Test.YtmpegnogdgbleaaPTa
import Derived.Test.YtmpegnogdgbleaaPCa
import Derived.Test.YtmpegnogdgbleaaPVa
import Derived.Test.YtmpegnogdgbleaaPFa
import Derived.Test.YtmpegnogdgbleaaPHa
set_option linter.defProp false
set_option linter.unusedSimpArgs false
set_option linter.unusedVariables false
set_option maxHeartbeats 4000000
set_option maxRecDepth 100000
namespace Go.Proofs.Ytmpegnogdgbleaa
open Go Go.Ab
open Nat renaming reduceEqDiff -> yA, reduceAdd -> yB, reduceLT -> yC, reduceLeDiff -> yD, reduceMul -> yE, reducePow -> yF, reduceBEq -> yG
open Int renaming reduceAdd -> yH, reduceLT -> yI, reduceToNat -> yJ, reduceBEq -> yK, reduceBNe -> yL, reduceLE -> yM
section
abbrev Bd:=Int×Ty
def embB(p:Bd):AV:= .agg [.int .i64 p.1,.int .i64 p.2.kind,.int .i64 p.2.num,.sl (p.2.kids.map emb) .no]
theorem zGJ(v k n:Int)(l:List Ty):AV.agg [.int .i64 v,.int .i64 k,.int .i64 n,.sl (l.map emb) .no]=embB (v,.mk k n l):=rfl
theorem zGK(v k n:Int):AV.agg [.int .i64 v,.int .i64 k,.int .i64 n,.sl [] .no]=embB (v,.mk k n []):=rfl
theorem zGI(p:Bd):cellsOf (embB p)=[.int .i64 p.1,.int .i64 p.2.kind,.int .i64 p.2.num,.sl (p.2.kids.map emb) .no]:=rfl
theorem zGM(p:Bd):(embB p).solid=true:=rfl
theorem zCA(l:List Bd):(∀y,y∈l.map embB->(cellsOf y).length=4)=True:=by
 simp only[YAb,iff_true];intro y hy;obtain⟨t,_,rfl⟩:=List.mem_map.1 hy;rw[zGI];rfl
theorem zGL(p:Bd):(embB p).norm=embB p:=by simp only[embB,AV.norm,AV.zQg,zOu]
theorem zGH(m:Nat)(p:Bd):(embB p).bel m=true:=by simp only[embB,AV.bel,AV.belL,zOq,Bool.and_self]
theorem zOZ(l:List Bd):AV.zQg (l.map embB)=l.map embB:=by
 induction l with
 |nil=>rfl
 |cons a l ih=>simp only[List.map_cons,AV.zQg,zGL,ih]
theorem zOX(m:Nat)(l:List Bd):AV.belL m (l.map embB)=true:=by
 induction l with
 |nil=>rfl
 |cons a l ih=>simp only[List.map_cons,AV.belL,zGH,ih,Bool.and_self]
theorem zOY{l:List Bd}{i:Nat}(h:i<l.length):(l.map embB).getD i .any=embB (l.getD i default):=by simp[h]
def W1Bd:=cjI @zCA (cjI @zGM (cjI @zGI (cjI @zGJ (cjI @zGK (cjI @zGL (@zOZ))))))
theorem W1B:type_of% W1Bd:=W1Bd
def W2Bd:=cjI @zGL (cjI @zOZ (cjI @zGJ (@zGK)))
theorem W2B:type_of% W2Bd:=W2Bd
end
section
attribute [local irreducible] zA0 zAA zAa zAi zAj GoIf GoGb zAk GoO GoD GoX GoDX GoG GoDG GoGv zAl Go zAB
def zNa:List Bd->Int->Option Ty
 | [],_=>none
 |p::l,n=>if p.1=n then some p.2 else zNa l n
mutual
def zUY(l:List Bd):Ty->Ty
 | .mk k n ks=>if k=6 then(match zNa l n with|some t=>t|none=> .mk k n ks)else .mk k 0 (zUZ l ks)
def zUZ(l:List Bd):List Ty->List Ty
 | []=> []
 |t::ts=>zUY l t::zUZ l ts
end
noncomputable def sigB(l:List Bd)(n:Int):T:=match zNa l n with|some t=>tOf t|none=> .var n
theorem zSs{σ:Int->T}(h:∀n,(T.var n).ok=true->(σ n).ok=true):∀x:T,x.ok=true->(putS σ x).ok=true:=by
 intro x
 induction x<;>intro hx<;>simp_all [putS,T.ok]
def zSc(c:Bool):T->T
 | .dyn=> .base 3
 | .var n=>if c=true then .base 2 else .var n
 | .pair a b=> .pair (zSc c a) (zSc c b)
 | .list a=> .list (zSc c a)
 | .fn a b=> .fn (zSc c a) (zSc c b)
 | .base k=> .base k
theorem zSd(c:Bool):∀x:T,x.ok=true->(zSc c x).ok=true:=by
 intro x
 induction x<;>intro hx<;>cases c<;>simp_all [zSc,T.ok]
theorem zj2:∀x:T,(zSc true x).closed=true:=by
 intro x
 induction x<;>simp_all [zSc,T.closed]
theorem zSe(c:Bool):∀x:T,zA0 Try.prog 50 [emb x.ty,.bool c] (emb (zSc c x).ty):=by
 intro x
 induction x with
 |dyn=>
  show zA0 _ _ [emb (.mk 5 0 []),.bool c] (emb (zM6 4))
  refine zSa C_ok Try.func50 rfl (by decide) (YAL rfl) (by decide) (zGx _ _) fun ok H=> ?_
  rw[Try.results50]
  have h:=YAN
  repeat' (first
   |(with_reducible first|apply bA|apply bB|apply bC|apply bD|apply bE|apply bF)<;>intro h
   |((first|apply bG|apply bH);simp only[AV.norm,AV.zQg,W2,W2B,W3,yH,yI,yJ,yK,yL,yM];first|refine zIf (zM8 _) (.inl rfl) ?_|refine zIj (zM8 _) (.inl rfl) ?_)
   |refine zKg (id:=9) C_ok (fun _=>trivial) mixed 0 Try.f50.ntmps rfl (by kernel_rfl) (by decide) ?_
   |refine zJ9 ?_ C_ok Try.f50.ntmps rfl (by decide)
   |skip)<;>simp only[h,↓zaL,↓zHC,WZ,reduceIte,yA,yB,yC,yD,reduceCtorEq,yE,yF,W1,W1B,W3,yH,yI,yJ,yK,yL,yM,zFY]
 |var n=>
  cases c with
  |true=>
   show zA0 _ _ [emb (.mk 6 n []),.bool true] (emb (zM6 3))
   refine zSa C_ok Try.func50 rfl (by decide) (YAL rfl) (by decide) (zGx _ _) fun ok H=> ?_
   rw[Try.results50]
   have h:=YAN
   repeat' (first
    |(with_reducible first|apply bA|apply bB|apply bC|apply bD|apply bE|apply bF)<;>intro h
    |((first|apply bG|apply bH);simp only[AV.norm,AV.zQg,W2,W2B,W3,yH,yI,yJ,yK,yL,yM];first|refine zIf (zM8 _) (.inl rfl) ?_|refine zIj (zM8 _) (.inl rfl) ?_)
    |refine zKg (id:=9) C_ok (fun _=>trivial) mixed 0 Try.f50.ntmps rfl (by kernel_rfl) (by decide) ?_
    |refine zJ9 ?_ C_ok Try.f50.ntmps rfl (by decide)
    |skip)<;>simp only[h,↓zaL,↓zHC,WZ,reduceIte,yA,yB,yC,yD,reduceCtorEq,yE,yF,W1,W1B,W3,yH,yI,yJ,yK,yL,yM,zFY]
  |false=>
   show zA0 _ _ [emb (.mk 6 n []),.bool false] (emb (.mk 6 n []))
   refine zSa C_ok Try.func50 rfl (by decide) (YAL rfl) (by decide) (zGx _ _) fun ok H=> ?_
   rw[Try.results50]
   have h:=YAN
   repeat' (first
    |(with_reducible first|apply bA|apply bB|apply bC|apply bD|apply bE|apply bF)<;>intro h
    |refine zKg (id:=9) C_ok (fun _=>trivial) mixed 0 Try.f50.ntmps rfl (by kernel_rfl) (by decide) ?_
    |refine zJ9 ?_ C_ok Try.f50.ntmps rfl (by decide)
    |skip)<;>simp only[h,↓zaL,↓zHC,WZ,reduceIte,yA,yB,yC,yD,reduceCtorEq,yE,yF,W1,W1B,W3,yH,yI,yJ,yK,yL,yM,zFY]
 |base k=>
  show zA0 _ _ [emb (.mk (k.val+1) 0 []),.bool c] (emb (.mk (k.val+1) 0 []))
  have h1:=zDD k
  have e1:(((k.val:Int)+1)==5)=false:=by simp[h1]
  have e2:(((k.val:Int)+1)==6)=false:=by simp[h1]
  generalize ((k.val:Int)+1)=m at*
  refine zSa C_ok Try.func50 rfl (by decide) (YAL rfl) (by decide) (zGx _ _) fun ok H=> ?_
  rw[Try.results50]
  have h:=YAN
  repeat' (first
   |(with_reducible first|apply bA|apply bB|apply bC|apply bD|apply bE|apply bF)<;>intro h
   |refine zKg (id:=9) C_ok (fun _=>trivial) mixed 0 Try.f50.ntmps rfl (by kernel_rfl) (by decide) ?_
   |refine zJ9 ?_ C_ok Try.f50.ntmps rfl (by decide)
   |skip)<;>simp only[h,↓zaL,↓zHC,WZ,reduceIte,yA,yB,yC,yD,reduceCtorEq,yE,yF,W1,W1B,W3,yH,yI,yJ,yK,yL,yM,e1,e2,zFY]
 |pair x y ih1 ih2=>
  have e:(zSc c (.pair x y)).ty= .mk 7 0 [(zSc c x).ty,(zSc c y).ty]:=rfl
  rw[e]
  generalize (zSc c x).ty=x' at*
  generalize (zSc c y).ty=y' at*
  simp only[T.ty]
  refine zSa C_ok Try.func50 rfl (by decide) (YAL rfl) (by decide) (zGx _ _) fun ok H=> ?_
  rw[Try.results50]
  have h:=YAN
  repeat' (first
   |(with_reducible first|apply bA|apply bB|apply bC|apply bD|apply bE|apply bF)<;>intro h
   |((first|apply bG|apply bH);simp only[AV.norm,AV.zQg,W2,W2B,W3,yH,yI,yJ,yK,yL,yM];first|refine zIf (ih1) (.inl rfl) ?_|refine zIf (ih2) (.inl rfl) ?_|refine zIj (ih1) (.inl rfl) ?_|refine zIj (ih2) (.inl rfl) ?_)
   |refine zKg (id:=9) C_ok (fun _=>trivial) mixed 0 Try.f50.ntmps rfl (by kernel_rfl) (by decide) ?_
   |refine zJ9 ?_ C_ok Try.f50.ntmps rfl (by decide)
   |skip)<;>simp only[h,↓zaL,↓zHC,WZ,reduceIte,yA,yB,yC,yD,reduceCtorEq,yE,yF,W1,W1B,W3,yH,yI,yJ,yK,yL,yM,zFY]
 |fn x y ih1 ih2=>
  have e:(zSc c (.fn x y)).ty= .mk 9 0 [(zSc c x).ty,(zSc c y).ty]:=rfl
  rw[e]
  generalize (zSc c x).ty=x' at*
  generalize (zSc c y).ty=y' at*
  simp only[T.ty]
  refine zSa C_ok Try.func50 rfl (by decide) (YAL rfl) (by decide) (zGx _ _) fun ok H=> ?_
  rw[Try.results50]
  have h:=YAN
  repeat' (first
   |(with_reducible first|apply bA|apply bB|apply bC|apply bD|apply bE|apply bF)<;>intro h
   |((first|apply bG|apply bH);simp only[AV.norm,AV.zQg,W2,W2B,W3,yH,yI,yJ,yK,yL,yM];first|refine zIf (ih1) (.inl rfl) ?_|refine zIf (ih2) (.inl rfl) ?_|refine zIj (ih1) (.inl rfl) ?_|refine zIj (ih2) (.inl rfl) ?_)
   |refine zKg (id:=9) C_ok (fun _=>trivial) mixed 0 Try.f50.ntmps rfl (by kernel_rfl) (by decide) ?_
   |refine zJ9 ?_ C_ok Try.f50.ntmps rfl (by decide)
   |skip)<;>simp only[h,↓zaL,↓zHC,WZ,reduceIte,yA,yB,yC,yD,reduceCtorEq,yE,yF,W1,W1B,W3,yH,yI,yJ,yK,yL,yM,zFY]
 |list x ih1=>
  have e:(zSc c (.list x)).ty= .mk 8 0 [(zSc c x).ty]:=rfl
  rw[e]
  generalize (zSc c x).ty=x' at*
  simp only[T.ty]
  refine zSa C_ok Try.func50 rfl (by decide) (YAL rfl) (by decide) (zGx _ _) fun ok H=> ?_
  rw[Try.results50]
  have h:=YAN
  repeat' (first
   |(with_reducible first|apply bA|apply bB|apply bC|apply bD|apply bE|apply bF)<;>intro h
   |((first|apply bG|apply bH);simp only[AV.norm,AV.zQg,W2,W2B,W3,yH,yI,yJ,yK,yL,yM];first|refine zIf (ih1) (.inl rfl) ?_|refine zIj (ih1) (.inl rfl) ?_)
   |refine zKg (id:=9) C_ok (fun _=>trivial) mixed 0 Try.f50.ntmps rfl (by kernel_rfl) (by decide) ?_
   |refine zJ9 ?_ C_ok Try.f50.ntmps rfl (by decide)
   |skip)<;>simp only[h,↓zaL,↓zHC,WZ,reduceIte,yA,yB,yC,yD,reduceCtorEq,yE,yF,W1,W1B,W3,yH,yI,yJ,yK,yL,yM,zFY]
end
end Go.Proofs.Ytmpegnogdgbleaa
