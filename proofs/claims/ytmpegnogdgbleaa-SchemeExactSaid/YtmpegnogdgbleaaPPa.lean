/- Lemmas: binds and what is put for variables. No condition. -/
import Derived.Test.YtmpegnogdgbleaaPTa
import Derived.Test.YtmpegnogdgbleaaPCa
import Derived.Test.YtmpegnogdgbleaaPVa
import Derived.Test.YtmpegnogdgbleaaPFa
import Derived.Test.YtmpegnogdgbleaaPHa
set_option linter.defProp false
set_option linter.unusedSimpArgs false
set_option linter.unusedVariables false
set_option maxHeartbeats 4000000
set_option maxRecDepth 100000
namespace Go.Proofs.Ytmpegnogdgbleaa
open Go Go.Ab
open AV renaming belL -> yO, bel -> yN, normL -> yQ, norm -> yP
open Nat renaming reduceEqDiff -> yA, reduceAdd -> yB, reduceLT -> yC, reduceLeDiff -> yD, reduceMul -> yE, reducePow -> yF
open Int renaming reduceAdd -> yH, reduceLT -> yI, reduceToNat -> yJ, reduceBEq -> yK, reduceBNe -> yL, reduceLE -> yM
open AObj renaming bel -> yR
attribute [local irreducible] zA0 zAA zAa zAi zAj GoIf GoGb zAk GoO GoD GoX GoDX GoG GoDG GoGv zAl Go zAB
section
abbrev Bd:=Int×Ty
def embB(p:Bd):AV:= .agg [.int .i64 p.1,.int .i64 p.2.kind,.int .i64 p.2.num,.sl (p.2.kids.map emb) .no]
theorem zrE(p:Bd):embB p= .agg [.int .i64 p.1,.int .i64 p.2.kind,.int .i64 p.2.num,.sl (p.2.kids.map emb) .no]:=rfl
theorem zGJ(v k n:Int)(l:List Ty):AV.agg [.int .i64 v,.int .i64 k,.int .i64 n,.sl (l.map emb) .no]=embB (v,.mk k n l):=rfl
theorem zGK(v k n:Int):AV.agg [.int .i64 v,.int .i64 k,.int .i64 n,.sl [] .no]=embB (v,.mk k n []):=rfl
theorem zGI(p:Bd):cellsOf (embB p)=[.int .i64 p.1,.int .i64 p.2.kind,.int .i64 p.2.num,.sl (p.2.kids.map emb) .no]:=rfl
theorem zGM(p:Bd):(embB p).solid=true:=rfl
theorem zCA(l:List Bd):(∀y,y∈l.map embB->(cellsOf y).length=4)=True:=by
 simp only[YAb,iff_true];intro y hy;obtain⟨t,_,rfl⟩:=List.mem_map.1 hy;rw[zGI];rfl
theorem zGL(p:Bd):(embB p).norm=embB p:=by simp only[embB,yP,yQ,zOu]
theorem zGH(m:Nat)(p:Bd):(embB p).bel m=true:=by simp only[embB,yN,yO,zOq,Bool.and_self]
theorem zOZ(l:List Bd):AV.normL (l.map embB)=l.map embB:=by
 induction l with
 |nil=>rfl
 |cons a l ih=>simp only[List.map_cons,yQ,zGL,ih]
theorem zOX(m:Nat)(l:List Bd):AV.belL m (l.map embB)=true:=by
 induction l with
 |nil=>rfl
 |cons a l ih=>simp only[List.map_cons,yO,zGH,ih,Bool.and_self]
theorem zOY{l:List Bd}{i:Nat}(h:i<l.length):(l.map embB).getD i .any=embB (l.getD i default):=by simp[h]
def W1Bd:=cjI @zCA (cjI @zGM (cjI @zGI (cjI @zGJ (cjI @zGK (cjI @zGL (@zOZ))))))
theorem W1B:type_of% W1Bd:=W1Bd
def W2Bd:=cjI @zGL (cjI @zOZ (cjI @zGJ (@zGK)))
theorem W2B:type_of% W2Bd:=W2Bd
end
section
def zNa:List Bd->Int->Option Ty
 | [],_=>none
 |p::l,n=>if p.1=n then some p.2 else zNa l n
theorem zrj(l:List Bd)(n:Int)(i:Nat)(h:i<l.length):zNa (l.drop i) n=if(l.getD i default).1=n then some (l.getD i default).2 else zNa (l.drop (i+1)) n:=by
 rw[List.drop_eq_getElem_cons h,zNa];simp[h]
mutual
def zUY(l:List Bd):Ty->Ty
 | .mk k n ks=>if k=6 then(match zNa l n with|some t=>t|none=> .mk k n ks)else .mk k 0 (zUZ l ks)
def zUZ(l:List Bd):List Ty->List Ty
 | []=> []
 |t::ts=>zUY l t::zUZ l ts
end
theorem zsK(l:List Bd):∀ts:List Ty,zUZ l ts=ts.map (zUY l)
 | []=>rfl
 |t::ts=>by simp[zUZ,zsK l ts]
theorem zsL(l:List Bd)(t:Ty):zUY l t=if t.kind=6 then(match zNa l t.num with|some t=>t|none=>t)else .mk t.kind 0 (t.kids.map (zUY l)):=by
 cases t;rw[zUY,zsK];rfl
theorem zsB(t:Ty)(g:Ty->Ty):(List.range t.kids.length).map (fun i=>g (t.kid i))=t.kids.map g:=by
 conv=>rhs;rw[<-zcl t]
 simp[Function.comp_def]
theorem zsP(l:List Bd)(t:Ty)(hs:nodes t<=1048576)(ih:∀x∈t.kids,zA0 Try.prog 20 [emb x,.sl (l.map embB) .no] (emb (zUY l x))):zA0 Try.prog 20 [emb t,.sl (l.map embB) .no] (emb (zUY l t)):=by
 by_cases h6:t.kind=6
 ·have e6:(t.kind==6)=true:=by simp[h6]
  refine zSa C_ok Try.func20 rfl (by decide) (YAL rfl) (by decide) (zGx _ _) fun ok H=> ?_
  rw[Try.results20]
  have hmax:l.length<=maxLen:=by
   have:=ok.2.1;simp only[AV.okay,YAK]at this;exact this.1
  have h:=YAN
  repeat' (first
   |(with_reducible first|apply bA|apply bB|apply bC|apply bD|apply bE|apply bF)<;>intro h
   |refine zKg (id:=5) C_ok (fun _=>trivial) mixed 0 Try.f20.ntmps rfl (by kernel_rfl) (by decide) ?_
   |refine zKg (id:=12) C_ok (fun _=>trivial) mixed 0 Try.f20.ntmps rfl (by kernel_rfl) (by decide) ?_
   |skip)<;>simp only[h,↓zaL,↓zHC,WZ,reduceIte,yA,yB,yC,yD,reduceCtorEq,yE,yF,W1,W1B,e6]
  refine aloop_trim [5,1,2,4] ?_
  simp only[List.map_cons,List.map_nil,↓zaL,↓zHC,WZ,reduceIte,yA,yB,yC,yD,reduceCtorEq,yE,yF,W1,W1B]
  refine zJ3 1 (fun i:Nat=> [(5,.int .i64 i)]) (fun _=>_) (fun i=>i<=l.length/\zNa (l.drop i) t.num=zNa l t.num) (fun i=>l.length-i) C_ok 0 rfl rfl ⟨YAX _,rfl⟩ (by decide) ?_
  rintro i ⟨hi,hr⟩
  simp only[List.drop_succ_cons,List.drop_zero,List.cons_append,List.nil_append]
  simp only[↓zaL,↓zHC,WZ,reduceIte,yA,yB,yC,yD,reduceCtorEq,yE,yF,W1,W1B]
  refine zJv (fun hlt=> ?_) (fun hlt=> ?_)
  ·rw[zrj l t.num i hlt]at hr
   by_cases e:(l.getD i default).1=t.num
   ·have e1:((l.getD i default).1==t.num)=true:=by simpa using e
    rw[if_pos e]at hr
    have e2:zUY l t=(l.getD i default).2:=by rw[zsL,if_pos h6,<-hr]
    rw[e2]
    have hg:=zOY hlt
    clear hr e
    generalize l.getD i default=p at*
    have h:=YAN
    repeat' (first
     |(with_reducible first|apply bA|apply bB|apply bC|apply bD|apply bE|apply bF)<;>intro h
     |refine zKg (id:=5) C_ok (fun _=>trivial) mixed 0 Try.f20.ntmps rfl (by kernel_rfl) (by decide) ?_
     |refine zKg (id:=12) C_ok (fun _=>trivial) mixed 0 Try.f20.ntmps rfl (by kernel_rfl) (by decide) ?_
     |skip)<;>simp only[h,↓zaL,↓zHC,WZ,reduceIte,yA,yB,yC,yD,reduceCtorEq,yE,yF,W1,W1B,hlt,hg,e1,YAK]
   ·have e1:((l.getD i default).1==t.num)=false:=by simpa using e
    rw[if_neg e]at hr
    have h:=YAN
    repeat' (first
     |(with_reducible first|apply bA|apply bB|apply bC|apply bD|apply bE|apply bF)<;>intro h
     |refine zKg (id:=5) C_ok (fun _=>trivial) mixed 0 Try.f20.ntmps rfl (by kernel_rfl) (by decide) ?_
     |refine zKg (id:=12) C_ok (fun _=>trivial) mixed 0 Try.f20.ntmps rfl (by kernel_rfl) (by decide) ?_
     |skip)<;>simp only[h,↓zaL,↓zHC,WZ,reduceIte,yA,yB,yC,yD,reduceCtorEq,yE,yF,W1,W1B,hlt,zOY hlt,e1,YAK]
    refine⟨i+1,⟨hlt,hr⟩,by omega,zas rfl rfl rfl rfl ?_ ?_ ?_⟩
    all_goals simp only[WK,↓zaL,↓zHC,yA,reduceIte,yN,yO,yR,yP,yQ,yB,yC,zbX hlt hmax,zOq,zOX,yO,YAK]
  ·rw[List.drop_of_length_le (by omega),zNa]at hr
   have e2:zUY l t=t:=by rw[zsL,if_pos h6,<-hr]
   rw[e2]
   have h:=YAN
   repeat' (first
    |(with_reducible first|apply bA|apply bB|apply bC|apply bD|apply bE|apply bF)<;>intro h
    |refine zKg (id:=5) C_ok (fun _=>trivial) mixed 0 Try.f20.ntmps rfl (by kernel_rfl) (by decide) ?_
    |refine zKg (id:=12) C_ok (fun _=>trivial) mixed 0 Try.f20.ntmps rfl (by kernel_rfl) (by decide) ?_
    |skip)<;>simp only[h,↓zaL,↓zHC,WZ,reduceIte,yA,yB,yC,yD,reduceCtorEq,yE,yF,W1,W1B,hlt,YAK]
 ·have e6:(t.kind==6)=false:=by simp[h6]
  refine zSa C_ok Try.func20 rfl (by decide) (YAL rfl) (by decide) (zGx _ _) fun ok H=> ?_
  rw[Try.results20]
  have hmax:t.kids.length<=maxLen:=(zG5 ok.1).1
  have h:=YAN
  repeat' (first
   |(with_reducible first|apply bA|apply bB|apply bC|apply bD|apply bE|apply bF)<;>intro h
   |refine zKg (id:=5) C_ok (fun _=>trivial) mixed 0 Try.f20.ntmps rfl (by kernel_rfl) (by decide) ?_
   |refine zKg (id:=12) C_ok (fun _=>trivial) mixed 0 Try.f20.ntmps rfl (by kernel_rfl) (by decide) ?_
   |skip)<;>simp only[h,↓zaL,↓zHC,WZ,reduceIte,yA,yB,yC,yD,reduceCtorEq,yE,yF,W1,W1B,e6]
  have hlen:=zND t
  have hroom:∀i,i<t.kids.length->((i+1)*40<=140737488355328)=True:=fun i h=>by simp only[YAb,iff_true];omega
  have hroom2:∀i,i<t.kids.length->(i+1<=9223372036854775807)=True:=fun i h=>by simp only[YAb,iff_true];omega
  have hend:∀m,¬m<t.kids.length->m<=t.kids.length->emb (.mk t.kind 0 ((List.range m).map fun i=>zUY l (t.kid i)))=emb (zUY l t):=fun m h1 h2=>by
   obtain rfl:m=t.kids.length:=by omega
   rw[zsL,if_neg h6,zsB]
  refine aloop_trim [7,1,2,4,6] ?_
  simp only[List.map_cons,List.map_nil,↓zaL,↓zHC,WZ,reduceIte,yA,yB,yC,yD,reduceCtorEq,yE,yF,W1,W1B]
  refine zJ2 1 2 (fun i:Nat=> [(7,.int .i64 i)]) (fun i=>match i with
   |0=> [.box [.int .i64 t.kind,.int .i64 0,.sl [] .full]]
   |i+1=> [.box [.int .i64 t.kind,.int .i64 0,.sl (((List.range (i+1)).map (fun i=>zUY l (t.kid i))).map emb) (.own (H.length+3))],.tok (i+1) 3]) (fun i=>i<=t.kids.length) (fun i=>t.kids.length-i) C_ok 0 rfl rfl (YAX _) (by decide) ?_
  rintro(_|i) hi
  ·simp only[List.drop_succ_cons,List.drop_zero,List.cons_append,List.nil_append,List.take_succ_cons,List.take_zero]
   simp only[↓zaL,↓zHC,WZ,reduceIte,yA,yB,yC,yD,reduceCtorEq,yE,yF,W1,W1B]
   refine zJv (fun hlt=> ?_) (fun hlt=> ?_)
   ·have h:=YAN
    repeat' (first
     |(with_reducible first|apply bA|apply bB|apply bC|apply bD|apply bE|apply bF)<;>intro h
     |((first|apply bG|apply bH);simp only[yP,yQ,W2,W2B,hlt,zOr hlt,hroom 0 hlt,hroom2 0 hlt];first|refine zIf (ih _ (zMb hlt)) (.inl rfl) ?_|refine zIj (ih _ (zMb hlt)) (.inl rfl) ?_)
     |refine zKg (id:=5) C_ok (fun _=>trivial) mixed 0 Try.f20.ntmps rfl (by kernel_rfl) (by decide) ?_
     |refine zKg (id:=12) C_ok (fun _=>trivial) mixed 0 Try.f20.ntmps rfl (by kernel_rfl) (by decide) ?_
     |skip)<;>simp only[h,↓zaL,↓zHC,WZ,reduceIte,yA,yB,yC,yD,reduceCtorEq,yE,yF,W1,W1B,hlt,zOr hlt,hroom 0 hlt,hroom2 0 hlt]
    all_goals (refine⟨0+1,hlt,by omega,zas rfl rfl rfl ?_ ?_ ?_ ?_⟩<;>(try simp only[WK,↓zaL,↓zHC,yA,reduceIte,yN,yO,yR,yP,yQ,yB,yC,zbX hlt hmax,zOq,zOX,zOu,yO,YAK])<;>(try simp[List.range_succ,zGy])<;>(try omega))
   ·simp only[↓zaL,↓zHC,WZ,reduceIte,yA,yB,yC,yD,reduceCtorEq,yE,yF,W1,W1B]
    exact hend 0 hlt hi
  ·simp only[List.drop_succ_cons,List.drop_zero,List.cons_append,List.nil_append,List.take_succ_cons,List.take_zero]
   simp only[↓zaL,↓zHC,WZ,reduceIte,yA,yB,yC,yD,reduceCtorEq,yE,yF,W1,W1B]
   refine zJv (fun hlt=> ?_) (fun hlt=> ?_)
   ·have h:=YAN
    repeat' (first
     |(with_reducible first|apply bA|apply bB|apply bC|apply bD|apply bE|apply bF)<;>intro h
     |((first|apply bG|apply bH);simp only[yP,yQ,W2,W2B,hlt,zOr hlt,hroom (i+1) hlt,hroom2 (i+1) hlt];first|refine zIf (ih _ (zMb hlt)) (.inl rfl) ?_|refine zIj (ih _ (zMb hlt)) (.inl rfl) ?_)
     |refine zKg (id:=5) C_ok (fun _=>trivial) mixed 0 Try.f20.ntmps rfl (by kernel_rfl) (by decide) ?_
     |refine zKg (id:=12) C_ok (fun _=>trivial) mixed 0 Try.f20.ntmps rfl (by kernel_rfl) (by decide) ?_
     |skip)<;>simp only[h,↓zaL,↓zHC,WZ,reduceIte,yA,yB,yC,yD,reduceCtorEq,yE,yF,W1,W1B,hlt,zOr hlt,hroom (i+1) hlt,hroom2 (i+1) hlt]
    all_goals (refine⟨i+1+1,hlt,by omega,zas rfl rfl rfl ?_ ?_ ?_ ?_⟩<;>(try simp only[WK,↓zaL,↓zHC,yA,reduceIte,yN,yO,yR,yP,yQ,yB,yC,zbX hlt hmax,zOq,zOX,zOu,yO,YAK])<;>(try simp[List.range_succ,zGy])<;>(try omega))
   ·simp only[↓zaL,↓zHC,WZ,reduceIte,yA,yB,yC,yD,reduceCtorEq,yE,yF,W1,W1B]
    exact hend (i+1) hlt hi
theorem zsN(l:List Bd)(t:Ty)(hs:nodes t<=1048576):zA0 Try.prog 20 [emb t,.sl (l.map embB) .no] (emb (zUY l t)):=
 Ty.ind (p:=fun t=>nodes t<=1048576->zA0 Try.prog 20 [emb t,.sl (l.map embB) .no] (emb (zUY l t))) (fun t ih hs=>zsP l t hs fun x hx=>ih x hx (by have:=zch hx;omega)) t hs
noncomputable def sigB(l:List Bd)(n:Int):T:=match zNa l n with|some t=>tOf t|none=> .var n
theorem zsO{l:List Bd}(hl:∀n t,zNa l n=some t->right t=true):∀x:T,zUY l x.ty=(putS (sigB l) x).ty:=by
 intro x
 induction x with
 |var n=>
  simp only[T.ty,zsL,Ty.zMj,Ty.zQn,if_true,putS,sigB]
  cases e:zNa l n with
  |none=>rfl
  |some t=>
   obtain⟨y,rfl,_⟩:=T.zRB (hl n t e)
   simp only[zX5]
 |base k=>have:=zDD k;simp only[T.ty,zsL,Ty.zMj,putS,this.2.1,if_false,Ty.zMf,List.map_nil]
 |dyn=>simp[T.ty,zsL,Ty.zMj,putS,Ty.zMf]
 |pair a b ih1 ih2=>rw[T.ty,zsL];simp[Ty.zMj,putS,T.ty,Ty.zMf,ih1,ih2]
 |fn a b ih1 ih2=>rw[T.ty,zsL];simp[Ty.zMj,putS,T.ty,Ty.zMf,ih1,ih2]
 |list a ih1=>rw[T.ty,zsL];simp[Ty.zMj,putS,T.ty,Ty.zMf,ih1]
def zSc(c:Bool):T->T
 | .dyn=> .base 3
 | .var n=>if c=true then .base 2 else .var n
 | .pair a b=> .pair (zSc c a) (zSc c b)
 | .list a=> .list (zSc c a)
 | .fn a b=> .fn (zSc c a) (zSc c b)
 | .base k=> .base k
end
end Go.Proofs.Ytmpegnogdgbleaa
