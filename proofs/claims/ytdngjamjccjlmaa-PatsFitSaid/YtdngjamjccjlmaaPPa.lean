/- Lemmas: binds and what is put for variables. No condition. -/
import Derived.Test.YtdngjamjccjlmaaPTa
import Derived.Test.YtdngjamjccjlmaaPCa
import Derived.Test.YtdngjamjccjlmaaPVa
import Derived.Test.YtdngjamjccjlmaaPFa
import Derived.Test.YtdngjamjccjlmaaPHa
set_option linter.defProp false
set_option linter.unusedSimpArgs false
set_option linter.unusedVariables false
set_option maxHeartbeats 4000000
set_option maxRecDepth 100000
namespace Go.Proofs.Ytdngjamjccjlmaa
open Go Go.Ab
open Nat renaming reduceEqDiff -> yA, reduceAdd -> yB, reduceLT -> yC, reduceLeDiff -> yD, reduceMul -> yE, reducePow -> yF, reduceBEq -> yG
open Int renaming reduceAdd -> yH, reduceLT -> yI, reduceToNat -> yJ, reduceBEq -> yK, reduceBNe -> yL, reduceLE -> yM
section
abbrev Bd:=Int×Ty
def embB(p:Bd):AV:= .agg [.int .i64 p.1,.int .i64 p.2.kind,.int .i64 p.2.num,.sl (p.2.kids.map emb) .no]
theorem zGJ(v k n:Int)(l:List Ty):AV.agg [.int .i64 v,.int .i64 k,.int .i64 n,.sl (l.map emb) .no]=embB (v,.mk k n l):=rfl
theorem zGK(v k n:Int):AV.agg [.int .i64 v,.int .i64 k,.int .i64 n,.sl [] .no]=embB (v,.mk k n []):=rfl
theorem zGI(p:Bd):cellsOf (embB p)=[.int .i64 p.1,.int .i64 p.2.kind,.int .i64 p.2.num,.sl (p.2.kids.map emb) .no]:=rfl
theorem zGM(p:Bd):(embB p).solid=true:=rfl
theorem zCA(l:List Bd):(∀y,y∈l.map embB->(cellsOf y).length=4)=True:=by
 simp only[YAb,iff_true];intro y hy;obtain⟨t,_,rfl⟩:=List.mem_map.1 hy;rw[zGI];rfl
theorem zGL(p:Bd):(embB p).norm=embB p:=by simp only[embB,AV.norm,AV.zQg,zOu]
theorem zGH(m:Nat)(p:Bd):(embB p).bel m=true:=by simp only[embB,AV.bel,AV.belL,zOq,Bool.and_self]
theorem zOZ(l:List Bd):AV.zQg (l.map embB)=l.map embB:=by
 induction l with
 |nil=>rfl
 |cons a l ih=>simp only[List.map_cons,AV.zQg,zGL,ih]
theorem zOX(m:Nat)(l:List Bd):AV.belL m (l.map embB)=true:=by
 induction l with
 |nil=>rfl
 |cons a l ih=>simp only[List.map_cons,AV.belL,zGH,ih,Bool.and_self]
theorem zOY{l:List Bd}{i:Nat}(h:i<l.length):(l.map embB).getD i .any=embB (l.getD i default):=by simp[h]
def W1Bd:=cjI @zCA (cjI @zGM (cjI @zGI (cjI @zGJ (cjI @zGK (cjI @zGL (@zOZ))))))
theorem W1B:type_of% W1Bd:=W1Bd
def W2Bd:=cjI @zGL (cjI @zOZ (cjI @zGJ (@zGK)))
theorem W2B:type_of% W2Bd:=W2Bd
end
section
attribute [local irreducible] zA0 zAA zAa zAi zAj GoIf GoGb zAk GoO GoD GoX GoDX GoG GoDG GoGv zAl Go zAB
def zNa:List Bd->Int->Option Ty
 | [],_=>none
 |p::l,n=>if p.1=n then some p.2 else zNa l n
mutual
def zUY(l:List Bd):Ty->Ty
 | .mk k n ks=>if k=6 then(match zNa l n with|some t=>t|none=> .mk k n ks)else .mk k 0 (zUZ l ks)
def zUZ(l:List Bd):List Ty->List Ty
 | []=> []
 |t::ts=>zUY l t::zUZ l ts
end
noncomputable def sigB(l:List Bd)(n:Int):T:=match zNa l n with|some t=>tOf t|none=> .var n
def zSc(c:Bool):T->T
 | .dyn=> .base 3
 | .var n=>if c=true then .base 2 else .var n
 | .pair a b=> .pair (zSc c a) (zSc c b)
 | .list a=> .list (zSc c a)
 | .fn a b=> .fn (zSc c a) (zSc c b)
 | .base k=> .base k
end
end Go.Proofs.Ytdngjamjccjlmaa
