/- Walks: what a type's variables stand for where it is another one. No condition. -/
import Derived.Test.YtmpegnogdgbleaaPEa
import Derived.Test.YtmpegnogdgbleaaPAe
set_option linter.unusedSimpArgs false
set_option linter.unusedVariables false
set_option maxHeartbeats 4000000
set_option maxRecDepth 100000
namespace Go.Proofs.Ytmpegnogdgbleaa
open Go Go.Ab
open Nat renaming reduceEqDiff -> yA, reduceAdd -> yB, reduceLT -> yC, reduceLeDiff -> yD, reduceMul -> yE, reducePow -> yF, reduceBEq -> yG
open Int renaming reduceAdd -> yH, reduceLT -> yI, reduceToNat -> yJ, reduceBEq -> yK, reduceBNe -> yL, reduceLE -> yM
open AV renaming belL -> yO, bel -> yN, normL -> yQ, norm -> yP
open AObj renaming bel -> yR
attribute [local irreducible] zA0 zAA zAa zAi zAj GoIf GoGb zAk GoO GoD GoX GoDX GoG GoDG GoGv zAl Go zAB
theorem zc2:∀a:T,a.stat=a.static:=by
 intro a
 induction a<;>simp_all [T.stat,T.static]
theorem zdC(u:T):without 5 u.ty=u.stat:=by rw[zc2,T.zc4]
def zHp:T->T->List BT->List BT×Bool
 | .var n,u,L=>match zNg L n with
  |some v=>(L,decide (v=u))
  |none=>(L++ [(n,u)],u.stat)
 | .pair a b,.pair c d,L=>if(zHp a c L).2=true then zHp b d (zHp a c L).1 else((zHp a c L).1,false)
 | .fn a b,.fn c d,L=>if(zHp a c L).2=true then zHp b d (zHp a c L).1 else((zHp a c L).1,false)
 | .list a,.list c,L=>zHp a c L
 | .dyn,.dyn,L=>(L,true)
 | .base k,.base k',L=>(L,decide (k=k'))
 |_,_,L=>(L,false)
theorem zcG:∀(a u:T) (L:List BT),zO6 a u L=if(zHp a u L).2=true then some (zHp a u L).1 else none:=by
 intro a
 induction a with
 |base k=>intro u L;cases u<;>simp only[zO6,zHp,YAa,YAB,if_false]
 |dyn=>intro u L;cases u<;>simp[zO6,zHp]
 |var n=>
  intro u L
  simp only[zO6,zHp]
  have key:zNg L n=none\/∃v,zNg L n=some v:=by cases zNg L n<;>simp
  rcases key with h|⟨v,h⟩<;>simp only[h,YAa]
 |pair a b ih1 ih2=>
  intro u L
  cases u<;>simp only[zO6,zHp,YAB,if_false]
  rename_i c d
  rw[ih1 c L]
  by_cases h:(zHp a c L).2=true
  ·simp only[h,if_true,Option.bind_some,ih2]
  ·simp only[h,if_false,Option.bind_none,YAB]
 |fn a b ih1 ih2=>
  intro u L
  cases u<;>simp only[zO6,zHp,YAB,if_false]
  rename_i c d
  rw[ih1 c L]
  by_cases h:(zHp a c L).2=true
  ·simp only[h,if_true,Option.bind_some,ih2]
  ·simp only[h,if_false,Option.bind_none,YAB]
 |list a ih1=>
  intro u L
  cases u<;>simp only[zO6,zHp,YAB,if_false]
  exact ih1 _ _
theorem zcF:∀(a u:T) (L:List BT),L.length<=(zHp a u L).1.length/\(zHp a u L).1.length<=L.length+a.size:=by
 intro a
 induction a with
 |base k=>intro u L;cases u<;>simp[zHp]
 |dyn=>intro u L;cases u<;>simp[zHp]
 |var n=>
  intro u L
  simp only[zHp]
  cases zNg L n<;>simp[T.size]
 |pair a b ih1 ih2=>
  intro u L
  cases u<;>simp only[zHp]<;>(try simp;done)
  rename_i c d
  have h1:=ih1 c L
  have h2:=ih2 d (zHp a c L).1
  simp only[T.size]
  split<;>(try simp only)<;>omega
 |fn a b ih1 ih2=>
  intro u L
  cases u<;>simp only[zHp]<;>(try simp;done)
  rename_i c d
  have h1:=ih1 c L
  have h2:=ih2 d (zHp a c L).1
  simp only[T.size]
  split<;>(try simp only)<;>omega
 |list a ih1=>
  intro u L
  cases u<;>simp only[zHp]<;>(try simp;done)
  rename_i c
  have h1:=ih1 c L
  simp only[T.size];omega
def bdL(L:List BT):List Bd:=L.map fun p=>(p.1,p.2.ty)
theorem zb8(L:List BT):(bdL L).length=L.length:=by simp[bdL]
def idM(L:List BT):List (Int×Int):=(List.range L.length).map fun i=>((L.getD i (0,.dyn)).1,(i:Int))
theorem zcP(L:List BT)(p:BT):idM (L++ [p])=idM L++ [(p.1,(L.length:Int))]:=by
 unfold idM
 rw[YAJ,List.length_singleton,List.range_succ,List.map_append]
 congr 1
 ·refine List.map_congr_left fun i hi=> ?_
  rw[List.mem_range]at hi
  simp[YAF,List.getElem?_append,hi]
 ·simp
theorem zcb(Z W:List (Int×Int))(n:Int):mget (Z++W) n=(mget Z n).or (mget W n):=by
 induction Z with
 |nil=>simp[mget]
 |cons p Z ih=>
  obtain⟨k,w⟩:=p
  simp only[List.cons_append,mget]
  split
  ·rfl
  ·exact ih
theorem zcn{α:Type}{p:List α->Prop}(h0:p [])(h1:∀l x,p l->p (l++ [x])):∀l,p l:=by
 intro l
 rw[<-List.reverse_reverse l]
 induction l.reverse with
 |nil=>exact h0
 |cons x l ih=>rw[List.reverse_cons];exact h1 _ _ ih
theorem zcQ(L:List BT)(n:Int):match zNg L n with
 |none=>mget (idM L) n=none
 |some v=>∃i:Nat,mget (idM L) n=some (i:Int)/\i<L.length/\(L.getD i (0,.dyn)).2=v:=by
 revert L
 refine zcn rfl fun L p ih=> ?_
 ·rw[zNh,zcP,zcb]
  cases h:zNg L n with
  |some v=>
   rw[h]at ih
   obtain⟨i,h1,h2,h3⟩:=ih
   refine⟨i,by rw[h1];rfl,by simp;omega,?_⟩
   simp only[YAF,List.getElem?_append,h2,if_true]at h3⊢
   exact h3
  |none=>
   rw[h]at ih
   simp only at ih
   rw[ih]
   simp only[Option.none_or,zNg,mget]
   by_cases e:p.1=n
   ·simp only[if_pos e]
    exact⟨L.length,rfl,by simp,by simp⟩
   ·simp only[if_neg e]
theorem zcc:∀(Z:List (Int×Int)) (k v:Int),mget Z k=none->mput Z k v=Z++ [(k,v)]:=by
 intro Z k v
 induction Z with
 |nil=>intro _;rfl
 |cons p Z ih=>
  obtain⟨j,w⟩:=p
  intro h
  simp only[mget]at h
  by_cases e:j=k
  ·simp[e]at h
  ·rw[if_neg e]at h
   simp only[mput,if_neg e,ih h];rfl
def mbx(q v mr:Nat)(L:List BT):AObj:= .box [.ms q v L.length,.mp mr]
def mar(v:Nat)(L:List BT):AObj:= .arr v 4 ((bdL L).map embB)
def hpF(F:List AObj)(p q mr v:Nat)(L:List BT):List AObj:=tri F p q mr (mbx q v mr L) (mar v L) (.map (embM (idM L)))
theorem triB{F:List AObj}{p q mr b v v':Nat}{L L':List BT}(h:TriD F p q mr)(hb:∀x∈(hpF F p q mr v L).take b,x.bel b=true):∀x∈(hpF F p q mr v' L').take b,x.bel b=true:=
 zc6 h (fun h=>by simpa only[mbx,yR,yO,yN]using h) (by simp only[mar,yR,zOX]) (zGW _ _) hb
section
variable {p q mr : Nat}
def zAg(p q mr:Nat)(t u:T):Prop:=∀(L:List BT) (v:Nat),L.length+t.size<=1000000->∀F:List AObj,TriD F p q mr->
 zAd Try.prog 40 [.bptr p 0,emb t.ty,emb u.ty] (hpF F p q mr v L) (.bool (zHp t u L).2) (hpF F p q mr (v+((zHp t u L).1.length-L.length)) (zHp t u L).1)
def CF:Cfg:= {C with inpl:=fun d=>d==56}
theorem zb3:zAb Try.prog CF:=C_ok
theorem zb4(t:Nat):CF.ty t=C.ty t:=rfl
theorem zb2(t:Nat):CF.inpl t=(t==56):=rfl
theorem zcM(n:Int)(u:T):zAg p q mr (.var n) u:=by
 intro L v hb F hD
 have hi:=zcQ L n
 have hP:=triP hD
 unfold zAd
 cases hl:zNg L n with
 |some w=>
  rw[hl]at hi
  obtain⟨i,h1,h2,h3⟩:=hi
  have hr:zHp (.var n) u L=(L,decide (w=u)):=by simp only[zHp,hl]
  rw[hr]
  simp only[Nat.sub_self,Nat.add_zero]
  have hg:((bdL L).map embB).getD i .any=embB ((L.getD i (0,.dyn)).1,w.ty):=by
   rw[<-h3];simp[bdL,h2]
  have hs:=zcx w.ty u.ty
  rw[T.zc0]at hs
  have hlen:=zb8 L
  refine eD zb3 Try.func40 Try.results40 fun ok=> ?_
  have h:=YAN
  repeat' (first
   |(with_reducible first|apply bA|apply bB|apply bC|apply bD|apply bE|apply bF)<;>intro h
   |((first|apply bG|apply bH);simp only[yP,yQ,W2,W2B,W3,yH,yI,yJ,yK,yL,yM,zb4,zb2,hpF,mbx,mar,hP,T.ty,zHe,zHx,zPN,zMT,h1,h2,hg,hlen,Option.getD_some,Option.isSome_some,YAK,zGI,zGx,yO,yN,zTh,zTg];first|refine zIf (hs) (.inl rfl) ?_|refine zIj (hs) (.inl rfl) ?_)
   |refine drA zb3 2 0 ?_
   |refine drA zb3 4 0 ?_
   |refine drA zb3 5 0 ?_
   |refine drA zb3 6 0 ?_
   |refine drA zb3 13 0 ?_
   |refine zJ9 ?_ zb3 Try.f40.ntmps rfl (by decide)
   |skip)<;>simp only[h,↓zaL,↓zHC,WY,reduceIte,yA,yB,yC,yD,reduceCtorEq,yE,yF,W1,W1B,WS,W3,yH,yI,yJ,yK,yL,yM,zb4,zb2,hpF,mbx,mar,hP,T.ty,zHe,zHx,zPN,zMT,h1,h2,hg,hlen,Option.getD_some,Option.isSome_some,YAK,zGI,zGx,yO,yN,zTh,zTg,zFY]
 |none=>
  rw[hl]at hi
  simp only at hi
  have hr:zHp (.var n) u L=(L++ [(n,u)],u.stat):=by simp only[zHp,hl]
  rw[hr]
  have hst:=zc3 u.ty
  rw[zdC]at hst
  have hput:mput (idM L) n L.length=idM (L++ [(n,u)]):=by rw[zcc _ _ _ hi,zcP]
  have hlen:=zb8 L
  have hlen2:=zb8 (L++ [(n,u)])
  have r1:(L.length+1<=9223372036854775807)=True:=by simp only[YAb,iff_true];omega
  have r2:((L.length+1)*48<=140737488355328)=True:=by simp only[YAb,iff_true];omega
  have htk:(List.map embB (bdL L)).take L.length=List.map embB (bdL L):=by rw[List.take_of_length_le (by simp[bdL])]
  have happ:List.map embB (bdL L)++ [embB (n,u.ty)]=List.map embB (bdL (L++ [(n,u)])):=by simp[bdL]
  have hll:(L++ [(n,u)]).length-L.length=1:=by simp
  have hll2:(L++ [(n,u)]).length=L.length+1:=by simp
  rw[hll]
  refine eD zb3 Try.func40 Try.results40 fun ok=> ?_
  have h:=YAN
  repeat' (first
   |(with_reducible first|apply bA|apply bB|apply bC|apply bD|apply bE|apply bF)<;>intro h
   |((first|apply bG|apply bH);simp only[yP,yQ,W2,W2B,W3,yH,yI,yJ,yK,yL,yM,zb4,zb2,yG,hpF,mbx,mar,hP,T.ty,zHe,zHx,zPN,zOl,zMT,hi,hput,hlen,hlen2,r1,r2,htk,happ,hll2,Option.getD_none,Option.isSome_none,YAK,zGI,zGx,yO,yN,implies_true,zTh,zTg];first|refine zIf (hst) (.inl rfl) ?_|refine zIj (hst) (.inl rfl) ?_)
   |refine drA zb3 2 0 ?_
   |refine drA zb3 4 0 ?_
   |refine drA zb3 5 0 ?_
   |refine drA zb3 6 0 ?_
   |refine drA zb3 13 0 ?_
   |refine zJ9 ?_ zb3 Try.f40.ntmps rfl (by decide)
   |skip)<;>simp only[h,↓zaL,↓zHC,WY,reduceIte,yA,yB,yC,yD,reduceCtorEq,yE,yF,W1,W1B,WS,W3,yH,yI,yJ,yK,yL,yM,zb4,zb2,yG,hpF,mbx,mar,hP,T.ty,zHe,zHx,zPN,zOl,zMT,hi,hput,hlen,hlen2,r1,r2,htk,happ,hll2,Option.getD_none,Option.isSome_none,YAK,zGI,zGx,yO,yN,implies_true,zTh,zTg,zFY]
  refine⟨fun _=>zGH _ _,fun _=>decide_eq_true hD.hq,?_⟩
  have h:=YAN
  repeat' (first
   |(with_reducible first|apply bA|apply bB|apply bC|apply bD|apply bE|apply bF)<;>intro h
   |((first|apply bG|apply bH);simp only[yP,yQ,W2,W2B,W3,yH,yI,yJ,yK,yL,yM,zb4,zb2,yG,hP,zTh,zTg];first|refine zIf (hst) (.inl rfl) ?_|refine zIj (hst) (.inl rfl) ?_)
   |refine drA zb3 2 0 ?_
   |refine drA zb3 4 0 ?_
   |refine drA zb3 5 0 ?_
   |refine drA zb3 6 0 ?_
   |refine drA zb3 13 0 ?_
   |refine zJ9 ?_ zb3 Try.f40.ntmps rfl (by decide)
   |skip)<;>simp only[h,↓zaL,↓zHC,WY,reduceIte,yA,yB,yC,yD,reduceCtorEq,yE,yF,W1,W1B,WS,W3,yH,yI,yJ,yK,yL,yM,zb4,zb2,yG,hP,zTh,zTg,zFY]
  all_goals rfl
theorem zcC:∀ {t u:T},t.ty.kind≠u.ty.kind->t.ty.kind≠6->∀L,zHp t u L=(L,false):=by
 intro t u h h6 L
 cases t<;>cases u<;>first|rfl|exact absurd rfl h6|exact absurd rfl h|skip
 rename_i k k'
 simp only[zHp,YAY,true_and,decide_eq_false_iff_not]
 rintro rfl;exact h rfl
theorem zcH{t u:T}(h:t.ty.kind≠u.ty.kind)(h6:t.ty.kind≠6):zAg p q mr t u:=by
 intro L v hb F hD
 have hP:=triP hD
 rw[zcC h h6]
 simp only[Nat.sub_self,Nat.add_zero]
 have e1:(t.ty.kind==6)=false:=by rw[YAZ];exact h6
 have e2:(t.ty.kind !=u.ty.kind)=true:=bne_iff_ne.2 h
 unfold zAd
 refine eD zb3 Try.func40 Try.results40 fun ok=> ?_
 have h:=YAN
 repeat' (first
  |(with_reducible first|apply bA|apply bB|apply bC|apply bD|apply bE|apply bF)<;>intro h
  |refine drA zb3 2 0 ?_
  |refine drA zb3 4 0 ?_
  |refine drA zb3 5 0 ?_
  |refine drA zb3 6 0 ?_
  |refine drA zb3 13 0 ?_
  |refine zJ9 ?_ zb3 Try.f40.ntmps rfl (by decide)
  |skip)<;>simp only[h,↓zaL,↓zHC,WY,reduceIte,yA,yB,yC,yD,reduceCtorEq,yE,yF,W1,W1B,WS,W3,yH,yI,yJ,yK,yL,yM,zb4,zb2,hpF,mbx,mar,hP,e1,e2,zGy,zGx,yO,yN,zTh,zTg,zFY]
 all_goals rfl
theorem zcE{k:Int}(h6:(k==6)=false)(L:List BT)(v:Nat){F:List AObj}(hD:TriD F p q mr):zAd Try.prog 40 [.bptr p 0,emb (.mk k 0 []),emb (.mk k 0 [])] (hpF F p q mr v L) (.bool true) (hpF F p q mr v L):=by
 have hP:=triP hD
 unfold zAd
 refine eD zb3 Try.func40 Try.results40 fun ok=> ?_
 have h:=YAN
 repeat' (first
  |(with_reducible first|apply bA|apply bB|apply bC|apply bD|apply bE|apply bF)<;>intro h
  |refine drA zb3 2 0 ?_
  |refine drA zb3 4 0 ?_
  |refine drA zb3 5 0 ?_
  |refine drA zb3 6 0 ?_
  |refine drA zb3 13 0 ?_
  |refine zJ9 ?_ zb3 Try.f40.ntmps rfl (by decide)
  |skip)<;>simp only[h,↓zaL,↓zHC,WY,reduceIte,yA,yB,yC,yD,reduceCtorEq,yE,yF,W1,W1B,WS,W3,yH,yI,yJ,yK,yL,yM,zb4,zb2,hpF,mbx,mar,hP,h6,YAO,zGy,zGx,yO,yN,zTh,zTg,zFY]
 all_goals rfl
theorem zcJ{k:Int}(h6:(k==6)=false){x y:Ty}{L L':List BT}{v v':Nat}{b:Bool}{F:List AObj}(hD:TriD F p q mr)
 (i1:∀F:List AObj,TriD F p q mr->zAd Try.prog 40 [.bptr p 0,emb x,emb y] (hpF F p q mr v L) (.bool b) (hpF F p q mr v' L')):
 zAd Try.prog 40 [.bptr p 0,emb (.mk k 0 [x]),emb (.mk k 0 [y])] (hpF F p q mr v L) (.bool b) (hpF F p q mr v' L'):=by
 have hP:=triP hD
 unfold zAd
 cases b
 ·refine eD zb3 Try.func40 Try.results40 fun ok=> ?_
  have h:=YAN
  repeat' (first
   |(with_reducible first|apply bA|apply bB|apply bC|apply bD|apply bE|apply bF)<;>intro h
   |((first|apply bG|apply bH);simp only[yP,yQ,W2,W2B,W3,yH,yI,yJ,yK,yL,yM,zb4,zb2,hpF,mbx,mar,hP,h6,YAO,zGy,zGx,yO,yN,zTh,zTg];refine zIl rfl trivial (i1 _ (by first|exact hD|exact hD.app _)) (.inl rfl) (fun hb=>triB (by first|exact hD|exact hD.app _) hb) ?_)
   |refine drA zb3 2 0 ?_
   |refine drA zb3 4 0 ?_
   |refine drA zb3 5 0 ?_
   |refine drA zb3 6 0 ?_
   |refine drA zb3 13 0 ?_
   |refine zJ9 ?_ zb3 Try.f40.ntmps rfl (by decide)
   |skip)<;>simp only[h,↓zaL,↓zHC,WY,reduceIte,yA,yB,yC,yD,reduceCtorEq,yE,yF,W1,W1B,WS,W3,yH,yI,yJ,yK,yL,yM,zb4,zb2,hpF,mbx,mar,hP,h6,YAO,zGy,zGx,yO,yN,zTh,zTg,zFY]
  all_goals rfl
 ·refine eD zb3 Try.func40 Try.results40 fun ok=> ?_
  have h:=YAN
  repeat' (first
   |(with_reducible first|apply bA|apply bB|apply bC|apply bD|apply bE|apply bF)<;>intro h
   |((first|apply bG|apply bH);simp only[yP,yQ,W2,W2B,W3,yH,yI,yJ,yK,yL,yM,zb4,zb2,hpF,mbx,mar,hP,h6,YAO,zGy,zGx,yO,yN,zTh,zTg];refine zIl rfl trivial (i1 _ (by first|exact hD|exact hD.app _)) (.inl rfl) (fun hb=>triB (by first|exact hD|exact hD.app _) hb) ?_)
   |refine drA zb3 2 0 ?_
   |refine drA zb3 4 0 ?_
   |refine drA zb3 5 0 ?_
   |refine drA zb3 6 0 ?_
   |refine drA zb3 13 0 ?_
   |refine zJ9 ?_ zb3 Try.f40.ntmps rfl (by decide)
   |skip)<;>simp only[h,↓zaL,↓zHC,WY,reduceIte,yA,yB,yC,yD,reduceCtorEq,yE,yF,W1,W1B,WS,W3,yH,yI,yJ,yK,yL,yM,zb4,zb2,hpF,mbx,mar,hP,h6,YAO,zGy,zGx,yO,yN,zTh,zTg,zFY]
  all_goals rfl
theorem zcK{k:Int}(h6:(k==6)=false){x y x' y':Ty}{L L' L2:List BT}{v v' v2:Nat}{b:Bool}{F:List AObj}(hD:TriD F p q mr)
 (i1:∀F:List AObj,TriD F p q mr->zAd Try.prog 40 [.bptr p 0,emb x,emb x'] (hpF F p q mr v L) (.bool true) (hpF F p q mr v' L'))
 (i2:∀F:List AObj,TriD F p q mr->zAd Try.prog 40 [.bptr p 0,emb y,emb y'] (hpF F p q mr v' L') (.bool b) (hpF F p q mr v2 L2)):
 zAd Try.prog 40 [.bptr p 0,emb (.mk k 0 [x,y]),emb (.mk k 0 [x',y'])] (hpF F p q mr v L) (.bool b) (hpF F p q mr v2 L2):=by
 have hP:=triP hD
 unfold zAd
 cases b
 ·refine eD zb3 Try.func40 Try.results40 fun ok=> ?_
  have h:=YAN
  repeat' (first
   |(with_reducible first|apply bA|apply bB|apply bC|apply bD|apply bE|apply bF)<;>intro h
   |((first|apply bG|apply bH);simp only[yP,yQ,W2,W2B,W3,yH,yI,yJ,yK,yL,yM,zb4,zb2,hpF,mbx,mar,hP,h6,YAO,zGy,zGx,yO,yN,zTh,zTg];first|refine zIl rfl trivial (i1 _ (by first|exact hD|exact hD.app _)) (.inl rfl) (fun hb=>triB (by first|exact hD|exact hD.app _) hb) ?_|refine zIl rfl trivial (i2 _ (by first|exact hD|exact hD.app _)) (.inl rfl) (fun hb=>triB (by first|exact hD|exact hD.app _) hb) ?_)
   |refine drA zb3 2 0 ?_
   |refine drA zb3 4 0 ?_
   |refine drA zb3 5 0 ?_
   |refine drA zb3 6 0 ?_
   |refine drA zb3 13 0 ?_
   |refine zJ9 ?_ zb3 Try.f40.ntmps rfl (by decide)
   |skip)<;>simp only[h,↓zaL,↓zHC,WY,reduceIte,yA,yB,yC,yD,reduceCtorEq,yE,yF,W1,W1B,WS,W3,yH,yI,yJ,yK,yL,yM,zb4,zb2,hpF,mbx,mar,hP,h6,YAO,zGy,zGx,yO,yN,zTh,zTg,zFY]
  all_goals rfl
 ·refine eD zb3 Try.func40 Try.results40 fun ok=> ?_
  have h:=YAN
  repeat' (first
   |(with_reducible first|apply bA|apply bB|apply bC|apply bD|apply bE|apply bF)<;>intro h
   |((first|apply bG|apply bH);simp only[yP,yQ,W2,W2B,W3,yH,yI,yJ,yK,yL,yM,zb4,zb2,hpF,mbx,mar,hP,h6,YAO,zGy,zGx,yO,yN,zTh,zTg];first|refine zIl rfl trivial (i1 _ (by first|exact hD|exact hD.app _)) (.inl rfl) (fun hb=>triB (by first|exact hD|exact hD.app _) hb) ?_|refine zIl rfl trivial (i2 _ (by first|exact hD|exact hD.app _)) (.inl rfl) (fun hb=>triB (by first|exact hD|exact hD.app _) hb) ?_)
   |refine drA zb3 2 0 ?_
   |refine drA zb3 4 0 ?_
   |refine drA zb3 5 0 ?_
   |refine drA zb3 6 0 ?_
   |refine drA zb3 13 0 ?_
   |refine zJ9 ?_ zb3 Try.f40.ntmps rfl (by decide)
   |skip)<;>simp only[h,↓zaL,↓zHC,WY,reduceIte,yA,yB,yC,yD,reduceCtorEq,yE,yF,W1,W1B,WS,W3,yH,yI,yJ,yK,yL,yM,zb4,zb2,hpF,mbx,mar,hP,h6,YAO,zGy,zGx,yO,yN,zTh,zTg,zFY]
  all_goals rfl
theorem zcL{k:Int}(h6:(k==6)=false){x y x' y':Ty}{L L':List BT}{v v':Nat}{F:List AObj}(hD:TriD F p q mr)
 (i1:∀F:List AObj,TriD F p q mr->zAd Try.prog 40 [.bptr p 0,emb x,emb x'] (hpF F p q mr v L) (.bool false) (hpF F p q mr v' L')):
 zAd Try.prog 40 [.bptr p 0,emb (.mk k 0 [x,y]),emb (.mk k 0 [x',y'])] (hpF F p q mr v L) (.bool false) (hpF F p q mr v' L'):=by
 have hP:=triP hD
 unfold zAd
 refine eD zb3 Try.func40 Try.results40 fun ok=> ?_
 have h:=YAN
 repeat' (first
  |(with_reducible first|apply bA|apply bB|apply bC|apply bD|apply bE|apply bF)<;>intro h
  |((first|apply bG|apply bH);simp only[yP,yQ,W2,W2B,W3,yH,yI,yJ,yK,yL,yM,zb4,zb2,hpF,mbx,mar,hP,h6,YAO,zGy,zGx,yO,yN,zTh,zTg];refine zIl rfl trivial (i1 _ (by first|exact hD|exact hD.app _)) (.inl rfl) (fun hb=>triB (by first|exact hD|exact hD.app _) hb) ?_)
  |refine drA zb3 2 0 ?_
  |refine drA zb3 4 0 ?_
  |refine drA zb3 5 0 ?_
  |refine drA zb3 6 0 ?_
  |refine drA zb3 13 0 ?_
  |refine zJ9 ?_ zb3 Try.f40.ntmps rfl (by decide)
  |skip)<;>simp only[h,↓zaL,↓zHC,WY,reduceIte,yA,yB,yC,yD,reduceCtorEq,yE,yF,W1,W1B,WS,W3,yH,yI,yJ,yK,yL,yM,zb4,zb2,hpF,mbx,mar,hP,h6,YAO,zGy,zGx,yO,yN,zTh,zTg,zFY]
 all_goals rfl
end
end Go.Proofs.Ytmpegnogdgbleaa
