/- Lemmas: matching. No condition. -/
import Derived.Test.YtmpegnogdgbleaaE4
set_option linter.unusedSimpArgs false
set_option linter.unusedVariables false
set_option maxHeartbeats 4000000
set_option maxRecDepth 100000
namespace Go.Proofs.Ytmpegnogdgbleaa
open Go Go.Ab
open Nat renaming reduceEqDiff -> yA, reduceAdd -> yB, reduceLT -> yC, reduceLeDiff -> yD, reduceMul -> yE, reducePow -> yF
open AV renaming belL -> yO, bel -> yN, normL -> yQ, norm -> yP
attribute [local irreducible] zA0 zAA zAa zAi zAj GoIf GoGb zAk GoO GoD GoX GoDX GoG GoDG GoGv zAl Go zAB
section
theorem zcD{p q mr:Nat}:∀t u:T,zAg p q mr t u:=by
 intro t
 induction t with
 |base k=>
  intro u
  by_cases h:(T.base k).ty.kind=u.ty.kind
  ·have hu:u= .base k:=by
    cases u with
    |base k'=>simp only[T.ty,Ty.zMj]at h;congr 1;exact(Fin.ext (by omega)).symm
    |_=>exact absurd h (by have:=zDD k;simp only[T.ty,Ty.zMj];omega)
   subst hu
   intro L v hb F hD
   have hr:zHp (.base k) (.base k) L=(L,true):=by simp[zHp]
   rw[hr]
   simp only[Nat.sub_self,Nat.add_zero]
   exact zcE (by rw[YAZ];have:=zDD k;omega) L v hD
  ·exact zcH h (by have:=zDD k;simp only[T.ty,Ty.zMj];omega)
 |dyn=>
  intro u
  by_cases h:T.dyn.ty.kind=u.ty.kind
  ·have hu:u= .dyn:=by
    cases u with
    |dyn=>rfl
    |base k'=>exact absurd h (by have:=zDD k';simp only[T.ty,Ty.zMj];omega)
    |_=>exact absurd h (by simp only[T.ty,Ty.zMj];omega)
   subst hu
   intro L v hb F hD
   have hr:zHp .dyn .dyn L=(L,true):=rfl
   rw[hr]
   simp only[Nat.sub_self,Nat.add_zero]
   exact zcE rfl L v hD
  ·exact zcH h (by simp only[T.ty,Ty.zMj];omega)
 |var n=>exact fun u=>zcM n u
 |pair a b ih1 ih2=>
  intro u
  by_cases h:(T.pair a b).ty.kind=u.ty.kind
  ·obtain⟨c,d,rfl⟩:∃c d,u= .pair c d:=by
    cases u with
    |pair c d=>exact⟨c,d,rfl⟩
    |base k'=>exact absurd h (by have:=zDD k';simp only[T.ty,Ty.zMj];omega)
    |_=>exact absurd h (by simp only[T.ty,Ty.zMj];omega)
   intro L v hb F hD
   simp only[T.size]at hb
   have l1:=zcF a c L
   have l2:=zcF b d (zHp a c L).1
   have i1:=fun F hD=>ih1 c L v (by omega) F hD
   simp only[zHp]
   by_cases hok:(zHp a c L).2=true
   ·rw[hok]at i1
    rw[if_pos hok]
    have i2:=fun F hD=>ih2 d (zHp a c L).1 (v+((zHp a c L).1.length-L.length)) (by omega) F hD
    have:=zcK (k:=7) rfl hD i1 i2
    rw[show v+((zHp a c L).1.length-L.length)+((zHp b d (zHp a c L).1).1.length-(zHp a c L).1.length)=v+((zHp b d (zHp a c L).1).1.length-L.length)by omega]at this
    exact this
   ·have hok':(zHp a c L).2=false:=by simpa using hok
    rw[hok']at i1
    rw[if_neg hok]
    exact zcL (k:=7) rfl hD i1
  ·exact zcH h (by simp only[T.ty,Ty.zMj];omega)
 |fn a b ih1 ih2=>
  intro u
  by_cases h:(T.fn a b).ty.kind=u.ty.kind
  ·obtain⟨c,d,rfl⟩:∃c d,u= .fn c d:=by
    cases u with
    |fn c d=>exact⟨c,d,rfl⟩
    |base k'=>exact absurd h (by have:=zDD k';simp only[T.ty,Ty.zMj];omega)
    |_=>exact absurd h (by simp only[T.ty,Ty.zMj];omega)
   intro L v hb F hD
   simp only[T.size]at hb
   have l1:=zcF a c L
   have l2:=zcF b d (zHp a c L).1
   have i1:=fun F hD=>ih1 c L v (by omega) F hD
   simp only[zHp]
   by_cases hok:(zHp a c L).2=true
   ·rw[hok]at i1
    rw[if_pos hok]
    have i2:=fun F hD=>ih2 d (zHp a c L).1 (v+((zHp a c L).1.length-L.length)) (by omega) F hD
    have:=zcK (k:=9) rfl hD i1 i2
    rw[show v+((zHp a c L).1.length-L.length)+((zHp b d (zHp a c L).1).1.length-(zHp a c L).1.length)=v+((zHp b d (zHp a c L).1).1.length-L.length)by omega]at this
    exact this
   ·have hok':(zHp a c L).2=false:=by simpa using hok
    rw[hok']at i1
    rw[if_neg hok]
    exact zcL (k:=9) rfl hD i1
  ·exact zcH h (by simp only[T.ty,Ty.zMj];omega)
 |list a ih1=>
  intro u
  by_cases h:(T.list a).ty.kind=u.ty.kind
  ·obtain⟨c,rfl⟩:∃c,u= .list c:=by
    cases u with
    |list c=>exact⟨c,rfl⟩
    |base k'=>exact absurd h (by have:=zDD k';simp only[T.ty,Ty.zMj];omega)
    |_=>exact absurd h (by simp only[T.ty,Ty.zMj];omega)
   intro L v hb F hD
   simp only[T.size]at hb
   have i1:=fun F hD=>ih1 c L v (by omega) F hD
   simp only[zHp]
   exact zcJ (k:=8) rfl hD i1
  ·exact zcH h (by simp only[T.ty,Ty.zMj];omega)
noncomputable def zO7(t u:Ty):AV:=if right t=true/\right u=true then(match zO6 (tOf t) (tOf u) []with
 |some L=> .tup [.sl ((bdL L).map embB) .no,.bool true]
 |none=> .tup [.sl [] .no,.bool false])else .tup [.sl [] .no,.bool false]
theorem zcV(t u:Ty):(zO7 t u).bel 0=true:=by
 unfold zO7
 split
 ·split
  ·simp[yN,yO,zOX]
  ·rfl
 ·rfl
theorem zcW{t u:Ty}(h:¬(right t=true/\right u=true)):∀F:List AObj,zAd Try.prog 15 [emb t,emb u] F (.tup [.sl [] .no,.bool false]) F:=by
 intro F
 unfold zAd
 have q1:=zEj t
 have q2:=zEj u
 have hb:((1:Int) !=0)=true:=by decide
 by_cases h1:right t=true
 ·have h2:¬right u=true:=fun h2=>h ⟨h1,h2⟩
  rw[if_pos h1]at q1
  rw[if_neg h2]at q2
  refine eD C_ok Try.func15 Try.results15 fun ok=> ?_
  have h:=YAN
  repeat' (first
   |(with_reducible first|apply bA|apply bB|apply bC|apply bD|apply bE|apply bF)<;>intro h
   |((first|apply bG|apply bH);simp only[yP,yQ,W2,W2B,hb,YAO,yO,yN,zTh,zTg];first|refine zIf (q1) (.inl rfl) ?_|refine zIf (q2) (.inl rfl) ?_|refine zIj (q1) (.inl rfl) ?_|refine zIj (q2) (.inl rfl) ?_)
   |skip)<;>simp only[h,↓zaL,↓zHC,WY,reduceIte,yA,yB,yC,yD,reduceCtorEq,yE,yF,W1,W1B,WS,hb,YAO,yO,yN,zTh,zTg]
  all_goals first|exact⟨rfl,List.take_left' rfl⟩|exact List.take_left' rfl
 ·rw[if_neg h1]at q1
  refine eD C_ok Try.func15 Try.results15 fun ok=> ?_
  have h:=YAN
  repeat' (first
   |(with_reducible first|apply bA|apply bB|apply bC|apply bD|apply bE|apply bF)<;>intro h
   |((first|apply bG|apply bH);simp only[yP,yQ,W2,W2B,hb,yO,yN,zTh,zTg];first|refine zIf (q1) (.inl rfl) ?_|refine zIf (q2) (.inl rfl) ?_|refine zIj (q1) (.inl rfl) ?_|refine zIj (q2) (.inl rfl) ?_)
   |skip)<;>simp only[h,↓zaL,↓zHC,WY,reduceIte,yA,yB,yC,yD,reduceCtorEq,yE,yF,W1,W1B,WS,hb,yO,yN,zTh,zTg]
  all_goals first|exact⟨rfl,List.take_left' rfl⟩|exact List.take_left' rfl
def mtJ(F:List AObj)(t u:Ty)(v:Nat)(L:List BT):List AObj:=F++ [.box [.int .i64 t.kind,.int .i64 t.num,.sl (t.kids.map emb) .no],.box [.int .i64 u.kind,.int .i64 u.num,.sl (u.kids.map emb) .no],.map (embM (idM L)),.box [.ms (F.length+4) v L.length,.mp (F.length+2)],.arr v 4 ((bdL L).map embB)]
theorem zce(F:List AObj)(t u:Ty)(v v':Nat)(L L':List BT):hpF (mtJ F t u v L) (F.length+3) (F.length+4) (F.length+2) v' L'=mtJ F t u v' L':=by
 unfold hpF tri stF mtJ mbx mar
 rw[zCY rfl,zCY rfl,zCY rfl]
 rfl
theorem zcd(F:List AObj)(t u:Ty)(v:Nat)(L:List BT):TriD (mtJ F t u v L) (F.length+3) (F.length+4) (F.length+2):=by
 refine⟨?_,?_,?_,by omega,by omega,by omega⟩<;>simp[mtJ]
theorem zcX(F:List AObj)(t u:T)(hs:t.size<=1000000):
 zAA Try.prog 40 [.bptr (F.length+3) 0,emb t.ty,emb u.ty] (F++ [.box [.int .i64 t.ty.kind,.int .i64 t.ty.num,.sl (t.ty.kids.map emb) .no],.box [.int .i64 u.ty.kind,.int .i64 u.ty.num,.sl (u.ty.kids.map emb) .no],.map [],.box [.sl [] .full,.mp (F.length+2)]])
  fun x G=>x= .bool (zHp t u []).2/\G=mtJ F t.ty u.ty (0+((zHp t u []).1.length-0)) (zHp t u []).1:=by
 have h:=zcD t u [] 0 (by simpa using hs) (mtJ F t.ty u.ty 0 []) (zcd F t.ty u.ty 0 [])
 rw[zce,zce]at h
 refine zb6 (p:=F.length+3) (off:=0) (size:=4) (cs:=[.sl [] .full,.mp (F.length+2)]) (zCU rfl) rfl ?_
 rw[zCY rfl,List.append_assoc]
 simp only[YAJ,List.length_cons,List.length_nil]
 exact h
theorem zcY{t u:T}(ht:t.ok=true)(hu:u.ok=true)(hs:t.size<=1000000)(hm:(zHp t u []).2=false):∀F:List AObj,zAd Try.prog 15 [emb t.ty,emb u.ty] F (.tup [.sl [] .no,.bool false]) F:=by
 intro F
 unfold zAd
 have q1:=zEj t.ty
 have q2:=zEj u.ty
 rw[if_pos (by rw[T.zT5];exact ht)]at q1
 rw[if_pos (by rw[T.zT5];exact hu)]at q2
 have qf:=zcX F t u hs
 rw[hm]at qf
 generalize (zHp t u []).1=L at*
 refine eD C_ok Try.func15 Try.results15 fun ok=> ?_
 have h:=YAN
 repeat' (first
  |(with_reducible first|apply bA|apply bB|apply bC|apply bD|apply bE|apply bF)<;>intro h
  |((first|apply bG|apply bH);simp only[yP,yQ,W2,W2B,YAO,yO,yN,zTh,zTg];first|refine zIf (q1) (.inl rfl) ?_|refine zIf (q2) (.inl rfl) ?_|refine zIj (q1) (.inl rfl) ?_|refine zIj (q2) (.inl rfl) ?_)
  |skip)<;>simp only[h,↓zaL,↓zHC,WY,reduceIte,yA,yB,yC,yD,reduceCtorEq,yE,yF,W1,W1B,WS,YAO,yO,yN,zTh,zTg]
 refine fsCall qf (.inl rfl) fun x G hG hlen=> ?_
 obtain⟨rfl,rfl⟩:=hG
 refine⟨fun hbel=> ?_,?_⟩
 ·rw[List.take_left' rfl]at hbel
  rw[mtJ,List.take_left' rfl];exact hbel
 ·simp only[mtJ]
  have h:=YAN
  repeat' (first
   |(with_reducible first|apply bA|apply bB|apply bC|apply bD|apply bE|apply bF)<;>intro h
   |skip)<;>simp only[h,↓zaL,↓zHC,WY,reduceIte,yA,yB,yC,yD,reduceCtorEq,yE,yF,W1,W1B,WS,yO,yN,zTh,zTg]
  all_goals first|exact⟨rfl,List.take_left' rfl⟩|exact List.take_left' rfl
theorem zca{t u:T}(ht:t.ok=true)(hu:u.ok=true)(hs:t.size<=1000000)(hm:(zHp t u []).2=true):∀F:List AObj,zAd Try.prog 15 [emb t.ty,emb u.ty] F (.tup [.sl ((bdL (zHp t u []).1).map embB) .no,.bool true]) F:=by
 intro F
 have q1:=zEj t.ty
 have q2:=zEj u.ty
 rw[if_pos (by rw[T.zT5];exact ht)]at q1
 rw[if_pos (by rw[T.zT5];exact hu)]at q2
 have qf:=zcX F t u hs
 rw[hm]at qf
 generalize (zHp t u []).1=L at*
 refine zcN (q:=F.length+4) (v:=0+(L.length-0)) (size:=4) (es:=(bdL L).map embB) (n:=L.length) (J:=[.box [.int .i64 t.ty.kind,.int .i64 t.ty.num,.sl (t.ty.kids.map emb) .no],.box [.int .i64 u.ty.kind,.int .i64 u.ty.num,.sl (u.ty.kids.map emb) .no],.map (embM (idM L)),.box [.ms (F.length+4) (0+(L.length-0)) L.length,.mp (F.length+2)],.arr (0+(L.length-0)) 4 ((bdL L).map embB)])
  (by omega) (zCU rfl) (zOX _ _) (by simp[bdL]) ?_
 refine eE C_ok Try.func15 Try.results15 fun ok=> ?_
 have h:=YAN
 repeat' (first
  |(with_reducible first|apply bA|apply bB|apply bC|apply bD|apply bE|apply bF)<;>intro h
  |((first|apply bG|apply bH);simp only[yP,yQ,W2,W2B,YAO,yO,yN];first|refine zIf (q1) (.inl rfl) ?_|refine zIf (q2) (.inl rfl) ?_|refine zIj (q1) (.inl rfl) ?_|refine zIj (q2) (.inl rfl) ?_)
  |skip)<;>simp only[h,↓zaL,↓zHC,WY,reduceIte,yA,yB,yC,yD,reduceCtorEq,yE,yF,W1,W1B,WS,YAO,yO,yN]
 refine fsCall qf (.inl rfl) fun x G hG hlen=> ?_
 obtain⟨rfl,rfl⟩:=hG
 refine⟨fun hbel=> ?_,?_⟩
 ·rw[List.take_left' rfl]at hbel
  rw[mtJ,List.take_left' rfl];exact hbel
 ·simp only[mtJ]
  have h:=YAN
  repeat' (first
   |(with_reducible first|apply bA|apply bB|apply bC|apply bD|apply bE|apply bF)<;>intro h
   |skip)<;>simp only[h,↓zaL,↓zHC,WY,reduceIte,yA,yB,yC,yD,reduceCtorEq,yE,yF,W1,W1B,WS,yO,yN]
theorem zcZ(t u:Ty)(hs:nodes t<=1000000):zA0 Try.prog 15 [emb t,emb u] (zO7 t u):=by
 refine zSZ (zcV t u) ?_
 by_cases h:right t=true/\right u=true
 ·obtain⟨t,rfl,ht⟩:=T.zRB h.1
  obtain⟨u,rfl,hu⟩:=T.zRB h.2
  rw[zQb]at hs
  have e:=zcG t u []
  rw[zO7,if_pos h,zX5,zX5,e]
  by_cases hm:(zHp t u []).2=true
  ·simp only[if_pos hm]
   exact zca ht hu hs hm
  ·simp only[if_neg hm]
   exact zcY ht hu hs (by simpa using hm)
 ·rw[zO7,if_neg h]
  exact zcW h
end
end Go.Proofs.Ytmpegnogdgbleaa
