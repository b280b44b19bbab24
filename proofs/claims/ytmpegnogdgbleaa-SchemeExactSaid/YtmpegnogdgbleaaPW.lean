/- Walks: rows of types of any length. No condition. -/
import Derived.Test.YtmpegnogdgbleaaPFa
import Derived.Test.YtmpegnogdgbleaaPHa
set_option linter.unusedSimpArgs false
set_option linter.unusedVariables false
set_option maxHeartbeats 4000000
set_option maxRecDepth 100000
namespace Go.Proofs.Ytmpegnogdgbleaa
open Go Go.Ab
open Nat renaming reduceEqDiff -> yA, reduceAdd -> yB, reduceLT -> yC, reduceLeDiff -> yD, reduceMul -> yE, reducePow -> yF
open AV renaming belL -> yO, bel -> yN, normL -> yQ, norm -> yP
open AObj renaming bel -> yR
attribute [local irreducible] zA0 zAA zAa zAi zAj GoIf GoGb zAk GoO GoD GoX GoDX GoG GoDG GoGv zAl Go zAB
mutual
def cntW:Ty->Int->Int
 | .mk _ _ l,n=>zFB l (IntKind.wrap .i64 (n+1))
def zFB:List Ty->Int->Int
 | [],n=>n
 |x::l,n=>if n<=600 then zFB l (cntW x n)else n
end
theorem zFD(t:Ty)(n:Int):cntW t n=zFB t.kids (IntKind.wrap .i64 (n+1)):=by cases t;rfl
theorem zFC{l:List Ty}{n:Int}(h:¬n<=600):zFB l n=n:=by cases l<;>simp[zFB,h]
theorem zFP(t:Ty)(ih:∀x∈t.kids,∀n:Int,zA0 Try.prog 53 [emb x,.int .i64 n] (.int .i64 (cntW x n)))(n:Int):zA0 Try.prog 53 [emb t,.int .i64 n] (.int .i64 (cntW t n)):=by
 refine eP C_ok Try.func53 Try.results53 fun ok H=> ?_
 have h:=YAN
 repeat' (first
  |(with_reducible first|apply bA|apply bB|apply bC|apply bD|apply bE|apply bF)<;>intro h
  |skip)<;>simp only[h,↓zaL,↓zHC,WZ,reduceIte,yA,yB,yC,yD,reduceCtorEq,yE,yF,W1]
 have hmax:t.kids.length<=maxLen:=(zG5 ok.1).1
 refine aloop_trim [1,5,2] ?_
 simp only[List.map_cons,List.map_nil,↓zaL,↓zHC,WZ,reduceIte,yA,yB,yC,yD,reduceCtorEq,yE,yF,W1]
 refine zJ3 2 (fun x:Nat×Int=> [(1,.int .i64 x.2),(5,.int .i64 x.1)]) (fun _=>_) (fun x=>x.1<=t.kids.length/\zFB (t.kids.drop x.1) x.2=cntW t n) (fun x=>t.kids.length-x.1) C_ok (0,IntKind.wrap .i64 (n+1)) rfl rfl ⟨YAX _,(zFD t n).symm⟩ (by decide) ?_
 rintro⟨i,m⟩ ⟨hi,hr⟩
 simp only at hi hr
 simp only[List.drop_succ_cons,List.drop_zero,List.cons_append,List.nil_append]
 simp only[↓zaL,↓zHC,WZ,reduceIte,yA,yB,yC,yD,reduceCtorEq,yE,yF,W1]
 refine zJk (fun hlt=> ?_) (fun hlt=> ?_)
 ·simp only[hlt,↓zaL,↓zHC,WZ,reduceIte,yA,yB,yC,yD,reduceCtorEq,yE,yF,W1]
  refine zJv (fun h6=> ?_) (fun h6=> ?_)
  ·have h:=YAN
   repeat' (first
    |(with_reducible first|apply bA|apply bB|apply bC|apply bD|apply bE|apply bF)<;>intro h
    |((first|apply bG|apply bH);simp only[yP,yQ,W2,hlt,zOr hlt];first|refine zIf (ih _ (zMb hlt) m) (.inl rfl) ?_|refine zIj (ih _ (zMb hlt) m) (.inl rfl) ?_)
    |skip)<;>simp only[h,↓zaL,↓zHC,WZ,reduceIte,yA,yB,yC,yD,reduceCtorEq,yE,yF,W1,hlt,zOr hlt]
   refine⟨(i+1,cntW (t.kid i) m),⟨hlt,?_⟩,by simp only;omega,zas rfl rfl rfl rfl ?_ ?_ ?_⟩
   ·rw[<-hr,zFz hlt,zFB,if_pos h6]
   all_goals simp only[WK,↓zaL,↓zHC,yA,reduceIte,yN,yO,yR,yP,yQ,yB,yC,zbX hlt hmax,zOq,yO,YAK]
  ·simp only[hlt,↓zaL,↓zHC,WZ,reduceIte,yA,yB,yC,yD,reduceCtorEq,yE,yF,W1]
   rw[<-hr,zFC h6]
 ·simp only[hlt,↓zaL,↓zHC,WZ,reduceIte,yA,yB,yC,yD,reduceCtorEq,yE,yF,W1]
  rw[<-hr,List.drop_of_length_le (by omega)];rfl
theorem zFO:∀(t:Ty) (n:Int),zA0 Try.prog 53 [emb t,.int .i64 n] (.int .i64 (cntW t n)):=
 Ty.ind (p:=fun t=>∀n:Int,zA0 Try.prog 53 [emb t,.int .i64 n] (.int .i64 (cntW t n))) fun t ih=>zFP t ih
def zFA:List Ty->Int->Int
 | [],n=>n
 |x::l,n=>zFA l (cntW x n)
def zLL(l:List Ty):Bool:=decide (zFA l 0>600)
theorem zLM(l:List Ty):zA0 Try.prog 34 [.sl (l.map emb) .no] (.bool (zLL l)):=by
 refine eP C_ok Try.func34 Try.results34 fun ok H=> ?_
 have hmax:l.length<=maxLen:=by
  have:=ok.1;simp only[AV.okay,YAK]at this;exact this.1
 have h:=YAN
 repeat' (first
  |(with_reducible first|apply bA|apply bB|apply bC|apply bD|apply bE|apply bF)<;>intro h
  |skip)<;>simp only[h,↓zaL,↓zHC,WZ,reduceIte,yA,yB,yC,yD,reduceCtorEq,yE,yF,W1]
 refine aloop_trim [3,4,0] ?_
 simp only[List.map_cons,List.map_nil,↓zaL,↓zHC,WZ,reduceIte,yA,yB,yC,yD,reduceCtorEq,yE,yF,W1]
 refine zJ3 2 (fun x:Nat×Int=> [(3,.int .i64 x.2),(4,.int .i64 x.1)]) (fun _=>_) (fun x=>x.1<=l.length/\zFA (l.drop x.1) x.2=zFA l 0) (fun x=>l.length-x.1) C_ok (0,0) rfl rfl ⟨YAX _,rfl⟩ (by decide) ?_
 rintro⟨i,m⟩ ⟨hi,hr⟩
 simp only at hi hr
 simp only[List.drop_succ_cons,List.drop_zero,List.cons_append,List.nil_append]
 simp only[↓zaL,↓zHC,WZ,reduceIte,yA,yB,yC,yD,reduceCtorEq,yE,yF,W1]
 refine zJv (fun hlt=> ?_) (fun hlt=> ?_)
 ·have hget:(l.map emb).getD i .any=emb (l.getD i default):=by simp[hlt]
  have h:=YAN
  repeat' (first
   |(with_reducible first|apply bA|apply bB|apply bC|apply bD|apply bE|apply bF)<;>intro h
   |((first|apply bG|apply bH);simp only[yP,yQ,W2,hlt,hget];first|refine zIf (zFO _ m) (.inl rfl) ?_|refine zIj (zFO _ m) (.inl rfl) ?_)
   |skip)<;>simp only[h,↓zaL,↓zHC,WZ,reduceIte,yA,yB,yC,yD,reduceCtorEq,yE,yF,W1,hlt,hget]
  refine⟨(i+1,cntW (l.getD i default) m),⟨hlt,?_⟩,by simp only;omega,zat rfl rfl rfl rfl ?_⟩
  ·rw[<-hr,List.drop_eq_getElem_cons hlt,zFA];simp[hlt]
  all_goals simp only[WK,↓zaL,↓zHC,yA,reduceIte,yN,yO,yR,yP,yQ,yB,yC,zbX hlt hmax,zOq,yO,YAK]
 ·simp only[↓zaL,↓zHC,WZ,reduceIte,yA,yB,yC,yD,reduceCtorEq,yE,yF,W1]
  rw[List.drop_of_length_le (by omega)]at hr
  simp only[zFA]at hr
  rw[zLL,<-hr]
def zHk(l:List Ty):Bool:= !zLL l&&zTu l
theorem zWQ(l:List Ty):zA0 Try.prog 9 [.sl (l.map emb) .no] (.bool (small l)):=by
 refine eP C_ok Try.func9 Try.results9 fun ok H=> ?_
 have hmax:l.length<=maxLen:=by
  have:=ok.1;simp only[AV.okay,YAK]at this;exact this.1
 have h:=YAN
 repeat' (first
  |(with_reducible first|apply bA|apply bB|apply bC|apply bD|apply bE|apply bF)<;>intro h
  |skip)<;>simp only[h,↓zaL,↓zHC,WZ,reduceIte,yA,yB,yC,yD,reduceCtorEq,yE,yF,W1]
 have hfalse:∀i,i<l.length->zWJ (l.getD i default)=false->small l=false:=fun i h1 h2=>by rw[small,zB4 (g:=fun i=>zWJ (l.getD i default)) h1 h2]
 have htrue:(∀i,i<l.length->zWJ (l.getD i default)=true)->small l=true:=fun h=>by rw[small,zB7 h]
 have c1:∀t,heavy [t]=false->zA0 Try.prog 29 [emb t] (.sl ((zaa t).map I64) .no):=fun t h=>zTI t (Nat.le_trans (zLO h) (by decide))
 have c2:∀t,zA0 Try.prog 35 [emb t,.int .i64 60] (.bool (zFd 60 t)):=fun t=>zFf 60 t (by decide)
 refine aloop_trim [3,0] ?_
 simp only[List.map_cons,List.map_nil,↓zaL,↓zHC,WZ,reduceIte,yA,yB,yC,yD,reduceCtorEq,yE,yF,W1]
 refine zJ3 1 (fun i:Nat=> [(3,.int .i64 i)]) (fun _=>_) (fun i=>i<=l.length/\∀j,j<i->(fun j=>zWJ (l.getD j default)) j=true) (fun i=>l.length-i) C_ok 0 rfl rfl ⟨YAX _,by simp⟩ (by decide) ?_
 rintro i ⟨hi,hall⟩
 simp only[List.drop_succ_cons,List.drop_zero,List.cons_append,List.nil_append]
 simp only[↓zaL,↓zHC,WZ,reduceIte,yA,yB,yC,yD,reduceCtorEq,yE,yF,W1]
 refine zJv (fun hlt=> ?_) (fun hlt=> ?_)
 ·have h:=YAN
  repeat' (first
   |(with_reducible first|apply bA|apply bB|apply bC|apply bD|apply bE|apply bF)<;>intro h
   |((first|apply bG|apply bH);simp only[yP,yQ,W2,hlt,zOo hlt,YAK];first|refine zIf (zLH _) (.inl rfl) ?_|refine zIf (c1 _ (by assumption)) (.inl rfl) ?_|refine zIf (c2 _) (.inl rfl) ?_|refine zIj (zLH _) (.inl rfl) ?_|refine zIj (c1 _ (by assumption)) (.inl rfl) ?_|refine zIj (c2 _) (.inl rfl) ?_)
   |skip)<;>simp only[h,↓zaL,↓zHC,WZ,reduceIte,yA,yB,yC,yD,reduceCtorEq,yE,yF,W1,hlt,zOo hlt,YAK]
  all_goals first
   |exact(hfalse i hlt (by first|assumption|(simp[*];done)|exact zWL (by assumption)|exact zWM (by assumption)|exact zWN (by assumption)|exact zWO (by assumption) (by assumption) (by assumption))).symm
   | (refine⟨i+1,⟨by omega,fun j hj=> ?_⟩,by omega,zas rfl rfl rfl rfl ?_ ?_ ?_⟩
      ·rcases Nat.lt_succ_iff_lt_or_eq.1 hj with hj|rfl
       ·exact hall j hj
       ·first|assumption|(simp[*];done)|exact zWL (by assumption)|exact zWM (by assumption)|exact zWN (by assumption)|exact zWO (by assumption) (by assumption) (by assumption)
      all_goals simp only[WK,↓zaL,↓zHC,yA,reduceIte,yN,yO,yR,yP,yQ,yB,yC,zbX hlt hmax,zOq,yO,YAK])
 ·simp only[↓zaL,↓zHC,WZ,reduceIte,yA,yB,yC,yD,reduceCtorEq,yE,yF,W1]
  exact(htrue fun j hj=>hall j (by omega)).symm
end Go.Proofs.Ytmpegnogdgbleaa
