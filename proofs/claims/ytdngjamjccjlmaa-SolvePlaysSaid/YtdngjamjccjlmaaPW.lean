/- Walks: rows of types of any length. No condition. -/
import Derived.Test.YtdngjamjccjlmaaPFa
import Derived.Test.YtdngjamjccjlmaaPHa
set_option linter.unusedSimpArgs false
set_option linter.unusedVariables false
set_option maxHeartbeats 4000000
set_option maxRecDepth 100000
namespace Go.Proofs.Ytdngjamjccjlmaa
open Go Go.Ab
open Nat renaming reduceEqDiff -> yA, reduceAdd -> yB, reduceLT -> yC, reduceLeDiff -> yD, reduceMul -> yE, reducePow -> yF, reduceBEq -> yG
open Int renaming reduceAdd -> yH, reduceLT -> yI, reduceToNat -> yJ, reduceBEq -> yK, reduceBNe -> yL, reduceLE -> yM
attribute [local irreducible] zA0 zAA zAa zAi zAj GoIf GoGb zAk GoO GoD GoX GoDX GoG GoDG GoGv zAl Go zAB
mutual
def cntW:Ty->Int->Int
 | .mk _ _ l,n=>zFB l (IntKind.wrap .i64 (n+1))
def zFB:List Ty->Int->Int
 | [],n=>n
 |x::l,n=>if n<=600 then zFB l (cntW x n)else n
end
def zFA:List Ty->Int->Int
 | [],n=>n
 |x::l,n=>zFA l (cntW x n)
def zLL(l:List Ty):Bool:=decide (zFA l 0>600)
def zHk(l:List Ty):Bool:= !zLL l&&zTu l
theorem zWQ(l:List Ty):zA0 Try.prog 56 [.sl (l.map emb) .no] (.bool (small l)):=by
 refine zSa C_ok Try.func56 rfl (by decide) (YAL rfl) (by decide) rfl fun ok H=> ?_
 rw[Try.results56]
 have hmax:l.length<=maxLen:=by
  have:=ok.1;simp only[AV.okay,YAK]at this;exact this.1
 have h:=YAN
 repeat' (first
  |(with_reducible first|apply bA|apply bB|apply bC|apply bD|apply bE|apply bF)<;>intro h
  |skip)<;>simp only[h,↓zaL,↓zHC,WZ,reduceIte,yA,yB,yC,yD,reduceCtorEq,yE,yF,W1]
 have hfalse:∀i,i<l.length->zWJ (l.getD i default)=false->small l=false:=fun i h1 h2=>by rw[small,zB4 (g:=fun i=>zWJ (l.getD i default)) h1 h2]
 have htrue:(∀i,i<l.length->zWJ (l.getD i default)=true)->small l=true:=fun h=>by rw[small,zB7 h]
 have c1:∀t,heavy [t]=false->zA0 Try.prog 24 [emb t] (.sl ((zaa t).map I64) .no):=fun t h=>zTI t (Nat.le_trans (zLO h) (by decide))
 have c2:∀t,zA0 Try.prog 119 [emb t,.int .i64 60] (.bool (zFd 60 t)):=fun t=>zFf 60 t (by decide)
 refine aloop_trim [3,0] ?_
 simp only[List.map_cons,List.map_nil,↓zaL,↓zHC,WZ,reduceIte,yA,yB,yC,yD,reduceCtorEq,yE,yF,W1]
 refine zJ3 1 (fun i:Nat=> [(3,.int .i64 i)]) (fun _=>_) (fun i=>i<=l.length/\∀j,j<i->(fun j=>zWJ (l.getD j default)) j=true) (fun i=>l.length-i) C_ok 0 rfl rfl ⟨YAX _,by simp⟩ (by decide) ?_
 rintro i ⟨hi,hall⟩
 simp only[List.drop_succ_cons,List.drop_zero,List.cons_append,List.nil_append]
 simp only[↓zaL,↓zHC,WZ,reduceIte,yA,yB,yC,yD,reduceCtorEq,yE,yF,W1]
 refine zJv (fun hlt=> ?_) (fun hlt=> ?_)
 ·have h:=YAN
  repeat' (first
   |(with_reducible first|apply bA|apply bB|apply bC|apply bD|apply bE|apply bF)<;>intro h
   |((first|apply bG|apply bH);simp only[AV.norm,AV.zQg,W2,hlt,zOo hlt,YAK];first|refine zIf (zLH _) (.inl rfl) ?_|refine zIf (c1 _ (by assumption)) (.inl rfl) ?_|refine zIf (c2 _) (.inl rfl) ?_|refine zIj (zLH _) (.inl rfl) ?_|refine zIj (c1 _ (by assumption)) (.inl rfl) ?_|refine zIj (c2 _) (.inl rfl) ?_)
   |skip)<;>simp only[h,↓zaL,↓zHC,WZ,reduceIte,yA,yB,yC,yD,reduceCtorEq,yE,yF,W1,hlt,zOo hlt,YAK]
  all_goals first
   |exact(hfalse i hlt (by first|assumption|(simp[*];done)|exact zWL (by assumption)|exact zWM (by assumption)|exact zWN (by assumption)|exact zWO (by assumption) (by assumption) (by assumption))).symm
   | (refine⟨i+1,⟨by omega,fun j hj=> ?_⟩,by omega,zas rfl rfl rfl rfl ?_ ?_ ?_⟩
      ·rcases Nat.lt_succ_iff_lt_or_eq.1 hj with hj|rfl
       ·exact hall j hj
       ·first|assumption|(simp[*];done)|exact zWL (by assumption)|exact zWM (by assumption)|exact zWN (by assumption)|exact zWO (by assumption) (by assumption) (by assumption)
      all_goals simp only[WK,↓zaL,↓zHC,yA,reduceIte,AV.bel,AV.belL,AObj.bel,AV.norm,AV.zQg,yB,yC,zbX hlt hmax,zOq,AV.belL,YAK])
 ·simp only[↓zaL,↓zHC,WZ,reduceIte,yA,yB,yC,yD,reduceCtorEq,yE,yF,W1]
  exact(htrue fun j hj=>hall j (by omega)).symm
end Go.Proofs.Ytdngjamjccjlmaa
