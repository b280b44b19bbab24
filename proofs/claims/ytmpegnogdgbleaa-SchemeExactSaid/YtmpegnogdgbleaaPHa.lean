/- Lemmas: the functions that the laws of coercions share. No condition. -/
import Derived.Test.YtmpegnogdgbleaaPVa
import Derived.Test.YtmpegnogdgbleaaPFa
import Derived.Test.YtmpegnogdgbleaaPMa
set_option linter.unusedSimpArgs false
set_option linter.unusedVariables false
set_option maxHeartbeats 4000000
set_option maxRecDepth 100000
namespace Go.Proofs.Ytmpegnogdgbleaa
open Go Go.Ab
open Nat renaming reduceEqDiff -> yA, reduceAdd -> yB, reduceLT -> yC, reduceLeDiff -> yD, reduceMul -> yE, reducePow -> yF
open Int renaming reduceAdd -> yH, reduceLT -> yI, reduceToNat -> yJ, reduceBEq -> yK, reduceBNe -> yL, reduceLE -> yM
open AV renaming belL -> yO, bel -> yN, normL -> yQ, norm -> yP
open AObj renaming bel -> yR
attribute [local irreducible] zA0 zAA zAa zAi zAj GoIf GoGb zAk GoO GoD GoX GoDX GoG GoDG GoGv zAl Go zAB
section
def zFd:Nat->Ty->Bool
 |0,_=>true
 |n+1,t=> !allN t.kids.length fun i=> !zFd n (t.kid i)
theorem zFf:∀(n:Nat) (t:Ty),n<=1000->zA0 Try.prog 35 [emb t,.int .i64 n] (.bool (zFd n t)):=by
 intro n
 induction n with
 |zero=>
  intro t _
  show zA0 _ _ [emb t,.int .i64 0] (.bool true)
  refine eP C_ok Try.func35 Try.results35 fun ok H=> ?_
  have h:=YAN
  repeat' (first
   |(with_reducible first|apply bA|apply bB|apply bC|apply bD|apply bE|apply bF)<;>intro h
   |refine zJ9 ?_ C_ok Try.f35.ntmps rfl (by decide)
   |skip)<;>simp only[h,↓zaL,↓zHC,WZ,reduceIte,yA,yB,yC,yD,reduceCtorEq,yE,yF,W1,W3,yH,yI,yJ,yK,yL,yM,zFY]
 |succ n ih=>
  intro t hn
  have hw:IntKind.wrap .i64 (((n+1:Nat):Int)-1)=(n:Int):=by rw[zbT (by omega) (by omega)];omega
  have h0:¬((n+1:Nat):Int)<=0:=by omega
  generalize ha:((n+1:Nat):Int)=m at hw h0⊢
  have c:∀x,zA0 Try.prog 35 [emb x,.int .i64 n] (.bool (zFd n x)):=fun x=>ih x (by omega)
  refine eP C_ok Try.func35 Try.results35 fun ok H=> ?_
  have h:=YAN
  repeat' (first
   |(with_reducible first|apply bA|apply bB|apply bC|apply bD|apply bE|apply bF)<;>intro h
   |skip)<;>simp only[h,↓zaL,↓zHC,WZ,reduceIte,yA,yB,yC,yD,reduceCtorEq,yE,yF,W1,h0]
  have hmax:t.kids.length<=maxLen:=(zG5 ok.1).1
  have hfalse:∀i,i<t.kids.length->(!zFd n (t.kid i))=false->zFd (n+1) t=true:=fun i h1 h2=>by rw[zFd,zB4 (g:=fun i=> !zFd n (t.kid i)) h1 h2];rfl
  have htrue:(∀i,i<t.kids.length->(!zFd n (t.kid i))=true)->zFd (n+1) t=false:=fun h=>by rw[zFd,zB7 h];rfl
  refine aloop_trim [5,1,2] ?_
  simp only[List.map_cons,List.map_nil,↓zaL,↓zHC,WZ,reduceIte,yA,yB,yC,yD,reduceCtorEq,yE,yF,W1]
  refine zJ3 1 (fun i:Nat=> [(5,.int .i64 i)]) (fun _=>_) (fun i=>i<=t.kids.length/\∀j,j<i->(fun j=> !zFd n (t.kid j)) j=true) (fun i=>t.kids.length-i) C_ok 0 rfl rfl ⟨YAX _,by simp⟩ (by decide) ?_
  rintro i ⟨hi,hall⟩
  simp only[List.drop_succ_cons,List.drop_zero,List.cons_append,List.nil_append]
  simp only[↓zaL,↓zHC,WZ,reduceIte,yA,yB,yC,yD,reduceCtorEq,yE,yF,W1]
  refine zJv (fun hlt=> ?_) (fun hlt=> ?_)
  ·have h:=YAN
   repeat' (first
    |(with_reducible first|apply bA|apply bB|apply bC|apply bD|apply bE|apply bF)<;>intro h
    |((first|apply bG|apply bH);simp only[yP,yQ,W2,hlt,zOr hlt,hw,h0];first|refine zIf (c _) (.inl rfl) ?_|refine zIj (c _) (.inl rfl) ?_)
    |skip)<;>simp only[h,↓zaL,↓zHC,WZ,reduceIte,yA,yB,yC,yD,reduceCtorEq,yE,yF,W1,hlt,zOr hlt,hw,h0]
   all_goals first
    |exact(hfalse i hlt (by first|assumption|(simp[*];done)|fail)).symm
    | (refine⟨i+1,⟨by omega,fun j hj=> ?_⟩,by omega,zas rfl rfl rfl rfl ?_ ?_ ?_⟩
       ·rcases Nat.lt_succ_iff_lt_or_eq.1 hj with hj|rfl
        ·exact hall j hj
        ·first|assumption|(simp[*];done)|fail
       all_goals simp only[WK,↓zaL,↓zHC,yA,reduceIte,yN,yO,yR,yP,yQ,yB,yC,zbX hlt hmax,zOq,yO,YAK])
  ·simp only[↓zaL,↓zHC,WZ,reduceIte,yA,yB,yC,yD,reduceCtorEq,yE,yF,W1]
   exact(htrue fun j hj=>hall j (by omega)).symm
def zWJ(t:Ty):Bool:= !(heavy [t]||zFd 60 t||decide (8<(zaa t).length))
def small(l:List Ty):Bool:=allN l.length fun i=>zWJ (l.getD i default)
theorem zOo{l:List Ty}{i:Nat}(h:i<l.length):(l.map emb).getD i .any=emb (l.getD i default):=by simp[h]
theorem zLO{t:Ty}(h:heavy [t]=false):nodes t<=600:=zLP (l:=[t]) (by rw[h];decide) (by simp)
theorem zgl{t:Ty}(h:zWJ t=true):nodes t<=600:=by
 simp only[zWJ,YAD,YAE]at h;exact zLO h.1.1
theorem zgn{l:List Ty}(h:small l=true){t:Ty}(ht:t∈l):zWJ t=true:=by
 obtain⟨i,hi,rfl⟩:=List.getElem_of_mem ht
 have:=(zB5.1 h) i hi
 simpa [hi]using this
theorem zkd{l:List Ty}(h:small l=true){t:Ty}(ht:t∈l):nodes t<=600:=zgl (zgn h ht)
theorem zWL{t:Ty}(h:heavy [t]=true):zWJ t=false:=by simp[zWJ,h]
theorem zWM{t:Ty}(h:zFd 60 t=true):zWJ t=false:=by simp[zWJ,h]
theorem zWN{t:Ty}(h:(((zaa t).length:Nat):Int)>8):zWJ t=false:=by
 have:8<(zaa t).length:=by omega
 simp[zWJ,this]
theorem zWO{t:Ty}(h1:heavy [t]=false)(h2:zFd 60 t=false)(h3:¬(((zaa t).length:Nat):Int)>8):zWJ t=true:=by
 have:¬8<(zaa t).length:=by omega
 simp only[zWJ,h1,h2,this,Bool.or_false,decide_false,Bool.not_false]
end
end Go.Proofs.Ytmpegnogdgbleaa
