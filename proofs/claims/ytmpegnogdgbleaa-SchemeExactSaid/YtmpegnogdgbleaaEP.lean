/- Layer 11: binds of a law. No condition. -/
import Derived.Test.YtmpegnogdgbleaaEM
import Derived.Test.YtmpegnogdgbleaaPW
set_option linter.unusedSimpArgs false
set_option linter.unusedVariables false
set_option maxHeartbeats 4000000
set_option maxRecDepth 100000
namespace Go.Proofs.Ytmpegnogdgbleaa
open Go Go.Ab
open Nat renaming reduceEqDiff -> yA, reduceAdd -> yB, reduceLT -> yC, reduceLeDiff -> yD, reduceMul -> yE, reducePow -> yF
open AV renaming belL -> yO, bel -> yN, normL -> yQ, norm -> yP
open AObj renaming bel -> yR
attribute [local irreducible] zA0 zAA zAa zAi zAj GoIf GoGb zAk GoO GoD GoX GoDX GoG GoDG GoGv zAl Go zAB
def zrd(p:Bd):Bool:= !(zLL [p.2]||zFd 60 p.2)
def zrT(l:List Bd):Bool:=decide (40<l.length)|| !(allN l.length fun i=>zrd (l.getD i default))
theorem zre{p:Bd}(h:zLL [p.2]=true):zrd p=false:=by simp[zrd,h]
theorem zrf{p:Bd}(h:zFd 60 p.2=true):zrd p=false:=by simp[zrd,h]
theorem zrg{p:Bd}(h1:zLL [p.2]=false)(h2:zFd 60 p.2=false):zrd p=true:=by simp[zrd,h1,h2]
theorem zrU(l:List Bd):zA0 Try.prog 11 [.sl (l.map embB) .no] (.bool (zrT l)):=by
 refine eP C_ok Try.func11 Try.results11 fun ok H=> ?_
 have hmax:l.length<=maxLen:=by
  have:=ok.1;simp only[AV.okay,YAK]at this;exact this.1
 by_cases h40:40<l.length
 ·have h40':((l.length:Int)>40)=True:=by simp only[YAb,iff_true];omega
  have e:zrT l=true:=by rw[zrT];simp[h40]
  rw[e]
  have h:=YAN
  repeat' (first
   |(with_reducible first|apply bA|apply bB|apply bC|apply bD|apply bE|apply bF)<;>intro h
   |skip)<;>simp only[h,↓zaL,↓zHC,WZ,reduceIte,yA,yB,yC,yD,reduceCtorEq,yE,yF,W1,W1B,YAK,h40']
 ·have h40':((l.length:Int)>40)=False:=by simp only[YAb,iff_false];omega
  have h:=YAN
  repeat' (first
   |(with_reducible first|apply bA|apply bB|apply bC|apply bD|apply bE|apply bF)<;>intro h
   |skip)<;>simp only[h,↓zaL,↓zHC,WZ,reduceIte,yA,yB,yC,yD,reduceCtorEq,yE,yF,W1,W1B,YAK,h40']
  have hfalse:∀i,i<l.length->zrd (l.getD i default)=false->zrT l=true:=fun i h1 h2=>by rw[zrT,zB4 (g:=fun i=>zrd (l.getD i default)) h1 h2];simp
  have htrue:(∀i,i<l.length->zrd (l.getD i default)=true)->zrT l=false:=fun h=>by rw[zrT,zB7 h];simp[h40]
  have c2:∀t,zA0 Try.prog 35 [emb t,.int .i64 60] (.bool (zFd 60 t)):=fun t=>zFf 60 t (by decide)
  have c1:∀t,zA0 Try.prog 34 [.sl [emb t] .no] (.bool (zLL [t])):=fun t=>zLM [t]
  refine aloop_trim [3,0] ?_
  simp only[List.map_cons,List.map_nil,↓zaL,↓zHC,WZ,reduceIte,yA,yB,yC,yD,reduceCtorEq,yE,yF,W1,W1B]
  refine zJ3 1 (fun i:Nat=> [(3,.int .i64 i)]) (fun _=>_) (fun i=>i<=l.length/\∀j,j<i->(fun j=>zrd (l.getD j default)) j=true) (fun i=>l.length-i) C_ok 0 rfl rfl ⟨YAX _,by simp⟩ (by decide) ?_
  rintro i ⟨hi,hall⟩
  simp only[List.drop_succ_cons,List.drop_zero,List.cons_append,List.nil_append]
  simp only[↓zaL,↓zHC,WZ,reduceIte,yA,yB,yC,yD,reduceCtorEq,yE,yF,W1,W1B]
  refine zJv (fun hlt=> ?_) (fun hlt=> ?_)
  ·have h:=YAN
   repeat' (first
    |(with_reducible first|apply bA|apply bB|apply bC|apply bD|apply bE|apply bF)<;>intro h
    |((first|apply bG|apply bH);simp only[yP,yQ,W2,W2B,hlt,zOY hlt,zGI,YAK];first|refine zIf (c1 _) (.inl rfl) ?_|refine zIf (c2 _) (.inl rfl) ?_|refine zIj (c1 _) (.inl rfl) ?_|refine zIj (c2 _) (.inl rfl) ?_)
    |skip)<;>simp only[h,↓zaL,↓zHC,WZ,reduceIte,yA,yB,yC,yD,reduceCtorEq,yE,yF,W1,W1B,hlt,zOY hlt,zGI,YAK]
   all_goals first
    |exact(hfalse i hlt (by first|assumption|(simp[*];done)|exact zre (by assumption)|exact zrf (by assumption)|exact zrg (by assumption) (by assumption))).symm
    | (refine⟨i+1,⟨by omega,fun j hj=> ?_⟩,by omega,zas rfl rfl rfl rfl ?_ ?_ ?_⟩
       ·rcases Nat.lt_succ_iff_lt_or_eq.1 hj with hj|rfl
        ·exact hall j hj
        ·first|assumption|(simp[*];done)|exact zre (by assumption)|exact zrf (by assumption)|exact zrg (by assumption) (by assumption)
       all_goals simp only[WK,↓zaL,↓zHC,yA,reduceIte,yN,yO,yR,yP,yQ,yB,yC,zbX hlt hmax,zOq,zOX,yO,YAK])
  ·simp only[↓zaL,↓zHC,WZ,reduceIte,yA,yB,yC,yD,reduceCtorEq,yE,yF,W1,W1B]
   exact(htrue fun j hj=>hall j (by omega)).symm
theorem zr3(l:List Bd):okBs l=allN l.length fun i=>okBd (l.getD i default):=by
 rw[Bool.eq_iff_iff,zB5,okBs,List.all_eq_true]
 constructor
 ·intro h i hi;have:=h l[i] (List.getElem_mem hi);simpa [hi]using this
 ·intro h p hp
  obtain⟨i,hi,rfl⟩:=List.getElem_of_mem hp
  have:=h i hi;simpa [hi]using this
theorem zrz{p:Bd}(h:p.1<0):okBd p=false:=by
 have:¬0<=p.1:=by omega
 simp[okBd,this]
theorem zr0{p:Bd}(h:p.1>1048576):okBd p=false:=by
 have:¬p.1<=1048576:=by omega
 simp[okBd,this]
theorem zr1{p:Bd}(h:right p.2=false):okBd p=false:=by simp[okBd,h]
theorem zr2{p:Bd}(h1:¬p.1<0)(h2:¬p.1>1048576)(h:right p.2=true):okBd p=true:=by
 have k1:0<=p.1:=by omega
 have k2:p.1<=1048576:=by omega
 simp[okBd,h,k1,k2]
theorem zsQ(l:List Bd):zA0 Try.prog 19 [.sl (l.map embB) .no] (.bool (okBs l)):=by
 refine eP C_ok Try.func19 Try.results19 fun ok H=> ?_
 have hmax:l.length<=maxLen:=by
  have:=ok.1;simp only[AV.okay,YAK]at this;exact this.1
 have h:=YAN
 repeat' (first
  |(with_reducible first|apply bA|apply bB|apply bC|apply bD|apply bE|apply bF)<;>intro h
  |skip)<;>simp only[h,↓zaL,↓zHC,WZ,reduceIte,yA,yB,yC,yD,reduceCtorEq,yE,yF,W1,W1B,YAK]
 have hfalse:∀i,i<l.length->okBd (l.getD i default)=false->okBs l=false:=fun i h1 h2=>by rw[zr3,zB4 (g:=fun i=>okBd (l.getD i default)) h1 h2]
 have htrue:(∀i,i<l.length->okBd (l.getD i default)=true)->okBs l=true:=fun h=>by rw[zr3,zB7 h]
 refine aloop_trim [3,0] ?_
 simp only[List.map_cons,List.map_nil,↓zaL,↓zHC,WZ,reduceIte,yA,yB,yC,yD,reduceCtorEq,yE,yF,W1,W1B]
 refine zJ3 1 (fun i:Nat=> [(3,.int .i64 i)]) (fun _=>_) (fun i=>i<=l.length/\∀j,j<i->(fun j=>okBd (l.getD j default)) j=true) (fun i=>l.length-i) C_ok 0 rfl rfl ⟨YAX _,by simp⟩ (by decide) ?_
 rintro i ⟨hi,hall⟩
 simp only[List.drop_succ_cons,List.drop_zero,List.cons_append,List.nil_append]
 simp only[↓zaL,↓zHC,WZ,reduceIte,yA,yB,yC,yD,reduceCtorEq,yE,yF,W1,W1B]
 refine zJv (fun hlt=> ?_) (fun hlt=> ?_)
 ·have h:=YAN
  repeat' (first
   |(with_reducible first|apply bA|apply bB|apply bC|apply bD|apply bE|apply bF)<;>intro h
   |((first|apply bG|apply bH);simp only[yP,yQ,W2,W2B,hlt,zOY hlt,zGI,YAK];first|refine zIf (zUa _) (.inl rfl) ?_|refine zIj (zUa _) (.inl rfl) ?_)
   |skip)<;>simp only[h,↓zaL,↓zHC,WZ,reduceIte,yA,yB,yC,yD,reduceCtorEq,yE,yF,W1,W1B,hlt,zOY hlt,zGI,YAK]
  all_goals first
   |exact(hfalse i hlt (by first|assumption|(simp[*];done)|exact zrz (by assumption)|exact zr0 (by assumption)|exact zr1 (by assumption)|exact zr2 (by assumption) (by assumption) (by assumption))).symm
   | (refine⟨i+1,⟨by omega,fun j hj=> ?_⟩,by omega,zas rfl rfl rfl rfl ?_ ?_ ?_⟩
      ·rcases Nat.lt_succ_iff_lt_or_eq.1 hj with hj|rfl
       ·exact hall j hj
       ·first|assumption|(simp[*];done)|exact zrz (by assumption)|exact zr0 (by assumption)|exact zr1 (by assumption)|exact zr2 (by assumption) (by assumption) (by assumption)
      all_goals simp only[WK,↓zaL,↓zHC,yA,reduceIte,yN,yO,yR,yP,yQ,yB,yC,zbX hlt hmax,zOq,zOX,yO,YAK])
 ·simp only[↓zaL,↓zHC,WZ,reduceIte,yA,yB,yC,yD,reduceCtorEq,yE,yF,W1,W1B]
  exact(htrue fun j hj=>hall j (by omega)).symm
end Go.Proofs.Ytmpegnogdgbleaa
