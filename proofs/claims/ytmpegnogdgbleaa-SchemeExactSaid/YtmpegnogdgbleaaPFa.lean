/- Lemmas: the functions of types, first part. No condition. -/
import Derived.Test.YtmpegnogdgbleaaPMa
set_option linter.unusedSimpArgs false
set_option linter.unusedVariables false
set_option maxHeartbeats 4000000
namespace Go.Proofs.Ytmpegnogdgbleaa
open Go Go.Ab
open Nat renaming reduceEqDiff -> yA, reduceAdd -> yB, reduceLT -> yC, reduceLeDiff -> yD, reduceMul -> yE, reducePow -> yF
open AV renaming belL -> yO, bel -> yN, normL -> yQ, norm -> yP
open AObj renaming bel -> yR
attribute [local irreducible] zA0 zAA zAa zAi zAj GoIf GoGb zAk GoO GoD GoX GoDX GoG GoDG GoGv zAl Go zAB
section
theorem zOr{t:Ty}{i:Nat}(h:i<t.kids.length):(t.kids.map emb).getD i .any=emb (t.kid i):=by simp[h,Ty.kid]
theorem zMb{t:Ty}{i:Nat}(h:i<t.kids.length):t.kid i∈t.kids:=by simp[h,Ty.kid]
theorem zcy(a b:Ty)(ih:∀x∈a.kids,∀y,zA0 Try.prog 56 [emb x,emb y] (.bool (same x y))):zA0 Try.prog 56 [emb a,emb b] (.bool (same a b)):=by
 refine eP C_ok Try.func56 Try.results56 fun ok H=> ?_
 have h:=YAN
 repeat' (first
  |(with_reducible first|refine bA ?_ ?_|refine bB ?_ ?_|refine bC ?_ ?_|refine bD ?_ ?_|refine bE ?_ ?_|refine bF ?_ ?_)<;>intro h
  |refine zKg (id:=6) C_ok (fun _=>trivial) mixed 0 Try.f56.ntmps rfl (by kernel_rfl) (by decide) ?_
  |skip)<;>simp only[h,↓zaL,↓zHC,WZ,reduceIte,yA,yB,yC,yD,reduceCtorEq,yE,yF,W1]
 all_goals have hmax:a.kids.length<=maxLen:=(zG5 ok.1).1
 case refine_2.refine_2.refine_2=>
  have hlen:b.kids.length=a.kids.length:=by simp only[bne_eq_false_iff_eq]at*;omega
  have hfalse:∀i,i<a.kids.length->same (a.kid i) (b.kid i)=false->same a b=false:=fun i h1 h2=>by rw[same_eq,zB4 h1 h2];simp
  have htrue:(∀i,i<a.kids.length->same (a.kid i) (b.kid i)=true)->same a b=true:=fun h=>by rw[same_eq,zB7 h];simp_all
  refine aloop_trim [31,3,29,30] ?_
  simp only[List.map_cons,List.map_nil,↓zaL,↓zHC,WZ,reduceIte,yA,yB,yC,yD,reduceCtorEq,yE,yF,W1]
  refine zJ3 1 (fun i:Nat=> [(31,.int .i64 i)]) (fun _=>_) (fun i=>i<=a.kids.length/\∀j,j<i->(fun j=>same (a.kid j) (b.kid j)) j=true) (fun i=>a.kids.length-i) C_ok 0 rfl rfl ⟨YAX _,by simp⟩ (by decide) ?_
  rintro i ⟨hi,hall⟩
  simp only[List.drop_succ_cons,List.drop_zero,List.cons_append,List.nil_append]
  simp only[↓zaL,↓zHC,WZ,reduceIte,yA,yB,yC,yD,reduceCtorEq,yE,yF,W1]
  refine zJv (fun hlt=> ?_) (fun hlt=> ?_)
  ·have h:=YAN
   repeat' (first
    |(with_reducible first|refine bA ?_ ?_|refine bB ?_ ?_|refine bC ?_ ?_|refine bD ?_ ?_|refine bE ?_ ?_|refine bF ?_ ?_)<;>intro h
    |((first|apply bG|apply bH);simp only[yP,yQ,W2,hlt,hlen,zOr hlt,zOr (hlen.symm▸hlt)];first|refine zIf (ih _ (zMb hlt) _) (.inl rfl) ?_|refine zIj (ih _ (zMb hlt) _) (.inl rfl) ?_)
    |refine zKg (id:=6) C_ok (fun _=>trivial) mixed 0 Try.f56.ntmps rfl (by kernel_rfl) (by decide) ?_
    |skip)<;>simp only[h,↓zaL,↓zHC,WZ,reduceIte,yA,yB,yC,yD,reduceCtorEq,yE,yF,W1,hlt,hlen,zOr hlt,zOr (hlen.symm▸hlt)]
   all_goals first
    |exact(hfalse i hlt (by first|assumption|simp only[*])).symm
    | (refine⟨i+1,⟨by omega,fun j hj=> ?_⟩,by omega,zas rfl rfl rfl rfl ?_ ?_ ?_⟩
       ·rcases Nat.lt_succ_iff_lt_or_eq.1 hj with hj|rfl
        ·exact hall j hj
        ·first|assumption|simp only[*]
       all_goals simp only[WK,↓zaL,↓zHC,yA,reduceIte,yN,yO,yR,yP,yQ,yB,yC,zbX hlt hmax,zOq,yO,YAK])
  ·simp only[↓zaL,↓zHC,WZ,reduceIte,yA,yB,yC,yD,reduceCtorEq,yE,yF,W1]
   exact(htrue fun j hj=>hall j (by omega)).symm
 all_goals (rw[same_eq];simp_all<;>(try intros)<;>(try omega))
theorem zCn(k:Int):zA0 Try.prog 69 [.int .i64 k] (.int .i64 (arity k)):=by
 refine eP C_ok Try.func69 Try.results69 fun ok H=> ?_
 have h:=YAN
 repeat' (first
  |(with_reducible first|refine bA ?_ ?_|refine bB ?_ ?_|refine bC ?_ ?_|refine bD ?_ ?_|refine bE ?_ ?_|refine bF ?_ ?_)<;>intro h
  |skip)<;>simp only[h,↓zaL,↓zHC,WZ,reduceIte,yA,yB,yC,yD,reduceCtorEq,yE,yF,W1]
 all_goals (simp only[beq_iff_eq,YAZ]at*;unfold arity;(repeat' split)<;>omega)
theorem zMg(k:Int):zA0 Try.prog 43 [.int .i64 k] (.int .i64 (arity k)):=by
 refine eP C_ok Try.func43 Try.results43 fun ok H=> ?_
 have h:=YAN
 repeat' (first
  |(with_reducible first|refine bA ?_ ?_|refine bB ?_ ?_|refine bC ?_ ?_|refine bD ?_ ?_|refine bE ?_ ?_|refine bF ?_ ?_)<;>intro h
  |skip)<;>simp only[h,↓zaL,↓zHC,WZ,reduceIte,yA,yB,yC,yD,reduceCtorEq,yE,yF,W1]
 all_goals (simp only[beq_iff_eq,YAZ]at*;unfold arity;(repeat' split)<;>omega)
theorem right_step(t:Ty)(ih:∀x∈t.kids,zA0 Try.prog 54 [emb x] (.bool (right x))):zA0 Try.prog 54 [emb t] (.bool (right t)):=by
 refine eP C_ok Try.func54 Try.results54 fun ok H=> ?_
 have h:=YAN
 repeat' (first
  |(with_reducible first|refine bA ?_ ?_|refine bB ?_ ?_|refine bC ?_ ?_|refine bD ?_ ?_|refine bE ?_ ?_|refine bF ?_ ?_)<;>intro h
  |((first|apply bG|apply bH);simp only[yP,yQ,W2];first|refine zIf (zCn _) (.inl rfl) ?_|refine zIj (zCn _) (.inl rfl) ?_)
  |skip)<;>simp only[h,↓zaL,↓zHC,WZ,reduceIte,yA,yB,yC,yD,reduceCtorEq,yE,yF,W1]
 all_goals have hmax:t.kids.length<=maxLen:=(zG5 ok.1).1
 case refine_2.refine_2.refine_2.refine_2=>
  have hN:okN t=true:=by simp_all [okN]
  have hfalse:∀i,i<t.kids.length->right (t.kid i)=false->right t=false:=fun i h1 h2=>by rw[right_eq,zB4 h1 h2];simp
  have htrue:(∀i,i<t.kids.length->right (t.kid i)=true)->right t=true:=fun h=>by rw[right_eq,zB7 h,hN];rfl
  refine aloop_trim [35,33,34] ?_
  simp only[List.map_cons,List.map_nil,↓zaL,↓zHC,WZ,reduceIte,yA,yB,yC,yD,reduceCtorEq,yE,yF,W1]
  refine zJ3 1 (fun i:Nat=> [(35,.int .i64 i)]) (fun _=>_) (fun i=>i<=t.kids.length/\∀j,j<i->(fun j=>right (t.kid j)) j=true) (fun i=>t.kids.length-i) C_ok 0 rfl rfl ⟨YAX _,by simp⟩ (by decide) ?_
  rintro i ⟨hi,hall⟩
  simp only[List.drop_succ_cons,List.drop_zero,List.cons_append,List.nil_append]
  simp only[↓zaL,↓zHC,WZ,reduceIte,yA,yB,yC,yD,reduceCtorEq,yE,yF,W1]
  refine zJv (fun hlt=> ?_) (fun hlt=> ?_)
  ·have h:=YAN
   repeat' (first
    |(with_reducible first|refine bA ?_ ?_|refine bB ?_ ?_|refine bC ?_ ?_|refine bD ?_ ?_|refine bE ?_ ?_|refine bF ?_ ?_)<;>intro h
    |((first|apply bG|apply bH);simp only[yP,yQ,W2,hlt,zOr hlt];first|refine zIf (ih _ (zMb hlt)) (.inl rfl) ?_|refine zIj (ih _ (zMb hlt)) (.inl rfl) ?_)
    |skip)<;>simp only[h,↓zaL,↓zHC,WZ,reduceIte,yA,yB,yC,yD,reduceCtorEq,yE,yF,W1,hlt,zOr hlt]
   all_goals first
    |exact(hfalse i hlt (by first|assumption|simp only[*])).symm
    | (refine⟨i+1,⟨by omega,fun j hj=> ?_⟩,by omega,zas rfl rfl rfl rfl ?_ ?_ ?_⟩
       ·rcases Nat.lt_succ_iff_lt_or_eq.1 hj with hj|rfl
        ·exact hall j hj
        ·first|assumption|simp only[*]
       all_goals simp only[WK,↓zaL,↓zHC,yA,reduceIte,yN,yO,yR,yP,yQ,yB,yC,zbX hlt hmax,zOq,yO,YAK])
  ·simp only[↓zaL,↓zHC,WZ,reduceIte,yA,yB,yC,yD,reduceCtorEq,yE,yF,W1]
   exact(htrue fun j hj=>hall j (by omega)).symm
 all_goals rw[right_eq]
 case refine_2.refine_2.refine_1.refine_1|refine_2.refine_2.refine_1.refine_2=>
  have hk:t.kids.length=0:=by simp_all [arity]
  rw[hk,zB8];simp_all [okN]<;>(try intros)<;>(try omega)
 all_goals (simp_all [okN]<;>(try intros)<;>(try omega))
theorem zT2(t:Ty):zA0 Try.prog 54 [emb t] (.bool (right t)):=Ty.ind right_step t
theorem zcx(a b:Ty):zA0 Try.prog 56 [emb a,emb b] (.bool (same a b)):=
 Ty.ind (p:=fun a=>∀b,zA0 Try.prog 56 [emb a,emb b] (.bool (same a b))) (fun a ih b=>zcy a b ih) a b
theorem zEj(t:Ty):zA0 Try.prog 37 [emb t] (.int .i64 (if right t=true then 0 else 1)):=by
 refine eP C_ok Try.func37 Try.results37 fun ok H=> ?_
 have h:=YAN
 repeat' (first
  |(with_reducible first|refine bA ?_ ?_|refine bB ?_ ?_|refine bC ?_ ?_|refine bD ?_ ?_|refine bE ?_ ?_|refine bF ?_ ?_)<;>intro h
  |((first|apply bG|apply bH);simp only[yP,yQ,W2];first|refine zIf (zT2 _) (.inl rfl) ?_|refine zIj (zT2 _) (.inl rfl) ?_)
  |skip)<;>simp only[h,↓zaL,↓zHC,WZ,reduceIte,yA,yB,yC,yD,reduceCtorEq,yE,yF,W1]
 all_goals simp_all
theorem za6(t:Ty)(k:Int)(ih:∀x∈t.kids,zA0 Try.prog 70 [emb x,.int .i64 k] (.bool (without k x))):zA0 Try.prog 70 [emb t,.int .i64 k] (.bool (without k t)):=by
 refine eP C_ok Try.func70 Try.results70 fun ok H=> ?_
 have h:=YAN
 repeat' (first
  |(with_reducible first|refine bA ?_ ?_|refine bB ?_ ?_|refine bC ?_ ?_|refine bD ?_ ?_|refine bE ?_ ?_|refine bF ?_ ?_)<;>intro h
  |skip)<;>simp only[h,↓zaL,↓zHC,WZ,reduceIte,yA,yB,yC,yD,reduceCtorEq,yE,yF,W1]
 all_goals have hmax:t.kids.length<=maxLen:=(zG5 ok.1).1
 case refine_2=>
  have hfalse:∀i,i<t.kids.length->without k (t.kid i)=false->without k t=false:=fun i h1 h2=>by rw[za4,zB4 h1 h2];simp
  have htrue:(∀i,i<t.kids.length->without k (t.kid i)=true)->without k t=true:=fun h=>by rw[za4,zB7 h];simp_all
  refine aloop_trim [14,1,12,13] ?_
  simp only[List.map_cons,List.map_nil,↓zaL,↓zHC,WZ,reduceIte,yA,yB,yC,yD,reduceCtorEq,yE,yF,W1]
  refine zJ3 1 (fun i:Nat=> [(14,.int .i64 i)]) (fun _=>_) (fun i=>i<=t.kids.length/\∀j,j<i->(fun j=>without k (t.kid j)) j=true) (fun i=>t.kids.length-i) C_ok 0 rfl rfl ⟨YAX _,by simp⟩ (by decide) ?_
  rintro i ⟨hi,hall⟩
  simp only[List.drop_succ_cons,List.drop_zero,List.cons_append,List.nil_append]
  simp only[↓zaL,↓zHC,WZ,reduceIte,yA,yB,yC,yD,reduceCtorEq,yE,yF,W1]
  refine zJv (fun hlt=> ?_) (fun hlt=> ?_)
  ·have h:=YAN
   repeat' (first
    |(with_reducible first|refine bA ?_ ?_|refine bB ?_ ?_|refine bC ?_ ?_|refine bD ?_ ?_|refine bE ?_ ?_|refine bF ?_ ?_)<;>intro h
    |((first|apply bG|apply bH);simp only[yP,yQ,W2,hlt,zOr hlt];first|refine zIf (ih _ (zMb hlt)) (.inl rfl) ?_|refine zIj (ih _ (zMb hlt)) (.inl rfl) ?_)
    |skip)<;>simp only[h,↓zaL,↓zHC,WZ,reduceIte,yA,yB,yC,yD,reduceCtorEq,yE,yF,W1,hlt,zOr hlt]
   all_goals first
    |exact(hfalse i hlt (by first|assumption|simp only[*])).symm
    | (refine⟨i+1,⟨by omega,fun j hj=> ?_⟩,by omega,zas rfl rfl rfl rfl ?_ ?_ ?_⟩
       ·rcases Nat.lt_succ_iff_lt_or_eq.1 hj with hj|rfl
        ·exact hall j hj
        ·first|assumption|simp only[*]
       all_goals simp only[WK,↓zaL,↓zHC,yA,reduceIte,yN,yO,yR,yP,yQ,yB,yC,zbX hlt hmax,zOq,yO,YAK])
  ·simp only[↓zaL,↓zHC,WZ,reduceIte,yA,yB,yC,yD,reduceCtorEq,yE,yF,W1]
   exact(htrue fun j hj=>hall j (by omega)).symm
 all_goals (rw[za4];simp_all)
theorem za5(t:Ty)(k:Int):zA0 Try.prog 70 [emb t,.int .i64 k] (.bool (without k t)):=Ty.ind (p:=fun t=>zA0 Try.prog 70 [emb t,.int .i64 k] (.bool (without k t))) (fun t ih=>za6 t k ih) t
theorem zc3(t:Ty):zA0 Try.prog 57 [emb t] (.bool (without 5 t)):=by
 refine eP C_ok Try.func57 Try.results57 fun ok H=> ?_
 have h:=YAN
 repeat' (first
  |(with_reducible first|refine bA ?_ ?_|refine bB ?_ ?_|refine bC ?_ ?_|refine bD ?_ ?_|refine bE ?_ ?_|refine bF ?_ ?_)<;>intro h
  |((first|apply bG|apply bH);simp only[yP,yQ,W2];first|refine zIf (za5 _ _) (.inl rfl) ?_|refine zIj (za5 _ _) (.inl rfl) ?_)
  |skip)<;>simp only[h,↓zaL,↓zHC,WZ,reduceIte,yA,yB,yC,yD,reduceCtorEq,yE,yF,W1]
end
section
theorem zUb(t:Ty)(ih:∀x∈t.kids,zA0 Try.prog 18 [emb x] (.bool (right x))):zA0 Try.prog 18 [emb t] (.bool (right t)):=by
 refine eP C_ok Try.func18 Try.results18 fun ok H=> ?_
 have h:=YAN
 repeat' (first
  |(with_reducible first|refine bA ?_ ?_|refine bB ?_ ?_|refine bC ?_ ?_|refine bD ?_ ?_|refine bE ?_ ?_|refine bF ?_ ?_)<;>intro h
  |((first|apply bG|apply bH);simp only[yP,yQ,W2];first|refine zIf (zMg _) (.inl rfl) ?_|refine zIj (zMg _) (.inl rfl) ?_)
  |refine zKg (id:=1) C_ok (fun _=>trivial) mixed 0 Try.f18.ntmps rfl (by kernel_rfl) (by decide) ?_
  |skip)<;>simp only[h,↓zaL,↓zHC,WZ,reduceIte,yA,yB,yC,yD,reduceCtorEq,yE,yF,W1]
 all_goals have hmax:t.kids.length<=maxLen:=(zG5 ok.1).1
 all_goals first
  | (have hN:okN t=true:=by(simp_all [okN]<;>(try intros)<;>(try omega))
     have hfalse:∀i,i<t.kids.length->right (t.kid i)=false->right t=false:=fun i h1 h2=>by rw[right_eq,zB4 h1 h2];simp
     have htrue:(∀i,i<t.kids.length->right (t.kid i)=true)->right t=true:=fun h=>by rw[right_eq,zB7 h,hN];rfl
     refine aloop_trim [3,1] ?_
     simp only[List.map_cons,List.map_nil,↓zaL,↓zHC,WZ,reduceIte,yA,yB,yC,yD,reduceCtorEq,yE,yF,W1]
     refine zJ3 1 (fun i:Nat=> [(3,.int .i64 i)]) (fun _=>_) (fun i=>i<=t.kids.length/\∀j,j<i->(fun j=>right (t.kid j)) j=true) (fun i=>t.kids.length-i) C_ok 0 rfl rfl ⟨YAX _,by simp⟩ (by decide) ?_
     rintro i ⟨hi,hall⟩
     simp only[List.drop_succ_cons,List.drop_zero,List.cons_append,List.nil_append]
     simp only[↓zaL,↓zHC,WZ,reduceIte,yA,yB,yC,yD,reduceCtorEq,yE,yF,W1]
     refine zJv (fun hlt=> ?_) (fun hlt=> ?_)
     ·have h:=YAN
      repeat' (first
       |(with_reducible first|refine bA ?_ ?_|refine bB ?_ ?_|refine bC ?_ ?_|refine bD ?_ ?_|refine bE ?_ ?_|refine bF ?_ ?_)<;>intro h
       |((first|apply bG|apply bH);simp only[yP,yQ,W2,hlt,zOr hlt];first|refine zIf (ih _ (zMb hlt)) (.inl rfl) ?_|refine zIj (ih _ (zMb hlt)) (.inl rfl) ?_)
       |refine zKg (id:=1) C_ok (fun _=>trivial) mixed 0 Try.f18.ntmps rfl (by kernel_rfl) (by decide) ?_
       |skip)<;>simp only[h,↓zaL,↓zHC,WZ,reduceIte,yA,yB,yC,yD,reduceCtorEq,yE,yF,W1,hlt,zOr hlt]
      all_goals first
       |exact(hfalse i hlt (by first|assumption|simp only[*])).symm
       | (refine⟨i+1,⟨by omega,fun j hj=> ?_⟩,by omega,zas rfl rfl rfl rfl ?_ ?_ ?_⟩
          ·rcases Nat.lt_succ_iff_lt_or_eq.1 hj with hj|rfl
           ·exact hall j hj
           ·first|assumption|simp only[*]
          all_goals simp only[WK,↓zaL,↓zHC,yA,reduceIte,yN,yO,yR,yP,yQ,yB,yC,zbX hlt hmax,zOq,yO,YAK])
     ·simp only[↓zaL,↓zHC,WZ,reduceIte,yA,yB,yC,yD,reduceCtorEq,yE,yF,W1]
      exact(htrue fun j hj=>hall j (by omega)).symm)
  |(rw[right_eq];by_cases h6:t.kind=6<;>simp_all [okN]<;>(try intros)<;>(try omega))
theorem zUa(t:Ty):zA0 Try.prog 18 [emb t] (.bool (right t)):=Ty.ind zUb t
theorem zsS(a b:Ty)(ih:∀x∈a.kids,∀y,zA0 Try.prog 61 [emb x,emb y] (.bool (same x y))):zA0 Try.prog 61 [emb a,emb b] (.bool (same a b)):=by
 refine eP C_ok Try.func61 Try.results61 fun ok H=> ?_
 have h:=YAN
 repeat' (first
  |(with_reducible first|refine bA ?_ ?_|refine bB ?_ ?_|refine bC ?_ ?_|refine bD ?_ ?_|refine bE ?_ ?_|refine bF ?_ ?_)<;>intro h
  |refine zKg (id:=6) C_ok (fun _=>trivial) mixed 0 Try.f61.ntmps rfl (by kernel_rfl) (by decide) ?_
  |skip)<;>simp only[h,↓zaL,↓zHC,WZ,reduceIte,yA,yB,yC,yD,reduceCtorEq,yE,yF,W1]
 all_goals have hmax:a.kids.length<=maxLen:=(zG5 ok.1).1
 case refine_2.refine_2.refine_2=>
  have hlen:b.kids.length=a.kids.length:=by simp only[bne_eq_false_iff_eq]at*;omega
  have hfalse:∀i,i<a.kids.length->same (a.kid i) (b.kid i)=false->same a b=false:=fun i h1 h2=>by rw[same_eq,zB4 h1 h2];simp
  have htrue:(∀i,i<a.kids.length->same (a.kid i) (b.kid i)=true)->same a b=true:=fun h=>by rw[same_eq,zB7 h];simp_all
  refine aloop_trim [5,2,3] ?_
  simp only[List.map_cons,List.map_nil,↓zaL,↓zHC,WZ,reduceIte,yA,yB,yC,yD,reduceCtorEq,yE,yF,W1]
  refine zJ3 1 (fun i:Nat=> [(5,.int .i64 i)]) (fun _=>_) (fun i=>i<=a.kids.length/\∀j,j<i->(fun j=>same (a.kid j) (b.kid j)) j=true) (fun i=>a.kids.length-i) C_ok 0 rfl rfl ⟨YAX _,by simp⟩ (by decide) ?_
  rintro i ⟨hi,hall⟩
  simp only[List.drop_succ_cons,List.drop_zero,List.cons_append,List.nil_append]
  simp only[↓zaL,↓zHC,WZ,reduceIte,yA,yB,yC,yD,reduceCtorEq,yE,yF,W1]
  refine zJv (fun hlt=> ?_) (fun hlt=> ?_)
  ·have h:=YAN
   repeat' (first
    |(with_reducible first|refine bA ?_ ?_|refine bB ?_ ?_|refine bC ?_ ?_|refine bD ?_ ?_|refine bE ?_ ?_|refine bF ?_ ?_)<;>intro h
    |((first|apply bG|apply bH);simp only[yP,yQ,W2,hlt,hlen,zOr hlt,zOr (hlen.symm▸hlt)];first|refine zIf (ih _ (zMb hlt) _) (.inl rfl) ?_|refine zIj (ih _ (zMb hlt) _) (.inl rfl) ?_)
    |refine zKg (id:=6) C_ok (fun _=>trivial) mixed 0 Try.f61.ntmps rfl (by kernel_rfl) (by decide) ?_
    |skip)<;>simp only[h,↓zaL,↓zHC,WZ,reduceIte,yA,yB,yC,yD,reduceCtorEq,yE,yF,W1,hlt,hlen,zOr hlt,zOr (hlen.symm▸hlt)]
   all_goals first
    |exact(hfalse i hlt (by first|assumption|simp only[*])).symm
    | (refine⟨i+1,⟨by omega,fun j hj=> ?_⟩,by omega,zas rfl rfl rfl rfl ?_ ?_ ?_⟩
       ·rcases Nat.lt_succ_iff_lt_or_eq.1 hj with hj|rfl
        ·exact hall j hj
        ·first|assumption|simp only[*]
       all_goals simp only[WK,↓zaL,↓zHC,yA,reduceIte,yN,yO,yR,yP,yQ,yB,yC,zbX hlt hmax,zOq,yO,YAK])
  ·simp only[↓zaL,↓zHC,WZ,reduceIte,yA,yB,yC,yD,reduceCtorEq,yE,yF,W1]
   exact(htrue fun j hj=>hall j (by omega)).symm
 all_goals (rw[same_eq];simp_all<;>(try intros)<;>(try omega))
theorem zsR(a b:Ty):zA0 Try.prog 61 [emb a,emb b] (.bool (same a b)):=
 Ty.ind (p:=fun a=>∀b,zA0 Try.prog 61 [emb a,emb b] (.bool (same a b))) (fun a ih b=>zsS a b ih) a b
theorem zMp(a b:Ty)(ih:∀x∈a.kids,∀y,zA0 Try.prog 17 [emb x,emb y] (.bool (same x y))):zA0 Try.prog 17 [emb a,emb b] (.bool (same a b)):=by
 refine eP C_ok Try.func17 Try.results17 fun ok H=> ?_
 have h:=YAN
 repeat' (first
  |(with_reducible first|refine bA ?_ ?_|refine bB ?_ ?_|refine bC ?_ ?_|refine bD ?_ ?_|refine bE ?_ ?_|refine bF ?_ ?_)<;>intro h
  |refine zKg (id:=6) C_ok (fun _=>trivial) mixed 0 Try.f17.ntmps rfl (by kernel_rfl) (by decide) ?_
  |skip)<;>simp only[h,↓zaL,↓zHC,WZ,reduceIte,yA,yB,yC,yD,reduceCtorEq,yE,yF,W1]
 all_goals have hmax:a.kids.length<=maxLen:=(zG5 ok.1).1
 case refine_2.refine_2.refine_2=>
  have hlen:b.kids.length=a.kids.length:=by simp only[bne_eq_false_iff_eq]at*;omega
  have hfalse:∀i,i<a.kids.length->same (a.kid i) (b.kid i)=false->same a b=false:=fun i h1 h2=>by rw[same_eq,zB4 h1 h2];simp
  have htrue:(∀i,i<a.kids.length->same (a.kid i) (b.kid i)=true)->same a b=true:=fun h=>by rw[same_eq,zB7 h];simp_all
  refine aloop_trim [5,2,3] ?_
  simp only[List.map_cons,List.map_nil,↓zaL,↓zHC,WZ,reduceIte,yA,yB,yC,yD,reduceCtorEq,yE,yF,W1]
  refine zJ3 1 (fun i:Nat=> [(5,.int .i64 i)]) (fun _=>_) (fun i=>i<=a.kids.length/\∀j,j<i->(fun j=>same (a.kid j) (b.kid j)) j=true) (fun i=>a.kids.length-i) C_ok 0 rfl rfl ⟨YAX _,by simp⟩ (by decide) ?_
  rintro i ⟨hi,hall⟩
  simp only[List.drop_succ_cons,List.drop_zero,List.cons_append,List.nil_append]
  simp only[↓zaL,↓zHC,WZ,reduceIte,yA,yB,yC,yD,reduceCtorEq,yE,yF,W1]
  refine zJv (fun hlt=> ?_) (fun hlt=> ?_)
  ·have h:=YAN
   repeat' (first
    |(with_reducible first|refine bA ?_ ?_|refine bB ?_ ?_|refine bC ?_ ?_|refine bD ?_ ?_|refine bE ?_ ?_|refine bF ?_ ?_)<;>intro h
    |((first|apply bG|apply bH);simp only[yP,yQ,W2,hlt,hlen,zOr hlt,zOr (hlen.symm▸hlt)];first|refine zIf (ih _ (zMb hlt) _) (.inl rfl) ?_|refine zIj (ih _ (zMb hlt) _) (.inl rfl) ?_)
    |refine zKg (id:=6) C_ok (fun _=>trivial) mixed 0 Try.f17.ntmps rfl (by kernel_rfl) (by decide) ?_
    |skip)<;>simp only[h,↓zaL,↓zHC,WZ,reduceIte,yA,yB,yC,yD,reduceCtorEq,yE,yF,W1,hlt,hlen,zOr hlt,zOr (hlen.symm▸hlt)]
   all_goals first
    |exact(hfalse i hlt (by first|assumption|simp only[*])).symm
    | (refine⟨i+1,⟨by omega,fun j hj=> ?_⟩,by omega,zas rfl rfl rfl rfl ?_ ?_ ?_⟩
       ·rcases Nat.lt_succ_iff_lt_or_eq.1 hj with hj|rfl
        ·exact hall j hj
        ·first|assumption|simp only[*]
       all_goals simp only[WK,↓zaL,↓zHC,yA,reduceIte,yN,yO,yR,yP,yQ,yB,yC,zbX hlt hmax,zOq,yO,YAK])
  ·simp only[↓zaL,↓zHC,WZ,reduceIte,yA,yB,yC,yD,reduceCtorEq,yE,yF,W1]
   exact(htrue fun j hj=>hall j (by omega)).symm
 all_goals (rw[same_eq];simp_all<;>(try intros)<;>(try omega))
theorem zMo(a b:Ty):zA0 Try.prog 17 [emb a,emb b] (.bool (same a b)):=
 Ty.ind (p:=fun a=>∀b,zA0 Try.prog 17 [emb a,emb b] (.bool (same a b))) (fun a ih b=>zMp a b ih) a b
theorem zcv(t:Ty)(k:Int)(ih:∀x∈t.kids,zA0 Try.prog 28 [emb x,.int .i64 k] (.bool (without k x))):zA0 Try.prog 28 [emb t,.int .i64 k] (.bool (without k t)):=by
 refine eP C_ok Try.func28 Try.results28 fun ok H=> ?_
 have h:=YAN
 repeat' (first
  |(with_reducible first|refine bA ?_ ?_|refine bB ?_ ?_|refine bC ?_ ?_|refine bD ?_ ?_|refine bE ?_ ?_|refine bF ?_ ?_)<;>intro h
  |skip)<;>simp only[h,↓zaL,↓zHC,WZ,reduceIte,yA,yB,yC,yD,reduceCtorEq,yE,yF,W1]
 all_goals have hmax:t.kids.length<=maxLen:=(zG5 ok.1).1
 case refine_2=>
  have hfalse:∀i,i<t.kids.length->without k (t.kid i)=false->without k t=false:=fun i h1 h2=>by rw[za4,zB4 h1 h2];simp
  have htrue:(∀i,i<t.kids.length->without k (t.kid i)=true)->without k t=true:=fun h=>by rw[za4,zB7 h];simp_all
  refine aloop_trim [5,1,2] ?_
  simp only[List.map_cons,List.map_nil,↓zaL,↓zHC,WZ,reduceIte,yA,yB,yC,yD,reduceCtorEq,yE,yF,W1]
  refine zJ3 1 (fun i:Nat=> [(5,.int .i64 i)]) (fun _=>_) (fun i=>i<=t.kids.length/\∀j,j<i->(fun j=>without k (t.kid j)) j=true) (fun i=>t.kids.length-i) C_ok 0 rfl rfl ⟨YAX _,by simp⟩ (by decide) ?_
  rintro i ⟨hi,hall⟩
  simp only[List.drop_succ_cons,List.drop_zero,List.cons_append,List.nil_append]
  simp only[↓zaL,↓zHC,WZ,reduceIte,yA,yB,yC,yD,reduceCtorEq,yE,yF,W1]
  refine zJv (fun hlt=> ?_) (fun hlt=> ?_)
  ·have h:=YAN
   repeat' (first
    |(with_reducible first|refine bA ?_ ?_|refine bB ?_ ?_|refine bC ?_ ?_|refine bD ?_ ?_|refine bE ?_ ?_|refine bF ?_ ?_)<;>intro h
    |((first|apply bG|apply bH);simp only[yP,yQ,W2,hlt,zOr hlt];first|refine zIf (ih _ (zMb hlt)) (.inl rfl) ?_|refine zIj (ih _ (zMb hlt)) (.inl rfl) ?_)
    |skip)<;>simp only[h,↓zaL,↓zHC,WZ,reduceIte,yA,yB,yC,yD,reduceCtorEq,yE,yF,W1,hlt,zOr hlt]
   all_goals first
    |exact(hfalse i hlt (by first|assumption|simp only[*])).symm
    | (refine⟨i+1,⟨by omega,fun j hj=> ?_⟩,by omega,zas rfl rfl rfl rfl ?_ ?_ ?_⟩
       ·rcases Nat.lt_succ_iff_lt_or_eq.1 hj with hj|rfl
        ·exact hall j hj
        ·first|assumption|simp only[*]
       all_goals simp only[WK,↓zaL,↓zHC,yA,reduceIte,yN,yO,yR,yP,yQ,yB,yC,zbX hlt hmax,zOq,yO,YAK])
  ·simp only[↓zaL,↓zHC,WZ,reduceIte,yA,yB,yC,yD,reduceCtorEq,yE,yF,W1]
   exact(htrue fun j hj=>hall j (by omega)).symm
 all_goals (rw[za4];simp_all)
theorem zcu(t:Ty)(k:Int):zA0 Try.prog 28 [emb t,.int .i64 k] (.bool (without k t)):=Ty.ind (p:=fun t=>zA0 Try.prog 28 [emb t,.int .i64 k] (.bool (without k t))) (fun t ih=>zcv t k ih) t
theorem zM8(k:Int):zA0 Try.prog 32 [.int .i64 k] (emb (zM6 k)):=by
 refine zSa C_ok Try.func32 rfl (by decide) (YAL rfl) (by decide) (zGx _ _) fun ok H=> ?_
 rw[Try.results32]
 have h:=YAN
 repeat' (first
  |(with_reducible first|refine bA ?_ ?_|refine bB ?_ ?_|refine bC ?_ ?_|refine bD ?_ ?_|refine bE ?_ ?_|refine bF ?_ ?_)<;>intro h
  |skip)<;>simp only[h,↓zaL,↓zHC,WZ,reduceIte,yA,yB,yC,yD,reduceCtorEq,yE,yF,W1]
 all_goals simp[zM6]
theorem zdU(k:Int)(a b:Ty):zA0 Try.prog 45 [.int .i64 k,emb a,emb b] (emb (twoT k a b)):=by
 refine zSa C_ok Try.func45 rfl (by decide) (YAL rfl) (by decide) (zGx _ _) fun ok H=> ?_
 rw[Try.results45]
 have h:=YAN
 repeat' (first
  |(with_reducible first|refine bA ?_ ?_|refine bB ?_ ?_|refine bC ?_ ?_|refine bD ?_ ?_|refine bE ?_ ?_|refine bF ?_ ?_)<;>intro h
  |skip)<;>simp only[h,↓zaL,↓zHC,WZ,reduceIte,yA,yB,yC,yD,reduceCtorEq,yE,yF,W1]
 all_goals simp[twoT]
theorem zNX(a:Ty):zA0 Try.prog 46 [emb a] (emb (zNW a)):=by
 refine zSa C_ok Try.func46 rfl (by decide) (YAL rfl) (by decide) (zGx _ _) fun ok H=> ?_
 rw[Try.results46]
 have h:=YAN
 repeat' (first
  |(with_reducible first|refine bA ?_ ?_|refine bB ?_ ?_|refine bC ?_ ?_|refine bD ?_ ?_|refine bE ?_ ?_|refine bF ?_ ?_)<;>intro h
  |skip)<;>simp only[h,↓zaL,↓zHC,WZ,reduceIte,yA,yB,yC,yD,reduceCtorEq,yE,yF,W1]
 all_goals simp[zNW]
end
section
theorem zcl(t:Ty):(List.range t.kids.length).map t.kid=t.kids:=by
 apply List.ext_getElem
 ·simp
 ·intro i h1 h2;simp at h1;simp[Ty.kid,h1]
theorem zcU(t:Ty)(hs:nodes t<=1048576)(ih:∀x∈t.kids,zA0 Try.prog 12 [emb x] (emb x)):zA0 Try.prog 12 [emb t] (emb t):=by
 refine zSa C_ok Try.func12 rfl (by decide) (YAL rfl) (by decide) (zGx _ _) fun ok H=> ?_
 rw[Try.results12]
 have h:=YAN
 repeat' (first
  |(with_reducible first|apply bA|apply bB|apply bC|apply bD|apply bE|apply bF)<;>intro h
  |refine zKg (id:=5) C_ok (fun _=>trivial) mixed 0 Try.f12.ntmps rfl (by kernel_rfl) (by decide) ?_
  |skip)<;>simp only[h,↓zaL,↓zHC,WZ,reduceIte,yA,yB,yC,yD,reduceCtorEq,yE,yF,W1]
 have hmax:t.kids.length<=maxLen:=(zG5 ok.1).1
 have hlen:=zND t
 have hroom:∀i,i<t.kids.length->((i+1)*40<=140737488355328)=True:=fun i h=>by simp only[YAb,iff_true];omega
 have hroom2:∀i,i<t.kids.length->(i+1<=9223372036854775807)=True:=fun i h=>by simp only[YAb,iff_true];omega
 have hend:∀m,¬m<t.kids.length->m<=t.kids.length->emb (.mk t.kind t.num ((List.range m).map t.kid))=emb t:=fun m h1 h2=>by rw[show m=t.kids.length by omega,zcl,Ty.eta]
 refine aloop_trim [4,1,2,3] ?_
 simp only[List.map_cons,List.map_nil,↓zaL,↓zHC,WZ,reduceIte,yA,yB,yC,yD,reduceCtorEq,yE,yF,W1]
 refine zJ2 1 2 (fun i:Nat=> [(4,.int .i64 i)]) (fun i=>match i with
  |0=> [.box [.int .i64 t.kind,.int .i64 t.num,.sl [] .full]]
  |i+1=> [.box [.int .i64 t.kind,.int .i64 t.num,.sl (((List.range (i+1)).map t.kid).map emb) (.own (H.length+3))],.tok (i+1) 3]) (fun i=>i<=t.kids.length) (fun i=>t.kids.length-i) C_ok 0 rfl rfl (YAX _) (by decide) ?_
 rintro(_|i) hi
 ·simp only[List.drop_succ_cons,List.drop_zero,List.cons_append,List.nil_append,List.take_succ_cons,List.take_zero]
  simp only[↓zaL,↓zHC,WZ,reduceIte,yA,yB,yC,yD,reduceCtorEq,yE,yF,W1]
  refine zJv (fun hlt=> ?_) (fun hlt=> ?_)
  ·have h:=YAN
   repeat' (first
    |(with_reducible first|apply bA|apply bB|apply bC|apply bD|apply bE|apply bF)<;>intro h
    |((first|apply bG|apply bH);simp only[yP,yQ,W2,hlt,zOr hlt,hroom 0 hlt,hroom2 0 hlt];first|refine zIf (ih _ (zMb hlt)) (.inl rfl) ?_|refine zIj (ih _ (zMb hlt)) (.inl rfl) ?_)
    |refine zKg (id:=5) C_ok (fun _=>trivial) mixed 0 Try.f12.ntmps rfl (by kernel_rfl) (by decide) ?_
    |skip)<;>simp only[h,↓zaL,↓zHC,WZ,reduceIte,yA,yB,yC,yD,reduceCtorEq,yE,yF,W1,hlt,zOr hlt,hroom 0 hlt,hroom2 0 hlt]
   all_goals (refine⟨0+1,hlt,by omega,zas rfl rfl rfl ?_ ?_ ?_ ?_⟩<;>(try simp only[WK,↓zaL,↓zHC,yA,reduceIte,yN,yO,yR,yP,yQ,yB,yC,zbX hlt hmax,zOq,zOu,yO,YAK])<;>(try simp[List.range_succ,zGy])<;>(try omega))
  ·simp only[↓zaL,↓zHC,WZ,reduceIte,yA,yB,yC,yD,reduceCtorEq,yE,yF,W1]
   exact hend 0 hlt hi
 ·simp only[List.drop_succ_cons,List.drop_zero,List.cons_append,List.nil_append,List.take_succ_cons,List.take_zero]
  simp only[↓zaL,↓zHC,WZ,reduceIte,yA,yB,yC,yD,reduceCtorEq,yE,yF,W1]
  refine zJv (fun hlt=> ?_) (fun hlt=> ?_)
  ·have h:=YAN
   repeat' (first
    |(with_reducible first|apply bA|apply bB|apply bC|apply bD|apply bE|apply bF)<;>intro h
    |((first|apply bG|apply bH);simp only[yP,yQ,W2,hlt,zOr hlt,hroom (i+1) hlt,hroom2 (i+1) hlt];first|refine zIf (ih _ (zMb hlt)) (.inl rfl) ?_|refine zIj (ih _ (zMb hlt)) (.inl rfl) ?_)
    |refine zKg (id:=5) C_ok (fun _=>trivial) mixed 0 Try.f12.ntmps rfl (by kernel_rfl) (by decide) ?_
    |skip)<;>simp only[h,↓zaL,↓zHC,WZ,reduceIte,yA,yB,yC,yD,reduceCtorEq,yE,yF,W1,hlt,zOr hlt,hroom (i+1) hlt,hroom2 (i+1) hlt]
   all_goals (refine⟨i+1+1,hlt,by omega,zas rfl rfl rfl ?_ ?_ ?_ ?_⟩<;>(try simp only[WK,↓zaL,↓zHC,yA,reduceIte,yN,yO,yR,yP,yQ,yB,yC,zbX hlt hmax,zOq,zOu,yO,YAK])<;>(try simp[List.range_succ,zGy])<;>(try omega))
  ·simp only[↓zaL,↓zHC,WZ,reduceIte,yA,yB,yC,yD,reduceCtorEq,yE,yF,W1]
   exact hend (i+1) hlt hi
theorem zcT(t:Ty)(hs:nodes t<=1048576):zA0 Try.prog 12 [emb t] (emb t):=
 Ty.ind (p:=fun t=>nodes t<=1048576->zA0 Try.prog 12 [emb t] (emb t)) (fun t ih hs=>zcU t hs fun x hx=>ih x hx (by have:=zch hx;omega)) t hs
end
section
def zM3(a b:Ty):Bool:=decide (a.kids.length=0)&&decide (a.kind=b.kind)&&decide (a.num=b.num)
def zNJ(a b:Ty):Bool:=decide (0<a.kids.length)&&decide (a.kind=b.kind)
theorem zq4(a b:Int):(a==b)=decide (a=b):=by by_cases h:a=b<;>simp[h]
theorem zrc(a b:Ty):zA0 Try.prog 63 [emb a,emb b] (.bool (zM3 a b)):=by
 refine eP C_ok Try.func63 Try.results63 fun ok H=> ?_
 have h:=YAN
 repeat' (first
  |(with_reducible first|refine bA ?_ ?_|refine bB ?_ ?_|refine bC ?_ ?_|refine bD ?_ ?_|refine bE ?_ ?_|refine bF ?_ ?_)<;>intro h
  |skip)<;>simp only[h,↓zaL,↓zHC,WZ,reduceIte,yA,yB,yC,yD,reduceCtorEq,yE,yF,W1]
 all_goals (simp_all [zM3,zq4]<;>(try intros)<;>(try omega))
theorem zrh(a b:Ty):zA0 Try.prog 67 [emb a,emb b] (.bool (zNJ a b)):=by
 refine eP C_ok Try.func67 Try.results67 fun ok H=> ?_
 have h:=YAN
 repeat' (first
  |(with_reducible first|refine bA ?_ ?_|refine bB ?_ ?_|refine bC ?_ ?_|refine bD ?_ ?_|refine bE ?_ ?_|refine bF ?_ ?_)<;>intro h
  |skip)<;>simp only[h,↓zaL,↓zHC,WZ,reduceIte,yA,yB,yC,yD,reduceCtorEq,yE,yF,W1]
 all_goals (simp_all [zNJ,zq4]<;>(try intros)<;>(try omega))
end
section
mutual
def cnt:Ty->Nat->Nat
 | .mk _ _ l,n=>cntL l (n+1)
def cntL:List Ty->Nat->Nat
 | [],n=>n
 |x::l,n=>if n<=600 then cntL l (cnt x n)else n
end
theorem zFE(t:Ty)(n:Nat):cnt t n=cntL t.kids (n+1):=by cases t;rfl
mutual
theorem zFF:∀(t:Ty) (n:Nat),n<cnt t n/\cnt t n<=max (n+1) 601/\(n+nodes t<=600->cnt t n=n+nodes t)/\(600<n+nodes t->600<cnt t n)
 | .mk k m l,n=>by
  have:=zE1 l (n+1)
  rw[zFE,zQZ];simp only[Ty.kids];omega
theorem zE1:∀(l:List Ty) (n:Nat),n<=cntL l n/\cntL l n<=max n 601/\(n+zQW l<=600->cntL l n=n+zQW l)/\(600<n+zQW l->600<cntL l n)
 | [],n=>by simp[cntL,zQW];omega
 |x::l,n=>by
  rw[cntL,zQW]
  split
  ·have h1:=zFF x n
   have h2:=zE1 l (cnt x n)
   omega
  ·omega
end
theorem zE2{l:List Ty}{n:Nat}(h:¬n<=600):cntL l n=n:=by cases l<;>simp[cntL,h]
theorem zFz{t:Ty}{i:Nat}(h:i<t.kids.length):t.kids.drop i=t.kid i::t.kids.drop (i+1):=by
 rw[List.drop_eq_getElem_cons h];simp[Ty.kid,h]
theorem zbV{n:Nat}(h:n<4611686018427387904):IntKind.wrap .i64 ((n:Int)+1)=((n+1:Nat):Int):=zbX h (by rw[zPC];omega)
theorem zFR(t:Ty)(n:Nat)(hn:n<=2000000)(ih:∀x∈t.kids,∀n:Nat,n<=2000000->zA0 Try.prog 53 [emb x,.int .i64 n] (.int .i64 (cnt x n))):zA0 Try.prog 53 [emb t,.int .i64 n] (.int .i64 (cnt t n)):=by
 refine eP C_ok Try.func53 Try.results53 fun ok H=> ?_
 have h:=YAN
 repeat' (first
  |(with_reducible first|apply bA|apply bB|apply bC|apply bD|apply bE|apply bF)<;>intro h
  |skip)<;>simp only[h,↓zaL,↓zHC,WZ,reduceIte,yA,yB,yC,yD,reduceCtorEq,yE,yF,W1,zbV (show n<4611686018427387904 by omega)]
 have hmax:t.kids.length<=maxLen:=(zG5 ok.1).1
 refine aloop_trim [1,5,2] ?_
 simp only[List.map_cons,List.map_nil,↓zaL,↓zHC,WZ,reduceIte,yA,yB,yC,yD,reduceCtorEq,yE,yF,W1]
 refine zJ3 2 (fun x:Nat×Nat=> [(1,.int .i64 x.2),(5,.int .i64 x.1)]) (fun _=>_) (fun x=>x.1<=t.kids.length/\x.2<=2000001/\cntL (t.kids.drop x.1) x.2=cnt t n) (fun x=>t.kids.length-x.1) C_ok (0,n+1) rfl rfl ⟨YAX _,by simp only;omega,(zFE t n).symm⟩ (by decide) ?_
 rintro⟨i,m⟩ ⟨hi,hm,hr⟩
 simp only at hi hm hr
 simp only[List.drop_succ_cons,List.drop_zero,List.cons_append,List.nil_append]
 simp only[↓zaL,↓zHC,WZ,reduceIte,yA,yB,yC,yD,reduceCtorEq,yE,yF,W1]
 refine zJk (fun hlt=> ?_) (fun hlt=> ?_)
 ·simp only[hlt,↓zaL,↓zHC,WZ,reduceIte,yA,yB,yC,yD,reduceCtorEq,yE,yF,W1]
  refine zJv (fun h6=> ?_) (fun h6=> ?_)
  ·have h6':m<=600:=by omega
   have h:=YAN
   repeat' (first
    |(with_reducible first|apply bA|apply bB|apply bC|apply bD|apply bE|apply bF)<;>intro h
    |((first|apply bG|apply bH);simp only[yP,yQ,W2,hlt,zOr hlt];first|refine zIf (ih _ (zMb hlt) m (by omega)) (.inl rfl) ?_|refine zIj (ih _ (zMb hlt) m (by omega)) (.inl rfl) ?_)
    |skip)<;>simp only[h,↓zaL,↓zHC,WZ,reduceIte,yA,yB,yC,yD,reduceCtorEq,yE,yF,W1,hlt,zOr hlt]
   have hc:=zFF (t.kid i) m
   refine⟨(i+1,cnt (t.kid i) m),⟨hlt,by simp only;omega,?_⟩,by simp only;omega,zas rfl rfl rfl rfl ?_ ?_ ?_⟩
   ·rw[<-hr,zFz hlt,cntL,if_pos h6']
   all_goals simp only[WK,↓zaL,↓zHC,yA,reduceIte,yN,yO,yR,yP,yQ,yB,yC,zbX hlt hmax,zOq,yO,YAK]
  ·simp only[hlt,↓zaL,↓zHC,WZ,reduceIte,yA,yB,yC,yD,reduceCtorEq,yE,yF,W1]
   rw[<-hr,zE2 (by omega)]
 ·simp only[hlt,↓zaL,↓zHC,WZ,reduceIte,yA,yB,yC,yD,reduceCtorEq,yE,yF,W1]
  rw[<-hr,List.drop_of_length_le (by omega)];rfl
theorem zFQ:∀(t:Ty) (n:Nat),n<=2000000->zA0 Try.prog 53 [emb t,.int .i64 n] (.int .i64 (cnt t n)):=
 Ty.ind (p:=fun t=>∀n:Nat,n<=2000000->zA0 Try.prog 53 [emb t,.int .i64 n] (.int .i64 (cnt t n))) fun t ih n hn=>zFR t n hn fun x hx n hn=>ih x hx n hn
def heavy(l:List Ty):Bool:=decide (600<zQW l)
def cntF:List Ty->Nat->Nat
 | [],n=>n
 |x::l,n=>cntF l (cnt x n)
theorem zE0:∀(l:List Ty) (n:Nat),n<=cntF l n/\(n+zQW l<=600->cntF l n=n+zQW l)/\(600<n+zQW l->600<cntF l n)
 | [],n=>by simp[cntF,zQW]
 |x::l,n=>by
  have h1:=zFF x n
  have h2:=zE0 l (cnt x n)
  rw[cntF,zQW];omega
theorem zLN(l:List Ty):heavy l=decide ((cntF l 0:Int)>600):=by
 have:=zE0 l 0
 unfold heavy
 by_cases h:600<zQW l
 ·simp only[h,decide_true];rw[eq_comm,YAa];omega
 ·simp only[h,decide_false];rw[eq_comm,decide_eq_false_iff_not];omega
theorem zLQ(l:List Ty)(hl:l.length<=1000000):zA0 Try.prog 34 [.sl (l.map emb) .no] (.bool (heavy l)):=by
 refine eP C_ok Try.func34 Try.results34 fun ok H=> ?_
 have h:=YAN
 repeat' (first
  |(with_reducible first|apply bA|apply bB|apply bC|apply bD|apply bE|apply bF)<;>intro h
  |skip)<;>simp only[h,↓zaL,↓zHC,WZ,reduceIte,yA,yB,yC,yD,reduceCtorEq,yE,yF,W1]
 have hmax:l.length<=maxLen:=by rw[zPC];omega
 refine aloop_trim [3,4,0] ?_
 simp only[List.map_cons,List.map_nil,↓zaL,↓zHC,WZ,reduceIte,yA,yB,yC,yD,reduceCtorEq,yE,yF,W1]
 refine zJ3 2 (fun x:Nat×Nat=> [(3,.int .i64 x.2),(4,.int .i64 x.1)]) (fun _=>_) (fun x=>x.1<=l.length/\x.2<=601+x.1/\cntF (l.drop x.1) x.2=cntF l 0) (fun x=>l.length-x.1) C_ok (0,0) rfl rfl ⟨YAX _,by simp only;omega,rfl⟩ (by decide) ?_
 rintro⟨i,m⟩ ⟨hi,hm,hr⟩
 simp only at hi hm hr
 simp only[List.drop_succ_cons,List.drop_zero,List.cons_append,List.nil_append]
 simp only[↓zaL,↓zHC,WZ,reduceIte,yA,yB,yC,yD,reduceCtorEq,yE,yF,W1]
 refine zJv (fun hlt=> ?_) (fun hlt=> ?_)
 ·have hget:(l.map emb).getD i .any=emb (l.getD i default):=by simp[hlt]
  have h:=YAN
  repeat' (first
   |(with_reducible first|apply bA|apply bB|apply bC|apply bD|apply bE|apply bF)<;>intro h
   |((first|apply bG|apply bH);simp only[yP,yQ,W2,hlt,hget];first|refine zIf (zFQ _ m (by omega)) (.inl rfl) ?_|refine zIj (zFQ _ m (by omega)) (.inl rfl) ?_)
   |skip)<;>simp only[h,↓zaL,↓zHC,WZ,reduceIte,yA,yB,yC,yD,reduceCtorEq,yE,yF,W1,hlt,hget]
  have hc:=zFF (l.getD i default) m
  refine⟨(i+1,cnt (l.getD i default) m),⟨hlt,by simp only;omega,?_⟩,by simp only;omega,zat rfl rfl rfl rfl ?_⟩
  ·rw[<-hr,List.drop_eq_getElem_cons hlt,cntF];simp[hlt]
  all_goals simp only[WK,↓zaL,↓zHC,yA,reduceIte,yN,yO,yR,yP,yQ,yB,yC,zbX hlt hmax,zOq,yO,YAK]
 ·simp only[↓zaL,↓zHC,WZ,reduceIte,yA,yB,yC,yD,reduceCtorEq,yE,yF,W1]
  rw[zLN,<-hr,List.drop_of_length_le (by omega)];rfl
theorem zLH(a:Ty):zA0 Try.prog 34 [.sl [emb a] .no] (.bool (heavy [a])):=zLQ [a] (by simp)
theorem zLP{l:List Ty}(h:¬heavy l=true){t:Ty}(ht:t∈l):nodes t<=600:=by
 have h1:=zQY ht
 simp only[heavy,YAa]at h
 omega
end
section
def zKw(t:Ty):Ty:=if right t=true/\zLB t.kind=true then ground t else zQf
def zK6(t:Ty):Bool:=right t&&zLB t.kind
end
section
def ofT(k:Int):Ty:= .mk k 0 (List.replicate (arity k).toNat dynT)
end
section
def fine(l:List Ty):Bool:= !heavy l&&zTu l
end
end Go.Proofs.Ytmpegnogdgbleaa
