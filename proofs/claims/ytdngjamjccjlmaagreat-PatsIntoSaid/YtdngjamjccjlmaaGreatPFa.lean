/- Lemmas: the functions of types, first part. No condition. -/
import Derived.Test.YtdngjamjccjlmaaGreatPMa
set_option linter.unusedSimpArgs false
set_option linter.unusedVariables false
set_option maxHeartbeats 4000000
namespace Go.Proofs.YtdngjamjccjlmaaGreat
open Go Go.Ab
open Nat renaming reduceEqDiff -> yA, reduceAdd -> yB, reduceLT -> yC, reduceLeDiff -> yD, reduceMul -> yE, reducePow -> yF
open AV renaming belL -> yO, bel -> yN, normL -> yQ, norm -> yP
open AObj renaming bel -> yR
attribute [local irreducible] zA0 zAA zAa zAi zAj GoIf GoGb zAk GoO GoD GoX GoDX GoG GoDG GoGv zAl Go zAB
section
theorem zOr{t:Ty}{i:Nat}(h:i<t.kids.length):(t.kids.map emb).getD i .any=emb (t.kid i):=by simp[h,Ty.kid]
theorem zMb{t:Ty}{i:Nat}(h:i<t.kids.length):t.kid i∈t.kids:=by simp[h,Ty.kid]
theorem zCn(k:Int):zA0 Tryz.prog 91 [.int .i64 k] (.int .i64 (arity k)):=by
 refine eP C_ok Tryz.func91 Tryz.results91 fun ok H=> ?_
 have h:=YAN
 repeat' (first
  |(with_reducible first|refine bA ?_ ?_|refine bB ?_ ?_|refine bC ?_ ?_|refine bD ?_ ?_|refine bE ?_ ?_|refine bF ?_ ?_)<;>intro h
  |skip)<;>simp only[h,↓zaL,WZ,yA,reduceCtorEq,W1]
 all_goals (simp only[beq_iff_eq,YAZ]at*;unfold arity;(repeat' split)<;>omega)
theorem zMg(k:Int):zA0 Tryz.prog 22 [.int .i64 k] (.int .i64 (arity k)):=by
 refine eP C_ok Tryz.func22 Tryz.results22 fun ok H=> ?_
 have h:=YAN
 repeat' (first
  |(with_reducible first|refine bA ?_ ?_|refine bB ?_ ?_|refine bC ?_ ?_|refine bD ?_ ?_|refine bE ?_ ?_|refine bF ?_ ?_)<;>intro h
  |skip)<;>simp only[h,↓zaL,WZ,yA,reduceCtorEq,W1]
 all_goals (simp only[beq_iff_eq,YAZ]at*;unfold arity;(repeat' split)<;>omega)
theorem right_step(t:Ty)(ih:∀x∈t.kids,zA0 Tryz.prog 79 [emb x] (.bool (right x))):zA0 Tryz.prog 79 [emb t] (.bool (right t)):=by
 refine eP C_ok Tryz.func79 Tryz.results79 fun ok H=> ?_
 have h:=YAN
 repeat' (first
  |(with_reducible first|refine bA ?_ ?_|refine bB ?_ ?_|refine bC ?_ ?_|refine bD ?_ ?_|refine bE ?_ ?_|refine bF ?_ ?_)<;>intro h
  |((first|apply bG|apply bH);simp only[yP,yQ];refine zIf (zCn _) (.inl rfl) ?_)
  |skip)<;>simp only[h,↓zaL,WZ,yA,yB,yC,W1]
 all_goals have hmax:t.kids.length<=maxLen:=(zG5 ok.1).1
 case refine_2.refine_2.refine_2.refine_2=>
  have hN:okN t=true:=by simp_all [okN]
  have hfalse:∀i,i<t.kids.length->right (t.kid i)=false->right t=false:=fun i h1 h2=>by rw[right_eq,zB4 h1 h2];simp
  have htrue:(∀i,i<t.kids.length->right (t.kid i)=true)->right t=true:=fun h=>by rw[right_eq,zB7 h,hN];rfl
  refine aloop_trim [35,33,34] ?_
  simp only[List.map_cons,List.map_nil,↓zaL,WZ,yA]
  refine zJ3 1 (fun i:Nat=> [(35,.int .i64 i)]) (fun _=>_) (fun i=>i<=t.kids.length/\∀j,j<i->(fun j=>right (t.kid j)) j=true) (fun i=>t.kids.length-i) C_ok 0 rfl rfl ⟨YAX _,by simp⟩ (by decide) ?_
  rintro i ⟨hi,hall⟩
  simp only[List.drop_succ_cons,List.drop_zero,List.cons_append,List.nil_append]
  simp only[↓zaL,↓zHC,WZ,yA,W1]
  refine zJv (fun hlt=> ?_) (fun hlt=> ?_)
  ·have h:=YAN
   repeat' (first
    |(with_reducible first|refine bA ?_ ?_|refine bB ?_ ?_|refine bC ?_ ?_|refine bD ?_ ?_|refine bE ?_ ?_|refine bF ?_ ?_)<;>intro h
    |((first|apply bG|apply bH);simp only[yQ,W2];refine zIf (ih _ (zMb hlt)) (.inl rfl) ?_)
    |skip)<;>simp only[h,↓zaL,↓zHC,WZ,yA,yB,W1,hlt,zOr hlt]
   all_goals first
    |exact(hfalse i hlt (by first|assumption|simp only[*])).symm
    | (refine⟨i+1,⟨by omega,fun j hj=> ?_⟩,by omega,zas rfl rfl rfl rfl ?_ ?_ ?_⟩
       ·rcases Nat.lt_succ_iff_lt_or_eq.1 hj with hj|rfl
        ·exact hall j hj
        ·first|assumption|simp only[*]
       all_goals simp only[WK,↓zaL,↓zHC,yA,yN,yO,yR,yP,zbX hlt hmax,zOq,yO])
  ·simp only[↓zaL,↓zHC,WZ,yA,reduceCtorEq]
   exact(htrue fun j hj=>hall j (by omega)).symm
 all_goals rw[right_eq]
 case refine_2.refine_2.refine_1.refine_1|refine_2.refine_2.refine_1.refine_2=>
  have hk:t.kids.length=0:=by simp_all [arity]
  rw[hk,zB8];simp_all [okN]<;>(try intros)<;>(try omega)
 all_goals (simp_all [okN]<;>(try intros)<;>(try omega))
theorem zT2(t:Ty):zA0 Tryz.prog 79 [emb t] (.bool (right t)):=Ty.ind right_step t
theorem zEj(t:Ty):zA0 Tryz.prog 55 [emb t] (.int .i64 (if right t=true then 0 else 1)):=by
 refine eP C_ok Tryz.func55 Tryz.results55 fun ok H=> ?_
 have h:=YAN
 repeat' (first
  |(with_reducible first|refine bA ?_ ?_|refine bB ?_ ?_|refine bC ?_ ?_|refine bD ?_ ?_|refine bE ?_ ?_|refine bF ?_ ?_)<;>intro h
  |((first|apply bG|apply bH);simp only[yQ,W2];refine zIf (zT2 _) (.inl rfl) ?_)
  |skip)<;>simp only[h,↓zaL,WZ,yA,yB,W1]
 all_goals simp_all
theorem za6(t:Ty)(k:Int)(ih:∀x∈t.kids,zA0 Tryz.prog 80 [emb x,.int .i64 k] (.bool (without k x))):zA0 Tryz.prog 80 [emb t,.int .i64 k] (.bool (without k t)):=by
 refine eP C_ok Tryz.func80 Tryz.results80 fun ok H=> ?_
 have h:=YAN
 repeat' (first
  |(with_reducible first|refine bA ?_ ?_|refine bB ?_ ?_|refine bC ?_ ?_|refine bD ?_ ?_|refine bE ?_ ?_|refine bF ?_ ?_)<;>intro h
  |skip)<;>simp only[h,↓zaL,WZ,yA,yB,W1]
 all_goals have hmax:t.kids.length<=maxLen:=(zG5 ok.1).1
 case refine_2=>
  have hfalse:∀i,i<t.kids.length->without k (t.kid i)=false->without k t=false:=fun i h1 h2=>by rw[za4,zB4 h1 h2];simp
  have htrue:(∀i,i<t.kids.length->without k (t.kid i)=true)->without k t=true:=fun h=>by rw[za4,zB7 h];simp_all
  refine aloop_trim [14,1,12,13] ?_
  simp only[List.map_cons,List.map_nil,↓zaL,WZ,yA]
  refine zJ3 1 (fun i:Nat=> [(14,.int .i64 i)]) (fun _=>_) (fun i=>i<=t.kids.length/\∀j,j<i->(fun j=>without k (t.kid j)) j=true) (fun i=>t.kids.length-i) C_ok 0 rfl rfl ⟨YAX _,by simp⟩ (by decide) ?_
  rintro i ⟨hi,hall⟩
  simp only[List.drop_succ_cons,List.drop_zero,List.cons_append,List.nil_append]
  simp only[↓zaL,↓zHC,WZ,yA,W1]
  refine zJv (fun hlt=> ?_) (fun hlt=> ?_)
  ·have h:=YAN
   repeat' (first
    |(with_reducible first|refine bA ?_ ?_|refine bB ?_ ?_|refine bC ?_ ?_|refine bD ?_ ?_|refine bE ?_ ?_|refine bF ?_ ?_)<;>intro h
    |((first|apply bG|apply bH);simp only[yP,yQ,W2];refine zIf (ih _ (zMb hlt)) (.inl rfl) ?_)
    |skip)<;>simp only[h,↓zaL,↓zHC,WZ,yA,yB,W1,hlt,zOr hlt]
   all_goals first
    |exact(hfalse i hlt (by first|assumption|simp only[*])).symm
    | (refine⟨i+1,⟨by omega,fun j hj=> ?_⟩,by omega,zas rfl rfl rfl rfl ?_ ?_ ?_⟩
       ·rcases Nat.lt_succ_iff_lt_or_eq.1 hj with hj|rfl
        ·exact hall j hj
        ·first|assumption|simp only[*]
       all_goals simp only[WK,↓zaL,↓zHC,yA,yN,yO,yR,yP,zbX hlt hmax,zOq,yO])
  ·simp only[↓zaL,↓zHC,WZ,yA,reduceCtorEq]
   exact(htrue fun j hj=>hall j (by omega)).symm
 all_goals (rw[za4];simp_all)
theorem za5(t:Ty)(k:Int):zA0 Tryz.prog 80 [emb t,.int .i64 k] (.bool (without k t)):=Ty.ind (p:=fun t=>zA0 Tryz.prog 80 [emb t,.int .i64 k] (.bool (without k t))) (fun t ih=>za6 t k ih) t
theorem zEu(t:Ty):zA0 Tryz.prog 57 [emb t] (.bool (without 6 t)):=by
 refine eP C_ok Tryz.func57 Tryz.results57 fun ok H=> ?_
 repeat' (first
  |((first|apply bG|apply bH);simp only[yP,yQ,W2];refine zIf (za5 _ _) (.inl rfl) ?_)
  |skip)<;>simp only[↓zaL,WZ,yA,yB,W1]
end
section
theorem zUb(t:Ty)(ih:∀x∈t.kids,zA0 Tryz.prog 6 [emb x] (.bool (right x))):zA0 Tryz.prog 6 [emb t] (.bool (right t)):=by
 refine eP C_ok Tryz.func6 Tryz.results6 fun ok H=> ?_
 have h:=YAN
 repeat' (first
  |(with_reducible first|apply bA|apply bB|apply bC|apply bD|apply bE|apply bF)<;>intro h
  |((first|apply bG|apply bH);simp only[yP,yQ];refine zIj (zMg _) (.inl rfl) ?_)
  |refine zKg (id:=1) C_ok (fun _=>trivial) mixed 0 Tryz.f6.ntmps rfl (by kernel_rfl) (by decide) ?_
  |skip)<;>simp only[h,↓zaL,WZ,yA,yB,yC,W1]
 all_goals have hmax:t.kids.length<=maxLen:=(zG5 ok.1).1
 all_goals first
  | (have hN:okN t=true:=by(simp_all [okN]<;>(try intros)<;>(try omega))
     have hfalse:∀i,i<t.kids.length->right (t.kid i)=false->right t=false:=fun i h1 h2=>by rw[right_eq,zB4 h1 h2];simp
     have htrue:(∀i,i<t.kids.length->right (t.kid i)=true)->right t=true:=fun h=>by rw[right_eq,zB7 h,hN];rfl
     refine aloop_trim [3,1] ?_
     simp only[List.map_cons,List.map_nil,↓zaL,WZ,yA]
     refine zJ3 1 (fun i:Nat=> [(3,.int .i64 i)]) (fun _=>_) (fun i=>i<=t.kids.length/\∀j,j<i->(fun j=>right (t.kid j)) j=true) (fun i=>t.kids.length-i) C_ok 0 rfl rfl ⟨YAX _,by simp⟩ (by decide) ?_
     rintro i ⟨hi,hall⟩
     simp only[List.drop_succ_cons,List.drop_zero,List.cons_append,List.nil_append]
     simp only[↓zaL,↓zHC,WZ,yA,yB,W1]
     refine zJv (fun hlt=> ?_) (fun hlt=> ?_)
     ·have h:=YAN
      repeat' (first
       |(with_reducible first|apply bA|apply bB|apply bC|apply bD|apply bE|apply bF)<;>intro h
       |((first|apply bG|apply bH);simp only[yQ,W2];refine zIf (ih _ (zMb hlt)) (.inl rfl) ?_)
       |skip)<;>simp only[h,↓zaL,↓zHC,WZ,yA,yB,W1,hlt,zOr hlt]
      all_goals first
       |exact(hfalse i hlt (by first|assumption|simp only[*])).symm
       | (refine⟨i+1,⟨by omega,fun j hj=> ?_⟩,by omega,zas rfl rfl rfl rfl ?_ ?_ ?_⟩
          ·rcases Nat.lt_succ_iff_lt_or_eq.1 hj with hj|rfl
           ·exact hall j hj
           ·first|assumption|simp only[*]
          all_goals simp only[WK,↓zaL,↓zHC,yA,yN,yO,yR,yP,zbX hlt hmax,zOq,yO])
     ·simp only[↓zaL,↓zHC,WZ,yA,reduceCtorEq]
      exact(htrue fun j hj=>hall j (by omega)).symm)
  |(rw[right_eq];by_cases h6:t.kind=6<;>simp_all [okN]<;>(try intros)<;>(try omega))
theorem zUa(t:Ty):zA0 Tryz.prog 6 [emb t] (.bool (right t)):=Ty.ind zUb t
theorem zM8(k:Int):zA0 Tryz.prog 26 [.int .i64 k] (emb (zM6 k)):=by
 refine zSa C_ok Tryz.func26 rfl (by decide) (YAL rfl) (by decide) (zGx _ _) fun ok H=> ?_
 rw[Tryz.results26]
 repeat' simp only[↓zaL,WZ,yA,yB,yD,reduceCtorEq,W1]
 all_goals simp[zM6]
theorem zNX(a:Ty):zA0 Tryz.prog 28 [emb a] (emb (zNW a)):=by
 refine zSa C_ok Tryz.func28 rfl (by decide) (YAL rfl) (by decide) (zGx _ _) fun ok H=> ?_
 rw[Tryz.results28]
 repeat' simp only[↓zaL,WZ,yA,yB,yD,yE,yF,W1]
 all_goals simp[zNW]
end
section
def zM3(a b:Ty):Bool:=decide (a.kids.length=0)&&decide (a.kind=b.kind)&&decide (a.num=b.num)
def zNJ(a b:Ty):Bool:=decide (0<a.kids.length)&&decide (a.kind=b.kind)
end
section
mutual
def cnt:Ty->Nat->Nat
 | .mk _ _ l,n=>cntL l (n+1)
def cntL:List Ty->Nat->Nat
 | [],n=>n
 |x::l,n=>if n<=600 then cntL l (cnt x n)else n
end
theorem zFE(t:Ty)(n:Nat):cnt t n=cntL t.kids (n+1):=by cases t;rfl
mutual
theorem zFF:∀(t:Ty) (n:Nat),n<cnt t n/\cnt t n<=max (n+1) 601/\(n+nodes t<=600->cnt t n=n+nodes t)/\(600<n+nodes t->600<cnt t n)
 | .mk k m l,n=>by
  have:=zE1 l (n+1)
  rw[zFE,zQZ];simp only[Ty.kids];omega
theorem zE1:∀(l:List Ty) (n:Nat),n<=cntL l n/\cntL l n<=max n 601/\(n+zQW l<=600->cntL l n=n+zQW l)/\(600<n+zQW l->600<cntL l n)
 | [],n=>by simp[cntL,zQW];omega
 |x::l,n=>by
  rw[cntL,zQW]
  split
  ·have h1:=zFF x n
   have h2:=zE1 l (cnt x n)
   omega
  ·omega
end
theorem zE2{l:List Ty}{n:Nat}(h:¬n<=600):cntL l n=n:=by cases l<;>simp[cntL,h]
theorem zFz{t:Ty}{i:Nat}(h:i<t.kids.length):t.kids.drop i=t.kid i::t.kids.drop (i+1):=by
 rw[List.drop_eq_getElem_cons h];simp[Ty.kid,h]
theorem zhG{n:Nat}(h:n<4611686018427387904):IntKind.wrap .i64 (n:Int)=n:=
 wrap_id .i64 _ (by show(-9223372036854775808:Int)<=_;omega) (by show _<=(9223372036854775807:Int);omega)
theorem zbV{n:Nat}(h:n<4611686018427387904):IntKind.wrap .i64 ((n:Int)+1)=((n+1:Nat):Int):=zbX h (by rw[zPC];omega)
theorem zhH{n m:Nat}(h:n+m<4611686018427387904):IntKind.wrap .i64 ((n:Int)+m)=((n+m:Nat):Int):=by rw[<-Int.natCast_add];exact zhG h
theorem zFR(t:Ty)(n:Nat)(hn:n<=2000000)(ih:∀x∈t.kids,∀n:Nat,n<=2000000->zA0 Tryz.prog 49 [emb x,.int .i64 n] (.int .i64 (cnt x n))):zA0 Tryz.prog 49 [emb t,.int .i64 n] (.int .i64 (cnt t n)):=by
 refine eP C_ok Tryz.func49 Tryz.results49 fun ok H=> ?_
 repeat' simp only[↓zaL,WZ,yA,W1,zbV (show n<4611686018427387904 by omega)]
 have hmax:t.kids.length<=maxLen:=(zG5 ok.1).1
 refine aloop_trim [1,5,2] ?_
 simp only[List.map_cons,List.map_nil,↓zaL,WZ,yA]
 refine zJ3 2 (fun x:Nat×Nat=> [(1,.int .i64 x.2),(5,.int .i64 x.1)]) (fun _=>_) (fun x=>x.1<=t.kids.length/\x.2<=2000001/\cntL (t.kids.drop x.1) x.2=cnt t n) (fun x=>t.kids.length-x.1) C_ok (0,n+1) rfl rfl ⟨YAX _,by simp only;omega,(zFE t n).symm⟩ (by decide) ?_
 rintro⟨i,m⟩ ⟨hi,hm,hr⟩
 simp only at hi hm hr
 simp only[List.drop_succ_cons,List.drop_zero,List.cons_append,List.nil_append]
 simp only[↓zaL,↓zHC,WZ,yA,yB,W1]
 refine zJk (fun hlt=> ?_) (fun hlt=> ?_)
 ·simp only[hlt,↓zaL,↓zHC,WZ,yA,W1]
  refine zJv (fun h6=> ?_) (fun h6=> ?_)
  ·have h6':m<=600:=by omega
   repeat' (first
    |((first|apply bG|apply bH);simp only[yP,yQ,W2];refine zIf (ih _ (zMb hlt) m (by omega)) (.inl rfl) ?_)
    |skip)<;>simp only[↓zaL,↓zHC,WZ,yA,yB,W1,hlt,zOr hlt]
   have hc:=zFF (t.kid i) m
   refine⟨(i+1,cnt (t.kid i) m),⟨hlt,by simp only;omega,?_⟩,by simp only;omega,zas rfl rfl rfl rfl ?_ ?_ ?_⟩
   ·rw[<-hr,zFz hlt,cntL,if_pos h6']
   all_goals simp only[WK,↓zaL,↓zHC,yA,yN,yO,yR,yP,zbX hlt hmax,zOq,yO]
  ·simp only[↓zaL,↓zHC,WZ,yA,reduceCtorEq]
   rw[<-hr,zE2 (by omega)]
 ·simp only[hlt,↓zaL,↓zHC,WZ,yA,reduceCtorEq]
  rw[<-hr,List.drop_of_length_le (by omega)];rfl
theorem zFQ:∀(t:Ty) (n:Nat),n<=2000000->zA0 Tryz.prog 49 [emb t,.int .i64 n] (.int .i64 (cnt t n)):=
 Ty.ind (p:=fun t=>∀n:Nat,n<=2000000->zA0 Tryz.prog 49 [emb t,.int .i64 n] (.int .i64 (cnt t n))) fun t ih n hn=>zFR t n hn fun x hx n hn=>ih x hx n hn
def heavy(l:List Ty):Bool:=decide (600<zQW l)
def cntF:List Ty->Nat->Nat
 | [],n=>n
 |x::l,n=>cntF l (cnt x n)
theorem zE0:∀(l:List Ty) (n:Nat),n<=cntF l n/\(n+zQW l<=600->cntF l n=n+zQW l)/\(600<n+zQW l->600<cntF l n)
 | [],n=>by simp[cntF,zQW]
 |x::l,n=>by
  have h1:=zFF x n
  have h2:=zE0 l (cnt x n)
  rw[cntF,zQW];omega
theorem zLN(l:List Ty):heavy l=decide ((cntF l 0:Int)>600):=by
 have:=zE0 l 0
 unfold heavy
 by_cases h:600<zQW l
 ·simp only[h,decide_true];rw[eq_comm,YAa];omega
 ·simp only[h,decide_false];rw[eq_comm,decide_eq_false_iff_not];omega
theorem zLQ(l:List Ty)(hl:l.length<=1000000):zA0 Tryz.prog 19 [.sl (l.map emb) .no] (.bool (heavy l)):=by
 refine eP C_ok Tryz.func19 Tryz.results19 fun ok H=> ?_
 repeat' simp only[WZ]
 have hmax:l.length<=maxLen:=by rw[zPC];omega
 refine aloop_trim [3,4,0] ?_
 simp only[List.map_cons,List.map_nil,↓zaL,WZ,yA,reduceCtorEq]
 refine zJ3 2 (fun x:Nat×Nat=> [(3,.int .i64 x.2),(4,.int .i64 x.1)]) (fun _=>_) (fun x=>x.1<=l.length/\x.2<=601+x.1/\cntF (l.drop x.1) x.2=cntF l 0) (fun x=>l.length-x.1) C_ok (0,0) rfl rfl ⟨YAX _,by simp only;omega,rfl⟩ (by decide) ?_
 rintro⟨i,m⟩ ⟨hi,hm,hr⟩
 simp only at hi hm hr
 simp only[List.drop_succ_cons,List.drop_zero,List.cons_append,List.nil_append]
 simp only[↓zaL,↓zHC,WZ,yA,reduceCtorEq,W1]
 refine zJv (fun hlt=> ?_) (fun hlt=> ?_)
 ·have hget:(l.map emb).getD i .any=emb (l.getD i default):=by simp[hlt]
  repeat' (first
   |((first|apply bG|apply bH);simp only[yP,yQ,W2];refine zIf (zFQ _ m (by omega)) (.inl rfl) ?_)
   |skip)<;>simp only[↓zaL,↓zHC,WZ,yA,yB,reduceCtorEq,W1,hlt,hget]
  have hc:=zFF (l.getD i default) m
  refine⟨(i+1,cnt (l.getD i default) m),⟨hlt,by simp only;omega,?_⟩,by simp only;omega,zat rfl rfl rfl rfl ?_⟩
  ·rw[<-hr,List.drop_eq_getElem_cons hlt,cntF];simp[hlt]
  all_goals simp only[WK,↓zaL,↓zHC,yA,yP,zbX hlt hmax]
 ·simp only[↓zaL,↓zHC,WZ,yA,reduceCtorEq,W1]
  rw[zLN,<-hr,List.drop_of_length_le (by omega)];rfl
theorem zLH(a:Ty):zA0 Tryz.prog 19 [.sl [emb a] .no] (.bool (heavy [a])):=zLQ [a] (by simp)
theorem zLP{l:List Ty}(h:¬heavy l=true){t:Ty}(ht:t∈l):nodes t<=600:=by
 have h1:=zQY ht
 simp only[heavy,YAa]at h
 omega
end
section
def zKw(t:Ty):Ty:=if right t=true/\zLB t.kind=true then ground t else zQf
def zK6(t:Ty):Bool:=right t&&zLB t.kind
end
section
def ofT(k:Int):Ty:= .mk k 0 (List.replicate (arity k).toNat dynT)
end
section
theorem zg1{t:Ty}{i:Nat}(h:i<t.kids.length):t.kids.take (i+1)=t.kids.take i++ [t.kid i]:=by
 rw[List.take_succ_eq_append_getElem h];simp[Ty.kid,h]
theorem ze4{t:Ty}{i:Nat}(h:i<t.kids.length):zQW (t.kids.take (i+1))=zQW (t.kids.take i)+nodes (t.kid i):=by
 rw[zg1 h,zQX];simp[zQW]
theorem ze5(l:List Ty)(i:Nat):zQW (l.take i)<=zQW l:=by
 have:=zQX (l.take i) (l.drop i);rw[List.take_append_drop]at this;omega
theorem zgT(t:Ty)(hs:nodes t<=1000000000)(ih:∀x∈t.kids,zA0 Tryz.prog 7 [emb x] (.int .i64 (nodes x))):zA0 Tryz.prog 7 [emb t] (.int .i64 (nodes t)):=by
 refine eP C_ok Tryz.func7 Tryz.results7 fun ok H=> ?_
 have h:=YAN
 repeat' simp only[WZ,W1]
 have hmax:t.kids.length<=maxLen:=(zG5 ok.1).1
 have hn:=zQZ t
 have hnext:∀i,i<t.kids.length->IntKind.wrap .i64 (((1+zQW (t.kids.take i):Nat):Int)+(nodes (t.kid i):Int))=((1+zQW (t.kids.take (i+1)):Nat):Int):=fun i h=>by
  have:=ze5 t.kids (i+1)
  rw[ze4 h]at this⊢
  rw[zhH (by omega)];congr 1;omega
 have hend:∀m,¬m<t.kids.length->m<=t.kids.length->((1+zQW (t.kids.take m):Nat):Int)=(nodes t:Int):=fun m h1 h2=>by rw[List.take_of_length_le (by omega),hn]
 refine aloop_trim [3,4,1] ?_
 simp only[List.map_cons,List.map_nil,↓zaL,WZ,yA]
 refine zJ3 2 (fun i:Nat=> [(3,.int .i64 (((fun i=>1+zQW (t.kids.take i)) i:Nat):Int)),(4,.int .i64 (i:Int))]) (fun _=>_) (fun i=>i<=t.kids.length) (fun i=>t.kids.length-i) C_ok 0 rfl rfl (YAX _) (by decide) ?_
 intro i hi
 simp only[List.drop_succ_cons,List.drop_zero,List.cons_append,List.nil_append]
 simp only[↓zaL,↓zHC,WZ,yA,yB,W1]
 refine zJv (fun hlt=> ?_) (fun hlt=> ?_)
 ·have h:=YAN
  repeat' (first
   |((first|apply bG|apply bH);simp only[yQ,W2];refine zIf (ih _ (zMb hlt)) (.inl rfl) ?_)
   |skip)<;>simp only[h,↓zaL,↓zHC,WZ,yA,yB,W1,hlt,zOr hlt]
  refine⟨i+1,hlt,by omega,zas rfl rfl rfl rfl ?_ ?_ ?_⟩<;>simp only[WK,↓zaL,↓zHC,yA,yN,yO,yR,yP,zbX hlt hmax,hnext i hlt,zOq,yO]
 ·simp only[↓zaL,↓zHC,WZ,yA,reduceCtorEq]
  exact hend i hlt hi
theorem zgS(t:Ty)(hs:nodes t<=1000000000):zA0 Tryz.prog 7 [emb t] (.int .i64 (nodes t)):=
 Ty.ind (p:=fun t=>nodes t<=1000000000->zA0 Tryz.prog 7 [emb t] (.int .i64 (nodes t))) (fun t ih hs=>zgT t hs fun x hx=>ih x hx (by have:=zch hx;omega)) t hs
def fine(l:List Ty):Bool:= !heavy l&&zTu l
end
end Go.Proofs.YtdngjamjccjlmaaGreat
