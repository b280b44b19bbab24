/- Layer 11: what the laws of Under say, on trees; types of few nodes. No condition. -/
import Derived.Test.YtmpegnogdgbleaaUU
import Derived.Test.YtmpegnogdgbleaaEB
import Derived.Test.YtmpegnogdgbleaaED
set_option linter.unusedSimpArgs false
set_option linter.unusedVariables false
set_option maxHeartbeats 4000000
set_option maxRecDepth 100000
namespace Go.Proofs.Ytmpegnogdgbleaa
open Go Go.Ab
open Nat renaming reduceEqDiff -> yA, reduceAdd -> yB, reduceLT -> yC, reduceLeDiff -> yD, reduceMul -> yE, reducePow -> yF
open Int renaming reduceAdd -> yH, reduceLT -> yI, reduceToNat -> yJ, reduceBEq -> yK, reduceBNe -> yL, reduceLE -> yM
open AV renaming belL -> yO, bel -> yN, normL -> yQ, norm -> yP
open AObj renaming bel -> yR
attribute [local irreducible] zA0 zAA zAa zAi zAj GoIf GoGb zAk GoO GoD GoX GoDX GoG GoDG GoGv zAl Go zAB
mutual
def cnt6:Ty->Nat->Nat
 | .mk _ _ l,n=>ziB l (n+1)
def ziB:List Ty->Nat->Nat
 | [],n=>n
 |x::l,n=>if n<=60 then ziB l (cnt6 x n)else n
end
theorem ziE(t:Ty)(n:Nat):cnt6 t n=ziB t.kids (n+1):=by cases t;rfl
mutual
theorem ziG:∀(t:Ty) (n:Nat),n<cnt6 t n/\cnt6 t n<=max (n+1) 61/\(60<n+nodes t->60<cnt6 t n)
 | .mk k m l,n=>by
  have:=ziC l (n+1)
  rw[ziE,zQZ];simp only[Ty.kids];omega
theorem ziC:∀(l:List Ty) (n:Nat),n<=ziB l n/\ziB l n<=max n 61/\(60<n+zQW l->60<ziB l n)/\(n+zQW l<=60->ziB l n=n+zQW l)
 | [],n=>by simp[ziB,zQW];omega
 |x::l,n=>by
  rw[ziB,zQW]
  split
  ·have h1:=ziG x n
   have h2:=ziC l (cnt6 x n)
   have h3:=ziF x n
   refine⟨by omega,by omega,fun h=> ?_,fun h=> ?_⟩
   ·by_cases h4:n+nodes x<=60
    ·have:=h3 h4;exact h2.2.2.1 (by omega)
    ·have:=h1.2.2 (by omega);omega
   ·have:=h3 (by omega)
    rw[h2.2.2.2 (by omega),this];omega
  ·omega
theorem ziF:∀(t:Ty) (n:Nat),n+nodes t<=60->cnt6 t n=n+nodes t
 | .mk k m l,n=>fun h=>by
  rw[zQZ]at h⊢
  simp only[Ty.kids]at h⊢
  rw[ziE];simp only[Ty.kids]
  rw[(ziC l (n+1)).2.2.2 (by omega)];omega
end
theorem ziD{l:List Ty}{n:Nat}(h:¬n<=60):ziB l n=n:=by cases l<;>simp[ziB,h]
theorem ziI(t:Ty)(n:Nat)(hn:n<=2000000)(ih:∀x∈t.kids,∀n:Nat,n<=2000000->zA0 Try.prog 36 [emb x,.int .i64 n] (.int .i64 (cnt6 x n))):zA0 Try.prog 36 [emb t,.int .i64 n] (.int .i64 (cnt6 t n)):=by
 refine eP C_ok Try.func36 Try.results36 fun ok H=> ?_
 have h:=YAN
 repeat' (first
  |(with_reducible first|apply bA|apply bB|apply bC|apply bD|apply bE|apply bF)<;>intro h
  |skip)<;>simp only[h,↓zaL,↓zHC,WZ,reduceIte,yA,yB,yC,yD,reduceCtorEq,yE,yF,W1,W1B,zbV (show n<4611686018427387904 by omega)]
 have hmax:t.kids.length<=maxLen:=(zG5 ok.1).1
 refine aloop_trim [1,5,2] ?_
 simp only[List.map_cons,List.map_nil,↓zaL,↓zHC,WZ,reduceIte,yA,yB,yC,yD,reduceCtorEq,yE,yF,W1,W1B]
 refine zJ3 2 (fun x:Nat×Nat=> [(1,.int .i64 x.2),(5,.int .i64 x.1)]) (fun _=>_) (fun x=>x.1<=t.kids.length/\x.2<=2000001/\ziB (t.kids.drop x.1) x.2=cnt6 t n) (fun x=>t.kids.length-x.1) C_ok (0,n+1) rfl rfl ⟨YAX _,by simp only;omega,by rw[ziE];rfl⟩ (by decide) ?_
 rintro⟨i,m⟩ ⟨hi,hm,hr⟩
 simp only at hi hm hr
 simp only[List.drop_succ_cons,List.drop_zero,List.cons_append,List.nil_append]
 simp only[↓zaL,↓zHC,WZ,reduceIte,yA,yB,yC,yD,reduceCtorEq,yE,yF,W1,W1B]
 refine zJk (fun hlt=> ?_) (fun hlt=> ?_)
 ·simp only[hlt,↓zaL,↓zHC,WZ,reduceIte,yA,yB,yC,yD,reduceCtorEq,yE,yF,W1,W1B]
  refine zJv (fun h6=> ?_) (fun h6=> ?_)
  ·have h6':m<=60:=by omega
   have h:=YAN
   repeat' (first
    |(with_reducible first|apply bA|apply bB|apply bC|apply bD|apply bE|apply bF)<;>intro h
    |((first|apply bG|apply bH);simp only[yP,yQ,W2,W2B,hlt,zOr hlt];first|refine zIf (ih _ (zMb hlt) m (by omega)) (.inl rfl) ?_|refine zIj (ih _ (zMb hlt) m (by omega)) (.inl rfl) ?_)
    |skip)<;>simp only[h,↓zaL,↓zHC,WZ,reduceIte,yA,yB,yC,yD,reduceCtorEq,yE,yF,W1,W1B,hlt,zOr hlt]
   have hc:=ziG (t.kid i) m
   refine⟨(i+1,cnt6 (t.kid i) m),⟨hlt,by simp only;omega,?_⟩,by simp only;omega,zas rfl rfl rfl rfl ?_ ?_ ?_⟩
   ·rw[<-hr,zFz hlt,ziB,if_pos h6']
   all_goals simp only[WK,↓zaL,↓zHC,yA,reduceIte,yN,yO,yR,yP,yQ,yB,yC,zbX hlt hmax,zOq,yO,YAK]
  ·simp only[hlt,↓zaL,↓zHC,WZ,reduceIte,yA,yB,yC,yD,reduceCtorEq,yE,yF,W1,W1B]
   rw[<-hr,ziD (by omega)]
 ·simp only[hlt,↓zaL,↓zHC,WZ,reduceIte,yA,yB,yC,yD,reduceCtorEq,yE,yF,W1,W1B]
  rw[<-hr,List.drop_of_length_le (by omega)];rfl
theorem ziH:∀(t:Ty) (n:Nat),n<=2000000->zA0 Try.prog 36 [emb t,.int .i64 n] (.int .i64 (cnt6 t n)):=
 Ty.ind (p:=fun t=>∀n:Nat,n<=2000000->zA0 Try.prog 36 [emb t,.int .i64 n] (.int .i64 (cnt6 t n))) fun t ih n hn=>ziI t n hn fun x hx n hn=>ih x hx n hn
def few(a b:Ty):Bool:= !decide (((cnt6 a 0:Nat):Int)>60)&& !decide (((cnt6 b 0:Nat):Int)>60)
theorem ziN(a b:Ty):zA0 Try.prog 10 [.sl [emb a,emb b] .no] (.bool (few a b)):=by
 have q1:=ziH a 0 (by decide)
 have q2:=ziH b 0 (by decide)
 unfold few
 generalize cnt6 a 0=x at*
 generalize cnt6 b 0=y at*
 simp only[Int.natCast_zero]at q1 q2
 refine eP C_ok Try.func10 Try.results10 fun ok H=> ?_
 by_cases h1:((x:Int)>60)
 ·have e1:((x:Int)>60)=True:=by simp only[YAb,iff_true];exact h1
  have h:=YAN
  repeat' (first
   |(with_reducible first|apply bA|apply bB|apply bC|apply bD|apply bE|apply bF)<;>intro h
   |((first|apply bG|apply bH);simp only[yP,yQ,W2,W2B,W3,yH,yI,yJ,yK,yL,yM,e1,decide_true,Bool.not_true,Bool.false_and];first|refine zIf (q1) (.inl rfl) ?_|refine zIf (q2) (.inl rfl) ?_|refine zIj (q1) (.inl rfl) ?_|refine zIj (q2) (.inl rfl) ?_)
   |refine zJ9 ?_ C_ok Try.f10.ntmps rfl (by decide)
   |skip)<;>simp only[h,↓zaL,↓zHC,WZ,reduceIte,yA,yB,yC,yD,reduceCtorEq,yE,yF,W1,W1B,W3,yH,yI,yJ,yK,yL,yM,e1,decide_true,Bool.not_true,Bool.false_and,zFY]
 ·have e1:((x:Int)>60)=False:=by simp only[YAb,iff_false];exact h1
  by_cases h2:((y:Int)>60)
  ·have e2:((y:Int)>60)=True:=by simp only[YAb,iff_true];exact h2
   have h:=YAN
   repeat' (first
    |(with_reducible first|apply bA|apply bB|apply bC|apply bD|apply bE|apply bF)<;>intro h
    |((first|apply bG|apply bH);simp only[yP,yQ,W2,W2B,W3,yH,yI,yJ,yK,yL,yM,e1,e2,decide_true,decide_false,Bool.not_true,Bool.not_false,Bool.true_and];first|refine zIf (q1) (.inl rfl) ?_|refine zIf (q2) (.inl rfl) ?_|refine zIj (q1) (.inl rfl) ?_|refine zIj (q2) (.inl rfl) ?_)
    |refine zJ9 ?_ C_ok Try.f10.ntmps rfl (by decide)
    |skip)<;>simp only[h,↓zaL,↓zHC,WZ,reduceIte,yA,yB,yC,yD,reduceCtorEq,yE,yF,W1,W1B,W3,yH,yI,yJ,yK,yL,yM,e1,e2,decide_true,decide_false,Bool.not_true,Bool.not_false,Bool.true_and,zFY]
  ·have e2:((y:Int)>60)=False:=by simp only[YAb,iff_false];exact h2
   have h:=YAN
   repeat' (first
    |(with_reducible first|apply bA|apply bB|apply bC|apply bD|apply bE|apply bF)<;>intro h
    |((first|apply bG|apply bH);simp only[yP,yQ,W2,W2B,W3,yH,yI,yJ,yK,yL,yM,e1,e2,decide_true,decide_false,Bool.not_true,Bool.not_false,Bool.true_and];first|refine zIf (q1) (.inl rfl) ?_|refine zIf (q2) (.inl rfl) ?_|refine zIj (q1) (.inl rfl) ?_|refine zIj (q2) (.inl rfl) ?_)
    |refine zJ9 ?_ C_ok Try.f10.ntmps rfl (by decide)
    |skip)<;>simp only[h,↓zaL,↓zHC,WZ,reduceIte,yA,yB,yC,yD,reduceCtorEq,yE,yF,W1,W1B,W3,yH,yI,yJ,yK,yL,yM,e1,e2,decide_true,decide_false,Bool.not_true,Bool.not_false,Bool.true_and,zFY]
theorem ziO{x y:T}(h:few x.ty y.ty=true):x.size<=60/\y.size<=60:=by
 simp only[few,YAA,YAD,decide_eq_false_iff_not]at h
 have h1:=(ziG x.ty 0).2.2
 have h2:=(ziG y.ty 0).2.2
 rw[zQb]at h1 h2
 omega
theorem UndT.self(a:T):UndT a a:=⟨fun _=> .base 0,fun _=> .base 0,fun _=>⟨rfl,rfl⟩,fun _=>⟨rfl,rfl⟩,zhz _⟩
theorem UndT.dyn(a:T):UndT a .dyn:=⟨fun _=> .base 0,fun _=> .base 0,fun _=>⟨rfl,rfl⟩,fun _=>⟨rfl,rfl⟩,zhx _⟩
noncomputable def gndS(σ:Int->T)(a:T)(n:Int):T:=if a.has n=true then σ n else .base 0
end Go.Proofs.Ytmpegnogdgbleaa
