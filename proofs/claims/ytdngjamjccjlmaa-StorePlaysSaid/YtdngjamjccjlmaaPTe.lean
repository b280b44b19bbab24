/- Lemmas: steps of scripts in both stores. No condition. -/
import Derived.Test.YtdngjamjccjlmaaPTd
import Derived.Test.YtdngjamjccjlmaaPRd
import Derived.Test.YtdngjamjccjlmaaPBa
import Derived.Test.YtdngjamjccjlmaaPLe
import Derived.Test.YtdngjamjccjlmaaPMa
import Derived.Test.YtdngjamjccjlmaaPAe
set_option linter.unusedSimpArgs false
set_option linter.unusedVariables false
set_option maxHeartbeats 4000000
set_option maxRecDepth 100000
namespace Go.Proofs.Ytdngjamjccjlmaa
open Go Go.Ab
open Nat renaming reduceEqDiff -> yA, reduceAdd -> yB, reduceLT -> yC, reduceLeDiff -> yD, reduceMul -> yE, reducePow -> yF
open Int renaming reduceAdd -> yH, reduceLT -> yI, reduceToNat -> yJ, reduceBEq -> yK, reduceBNe -> yL, reduceLE -> yM
open AV renaming belL -> yO, bel -> yN, normL -> yQ, norm -> yP
attribute [local irreducible] zA0 zAA zAa zAi zAj GoIf GoGb zAk GoO GoD GoX GoDX GoG GoDG GoGv zAl Go zAB
section
section
variable {F : List AObj} {s r v : Nat} {L : Mem} {lim cnt rd : Int}
theorem zp2(hs:s<F.length)(hr:r<F.length)(hne:r≠s)(kd a b:Int)(h:(kd≠7/\kd≠8/\kd≠9)\/(a<0\/(L.length:Int)<=a)\/kd≠8/\(b<0\/(L.length:Int)<=b)):
 DCalls Try.prog 82 [.bptr s 0,.int .i64 kd,.int .i64 a,.int .i64 b] (hpS F s r v L lim cnt rd) (.tup [.int .i64 0,.int .i64 1]) (hpS F s r v L lim cnt rd):=by
 have qa:=zMH (v:=v) (L:=L) (lim:=lim) (cnt:=cnt) (rd:=rd) hs hr hne a
 have qb:=zMH (v:=v) (L:=L) (lim:=lim) (cnt:=cnt) (rd:=rd) hs hr hne b
 generalize ha:(decide (0<=a)&&decide (a<L.length))=pa at*
 generalize hb:(decide (0<=b)&&decide (b<L.length))=pb at*
 unfold DCalls
 by_cases h8:kd=8
 ·subst h8
  have:pa=false:=by
   rw[<-ha,Bool.and_eq_false_iff,decide_eq_false_iff_not,decide_eq_false_iff_not];omega
  subst this
  refine eD C_ok Try.func82 Try.results82 fun ok=> ?_
  have h:=YAN
  repeat' (first
   |(with_reducible first|apply bA|apply bB|apply bC|apply bD|apply bE|apply bF)<;>intro h
   |((first|apply bG|apply bH);simp only[yP,yQ,W2,W3,yH,yI,yJ,yK,yL,yM,hpS,bxS,arS,stP hs hr hne,zTh,zTg,yN,zOg,yO];refine zIB (qa) (.inl rfl) ?_)
   |refine drA C_ok 14 0 ?_
   |refine zJ9 ?_ C_ok Try.f82.ntmps rfl (by decide)
   |skip)<;>simp only[h,↓zaL,↓zHC,WY,reduceIte,yA,yB,yC,yD,reduceCtorEq,yE,yF,W1,WS,W3,yH,yI,yJ,yK,yL,yM,hpS,bxS,arS,stP hs hr hne,zTh,zTg,yN,zOg,yO,zFY]
 ·by_cases hk:kd=7\/kd=9
  ·have:pa=false\/pb=false:=by
    rw[<-ha,<-hb,Bool.and_eq_false_iff,Bool.and_eq_false_iff,decide_eq_false_iff_not,decide_eq_false_iff_not,decide_eq_false_iff_not,decide_eq_false_iff_not];omega
   rcases hk with rfl|rfl
   all_goals
    cases pa with
    |false=>
     refine eD C_ok Try.func82 Try.results82 fun ok=> ?_
     have h:=YAN
     repeat' (first
      |(with_reducible first|apply bA|apply bB|apply bC|apply bD|apply bE|apply bF)<;>intro h
      |((first|apply bG|apply bH);simp only[yP,yQ,W2,W3,yH,yI,yJ,yK,yL,yM,hpS,bxS,arS,stP hs hr hne,zTh,zTg,yN,zOg,yO];refine zIB (qa) (.inl rfl) ?_)
      |refine drA C_ok 14 0 ?_
      |refine zJ9 ?_ C_ok Try.f82.ntmps rfl (by decide)
      |skip)<;>simp only[h,↓zaL,↓zHC,WY,reduceIte,yA,yB,yC,yD,reduceCtorEq,yE,yF,W1,WS,W3,yH,yI,yJ,yK,yL,yM,hpS,bxS,arS,stP hs hr hne,zTh,zTg,yN,zOg,yO,zFY]
    |true=>
     obtain rfl:pb=false:=by simpa using this
     refine eD C_ok Try.func82 Try.results82 fun ok=> ?_
     have h:=YAN
     repeat' (first
      |(with_reducible first|apply bA|apply bB|apply bC|apply bD|apply bE|apply bF)<;>intro h
      |((first|apply bG|apply bH);simp only[yP,yQ,W2,W3,yH,yI,yJ,yK,yL,yM,hpS,bxS,arS,stP hs hr hne,zTh,zTg,yN,zOg,yO];first|refine zIB (qa) (.inl rfl) ?_|refine zIB (qb) (.inl rfl) ?_)
      |refine drA C_ok 14 0 ?_
      |refine zJ9 ?_ C_ok Try.f82.ntmps rfl (by decide)
      |skip)<;>simp only[h,↓zaL,↓zHC,WY,reduceIte,yA,yB,yC,yD,reduceCtorEq,yE,yF,W1,WS,W3,yH,yI,yJ,yK,yL,yM,hpS,bxS,arS,stP hs hr hne,zTh,zTg,yN,zOg,yO,zFY]
  ·have e7:(kd==7)=false:=by rw[YAZ];omega
   have e8:(kd==8)=false:=by rw[YAZ];omega
   have e9:(kd==9)=false:=by rw[YAZ];omega
   refine eD C_ok Try.func82 Try.results82 fun ok=> ?_
   have h:=YAN
   repeat' (first
    |(with_reducible first|apply bA|apply bB|apply bC|apply bD|apply bE|apply bF)<;>intro h
    |refine drA C_ok 14 0 ?_
    |refine zJ9 ?_ C_ok Try.f82.ntmps rfl (by decide)
    |skip)<;>simp only[h,↓zaL,↓zHC,WY,reduceIte,yA,yB,yC,yD,reduceCtorEq,yE,yF,W1,WS,W3,yH,yI,yJ,yK,yL,yM,hpS,bxS,arS,stP hs hr hne,zTh,zTg,yN,zOg,e7,e8,e9,yO,zFY]
theorem zp0(hs:s<F.length)(hr:r<F.length)(hne:r≠s)(hw:Wf L.st)(a n:Int)(h:(a<0\/(L.length:Int)<=a)\/(n<0\/(L.length:Int)<=n)):
 DCalls Try.prog 25 [.bptr s 0,.int .i64 a,.int .i64 n] (hpS F s r v L lim cnt rd) (.int .i64 1) (hpS F s r v L lim cnt rd):=by
 have key:∀x:Int,∃y:Int,((x<0\/(L.length:Int)<=x)->y= -1)/\(¬(x<0\/(L.length:Int)<=x)->0<=y)/\DCalls Try.prog 29 [.bptr s 0,.int .i64 x] (hpS F s r v L lim cnt rd) (.int .i64 y) (hpS F s r v L lim cnt rd):=fun x=>by
  by_cases hx:x<0\/(L.length:Int)<=x
  ·exact⟨-1,fun _=>rfl,fun h=>absurd hx h,zgJ hs hr hne x hx⟩
  ·obtain⟨m,rfl⟩:∃m:Nat,x=m:=⟨x.toNat,by omega⟩
   exact⟨_,fun h=>absurd h hx,fun _=>by omega,zUI hs hr hne hw m (by omega)⟩
 obtain⟨ya,a1,a2,q1⟩:=key a
 obtain⟨yn,n1,n2,q2⟩:=key n
 unfold DCalls
 by_cases ha:a<0\/(L.length:Int)<=a
 ·have e1:(ya<0)=True:=by have:=a1 ha;simp only[YAb,iff_true];omega
  refine eD C_ok Try.func25 Try.results25 fun ok=> ?_
  have h:=YAN
  repeat' (first
   |(with_reducible first|apply bA|apply bB|apply bC|apply bD|apply bE|apply bF)<;>intro h
   |((first|apply bG|apply bH);simp only[yP,yQ,W2,hpS,bxS,arS,stP hs hr hne,zTh,zTg,yN,zOg,e1,yO];first|refine zIB (q1) (.inl rfl) ?_|refine zIB (q2) (.inl rfl) ?_)
   |skip)<;>simp only[h,↓zaL,↓zHC,WY,reduceIte,yA,yB,yC,yD,reduceCtorEq,yE,yF,W1,WS,hpS,bxS,arS,stP hs hr hne,zTh,zTg,yN,zOg,e1,yO]
 ·have hn:n<0\/(L.length:Int)<=n:=by omega
  have e1:(ya<0)=False:=by have:=a2 ha;simp only[YAb,iff_false];omega
  have e2:(yn<0)=True:=by have:=n1 hn;simp only[YAb,iff_true];omega
  refine eD C_ok Try.func25 Try.results25 fun ok=> ?_
  have h:=YAN
  repeat' (first
   |(with_reducible first|apply bA|apply bB|apply bC|apply bD|apply bE|apply bF)<;>intro h
   |((first|apply bG|apply bH);simp only[yP,yQ,W2,hpS,bxS,arS,stP hs hr hne,zTh,zTg,yN,zOg,e1,e2,yO];first|refine zIB (q1) (.inl rfl) ?_|refine zIB (q2) (.inl rfl) ?_)
   |skip)<;>simp only[h,↓zaL,↓zHC,WY,reduceIte,yA,yB,yC,yD,reduceCtorEq,yE,yF,W1,WS,hpS,bxS,arS,stP hs hr hne,zTh,zTg,yN,zOg,e1,e2,yO]
theorem zp1(hs:s<F.length)(hr:r<F.length)(hne:r≠s)(n lv:Int)(h:n<0\/(L.length:Int)<=n):
 DCalls Try.prog 37 [.bptr s 0,.int .i64 n,.int .i64 lv] (hpS F s r v L lim cnt rd) (.int .i64 1) (hpS F s r v L lim cnt rd):=by
 have q1:=zeX (v:=v) (L:=L) (lim:=lim) (cnt:=cnt) (rd:=rd) hs hr hne h
 unfold DCalls
 refine eD C_ok Try.func37 Try.results37 fun ok=> ?_
 have h:=YAN
 repeat' (first
  |(with_reducible first|apply bA|apply bB|apply bC|apply bD|apply bE|apply bF)<;>intro h
  |((first|apply bG|apply bH);simp only[yP,yQ,W2,hpS,bxS,arS,stP hs hr hne,zTh,zTg,yN,zOg,yO];refine zIB (q1) (.inl rfl) ?_)
  |skip)<;>simp only[h,↓zaL,↓zHC,WY,reduceIte,yA,yB,yC,yD,reduceCtorEq,yE,yF,W1,WS,hpS,bxS,arS,stP hs hr hne,zTh,zTg,yN,zOg,yO]
theorem zp8(hs:s<F.length)(hr:r<F.length)(hne:r≠s)(a n:Int)(h:(a<0\/(L.length:Int)<=a)\/(n<0\/(L.length:Int)<=n)):
 DCalls Try.prog 28 [.bptr s 0,.int .i64 a,.int .i64 n] (hpS F s r v L lim cnt rd) (.bool false) (hpS F s r v L lim cnt rd):=by
 have qa:=zMH (v:=v) (L:=L) (lim:=lim) (cnt:=cnt) (rd:=rd) hs hr hne a
 have qb:=zMH (v:=v) (L:=L) (lim:=lim) (cnt:=cnt) (rd:=rd) hs hr hne n
 generalize ha:(decide (0<=a)&&decide (a<L.length))=pa at*
 generalize hb:(decide (0<=n)&&decide (n<L.length))=pb at*
 have:pa=false\/pb=false:=by
  rw[<-ha,<-hb,Bool.and_eq_false_iff,Bool.and_eq_false_iff,decide_eq_false_iff_not,decide_eq_false_iff_not,decide_eq_false_iff_not,decide_eq_false_iff_not];omega
 unfold DCalls
 cases pa with
 |false=>
  refine eD C_ok Try.func28 Try.results28 fun ok=> ?_
  have h:=YAN
  repeat' (first
   |(with_reducible first|apply bA|apply bB|apply bC|apply bD|apply bE|apply bF)<;>intro h
   |((first|apply bG|apply bH);simp only[yP,yQ,W2,hpS,bxS,arS,stP hs hr hne,zTh,zTg,yN,zOg,yO];refine zIB (qa) (.inl rfl) ?_)
   |skip)<;>simp only[h,↓zaL,↓zHC,WY,reduceIte,yA,yB,yC,yD,reduceCtorEq,yE,yF,W1,WS,hpS,bxS,arS,stP hs hr hne,zTh,zTg,yN,zOg,yO]
 |true=>
  obtain rfl:pb=false:=by simpa using this
  refine eD C_ok Try.func28 Try.results28 fun ok=> ?_
  have h:=YAN
  repeat' (first
   |(with_reducible first|apply bA|apply bB|apply bC|apply bD|apply bE|apply bF)<;>intro h
   |((first|apply bG|apply bH);simp only[yP,yQ,W2,hpS,bxS,arS,stP hs hr hne,zTh,zTg,yN,zOg,yO];first|refine zIB (qa) (.inl rfl) ?_|refine zIB (qb) (.inl rfl) ?_)
   |skip)<;>simp only[h,↓zaL,↓zHC,WY,reduceIte,yA,yB,yC,yD,reduceCtorEq,yE,yF,W1,WS,hpS,bxS,arS,stP hs hr hne,zTh,zTg,yN,zOg,yO]
end
end
section
structure StG (lim:Int) (σ:Sto):Prop where
 si:SI σ.L σ.rd
 c0:0<=σ.cnt
 cl:σ.cnt<=lim
 lm:lim<=65536
 ln:(σ.L.length:Int)<=5+σ.cnt
 rb:σ.rd<=100000000
def OpD(lim:Int)(σ τ:Sto)(f g:Nat)(args:List AV)(res:AV):Prop:=
 (∀(F:List AObj) (s r:Nat),s<F.length->r<F.length->r≠s->DCalls Try.prog f (.bptr s 0::args) (hpS F s r σ.v σ.L lim σ.cnt σ.rd) res (hpS F s r τ.v τ.L lim τ.cnt τ.rd))/\
 (∀(F:List AObj) (s r:Nat),s<F.length->r<F.length->r≠s->DCalls Try.prog g (.bptr s 0::args) (hpR F s r σ.v σ.L.st lim σ.cnt) res (hpR F s r τ.v τ.L.st lim τ.cnt))
def Nxt(lim:Int)(σ τ:Sto):Prop:=(τ.rd<=100000000->StG lim τ)/\τ.rd<=σ.rd+2
theorem Nxt.zoc{lim:Int}{σ:Sto}(h:StG lim σ):Nxt lim σ σ:=⟨fun _=>h,by omega⟩
theorem zn3{S:St}(hw:Wf S){n:Nat}(hn:n<S.length):S.all (S.root n)=S.all n:=by
 have h1:=hw.look_eq (n:=n) hn []
 have h2:=hw.look_eq (n:=S.root n) (hw.root_lt n hn) []
 rw[hw.zUQ]at h2
 rw[St.all,St.all,h1,h2]
section
variable {lim : Int} {σ : Sto}
theorem zqI(h:StG lim σ)(lv:Int):∃τ p e,Nxt lim σ τ/\OpD lim σ τ 34 99 [.int .i64 lv] (.tup [.int .i64 p,.int .i64 e]):=by
 have hll:=Mem.zXR σ.L
 obtain⟨g1,g2,g3,g4,g5,g6⟩:=h
 by_cases hl:lv<0
 ·exact⟨σ,0,1,.zoc ⟨g1,g2,g3,g4,g5,g6⟩,fun F s r hs hr hne=>zqH hs hr hne lv hl,fun F s r hs hr hne=>zpm hs hr hne lv hl⟩
 by_cases hc:σ.cnt=lim
 ·exact⟨σ,0,7,.zoc ⟨g1,g2,g3,g4,g5,g6⟩,fun F s r hs hr hne=>zg3 hs hr hne lv hl (by simpa using hc),fun F s r hs hr hne=>zga hs hr hne lv hl (by omega)⟩
 ·refine⟨⟨σ.L++ [varN lv],σ.v+1,σ.cnt+1,σ.rd⟩,σ.L.length,0,⟨fun hr=>⟨g1.var lv,by simp only;omega,by simp only;omega,g4,by simp;omega,hr⟩,by simp only;omega⟩,fun F s r hs hr hne=>zg4 hs hr hne lv hl (by simpa using hc) (by omega) ⟨g2,by omega⟩,fun F s r hs hr hne=> ?_⟩
  have:=zgb (F:=F) (s:=s) (r:=r) (v:=σ.v) (S:=σ.L.st) (lim:=lim) (cnt:=σ.cnt) hs hr hne lv hl (by omega) (by omega) ⟨g2,by omega⟩
  simp only[Mem.zXM,hll]at this⊢
  exact this
theorem zoi(h:StG lim σ)(kd a b:Int):∃τ p e,Nxt lim σ τ/\OpD lim σ τ 82 100 [.int .i64 kd,.int .i64 a,.int .i64 b] (.tup [.int .i64 p,.int .i64 e]):=by
 have hll:=Mem.zXR σ.L
 obtain⟨g1,g2,g3,g4,g5,g6⟩:=h
 by_cases hb:(kd≠7/\kd≠8/\kd≠9)\/(a<0\/(σ.L.length:Int)<=a)\/kd≠8/\(b<0\/(σ.L.length:Int)<=b)
 ·exact⟨σ,0,1,.zoc ⟨g1,g2,g3,g4,g5,g6⟩,fun F s r hs hr hne=>zp2 hs hr hne kd a b hb,fun F s r hs hr hne=>zpT hs hr hne kd a b (by rw[hll];exact hb)⟩
 obtain⟨a,rfl⟩:∃m:Nat,a=m:=⟨a.toNat,by omega⟩
 have ha:a<σ.L.length:=by omega
 by_cases h8:kd=8
 ·subst h8
  by_cases hc:σ.cnt=lim
  ·exact⟨σ,0,7,.zoc ⟨g1,g2,g3,g4,g5,g6⟩,fun F s r hs hr hne=>zet hs hr hne a b ha (by simpa using hc),fun F s r hs hr hne=>zf4 hs hr hne a b (by omega) (by omega)⟩
  ·refine⟨⟨σ.L++ [(⟨8,0,none,[a]⟩,0)],σ.v+1,σ.cnt+1,σ.rd⟩,σ.L.length,0,⟨fun hr=>⟨g1.one ha,by simp only;omega,by simp only;omega,g4,by simp;omega,hr⟩,by simp only;omega⟩,fun F s r hs hr hne=>zeu hs hr hne a b ha (by simpa using hc) (by omega) ⟨g2,by omega⟩,fun F s r hs hr hne=> ?_⟩
   have:=zf3 (F:=F) (s:=s) (r:=r) (v:=σ.v) (S:=σ.L.st) (lim:=lim) (cnt:=σ.cnt) hs hr hne a b (by omega) (by omega) (by omega) ⟨g2,by omega⟩
   simp only[Mem.zXM,hll]at this⊢
   exact this
 ·obtain⟨b,rfl⟩:∃m:Nat,b=m:=⟨b.toNat,by omega⟩
  have hb2:b<σ.L.length:=by omega
  have hk:kd=7\/kd=9:=by omega
  by_cases hc:σ.cnt=lim
  ·exact⟨σ,0,7,.zoc ⟨g1,g2,g3,g4,g5,g6⟩,fun F s r hs hr hne=>zes hs hr hne kd a b hk ha hb2 (by simpa using hc),fun F s r hs hr hne=>zf2 hs hr hne kd a b hk (by omega) (by omega) (by omega)⟩
  ·refine⟨⟨σ.L++ [(⟨kd,0,none,[a,b]⟩,0)],σ.v+1,σ.cnt+1,σ.rd⟩,σ.L.length,0,⟨fun hr=>⟨g1.two hk ha hb2,by simp only;omega,by simp only;omega,g4,by simp;omega,hr⟩,by simp only;omega⟩,fun F s r hs hr hne=>zev hs hr hne kd a b hk ha hb2 (by simpa using hc) (by omega) ⟨g2,by omega⟩,fun F s r hs hr hne=> ?_⟩
   have:=zf5 (F:=F) (s:=s) (r:=r) (v:=σ.v) (S:=σ.L.st) (lim:=lim) (cnt:=σ.cnt) hs hr hne kd a b hk (by omega) (by omega) (by omega) (by omega) ⟨g2,by omega⟩
   simp only[Mem.zXM,hll]at this⊢
   exact this
theorem zo1(h:StG lim σ)(t:Ty)(ht:nodes t<=600):∃τ p e,Nxt lim σ τ/\OpD lim σ τ 42 113 [emb t] (.tup [.int .i64 p,.int .i64 e]):=by
 have hll:=Mem.zXR σ.L
 obtain⟨g1,g2,g3,g4,g5,g6⟩:=h
 cases hr:right t&&without 6 t with
 |false=>exact⟨σ,0,1,.zoc ⟨g1,g2,g3,g4,g5,g6⟩,fun F s r hs hr' hne=>zoz hs hr' hne t hr,fun F s r hs hr' hne=>zpY hs hr' hne t hr⟩
 |true=>
  rw[YAA]at hr
  obtain⟨x,rfl⟩:=T.zRA t hr.1
  have ho:x.ok=true:=by rw[<-T.zT5];exact hr.1
  have hcl:x.closed=true:=by rw[<-T.zEw];exact hr.2
  have hi:=zod x
  rw[zQb]at ht
  by_cases hc:lim-σ.cnt<x.inner
  ·exact⟨σ,0,7,.zoc ⟨g1,g2,g3,g4,g5,g6⟩,fun F s r hs hr' hne=>zo0 hs hr' hne x ho hcl ⟨g2,g3,g4⟩ (by omega) hc,fun F s r hs hr' hne=>zpa hs hr' hne x ho hcl ⟨g2,g3,g4⟩ (by omega) hc⟩
  ·have hp:=zSp x σ.L
   refine⟨⟨(putM x σ.L).1,σ.v+x.inner,σ.cnt+(x.inner:Nat),σ.rd⟩,((putM x σ.L).2:Nat),0,⟨fun hr'=>⟨(zSo x σ.L g1 hcl).1,by simp only;omega,by simp only;omega,g4,by simp only[zSl];omega,hr'⟩,by simp only;omega⟩,fun F s r hs hr' hne=>zSz hs hr' hne x ho hcl ⟨g2,g3,g4⟩ (by omega) (by omega),fun F s r hs hr' hne=> ?_⟩
   have:=zpZ (F:=F) (s:=s) (r:=r) (v:=σ.v) (S:=σ.L.st) (lim:=lim) (cnt:=σ.cnt) hs hr' hne x ho hcl g1.wf.five ⟨g2,g3,g4⟩ (by omega) (by omega)
   simp only[hp.1,hp.2]at this⊢
   exact this
theorem zog(h:StG lim σ)(n lv:Int):∃τ e,Nxt lim σ τ/\OpD lim σ τ 37 103 [.int .i64 n,.int .i64 lv] (.int .i64 e):=by
 have hll:=Mem.zXR σ.L
 obtain⟨g1,g2,g3,g4,g5,g6⟩:=h
 have h0:=g1.rd0
 by_cases hn:n<0\/(σ.L.length:Int)<=n
 ·exact⟨σ,1,.zoc ⟨g1,g2,g3,g4,g5,g6⟩,fun F s r hs hr hne=>zp1 hs hr hne n lv hn,fun F s r hs hr hne=>zpS hs hr hne n lv (.inl (by omega))⟩
 obtain⟨m,rfl⟩:∃m:Nat,n=m:=⟨n.toNat,by omega⟩
 have hm:m<σ.L.length:=by omega
 by_cases hl:lv<0
 ·exact⟨σ,1,.zoc ⟨g1,g2,g3,g4,g5,g6⟩,fun F s r hs hr hne=>znw hs hr hne m hm hl,fun F s r hs hr hne=>zpS hs hr hne m lv (.inr hl)⟩
 ·refine⟨⟨lowL (mkL σ.L (σ.rd+1) (σ.L.st.all m)) lv (σ.L.st.vars m),σ.v,σ.cnt,σ.rd+1⟩,0,⟨fun hr=>⟨(g1.low hm lv).1,g2,g3,g4,by simp only[zNt,zPW];omega,hr⟩,by simp only;omega⟩,fun F s r hs hr hne=>zAq hs hr hne g1.wf g1.mb (by omega) ⟨h0,by omega⟩ m hm hl,fun F s r hs hr hne=> ?_⟩
  have:=zf1 (F:=F) (s:=s) (r:=r) (v:=σ.v) (S:=σ.L.st) (lim:=lim) (cnt:=σ.cnt) hs hr hne g1.wf (by omega) m (by omega) lv hl
  simp only[zeh,zPY]
  exact this
theorem zpK(h:StG lim σ)(n:Int):∃τ t e,Nxt lim σ τ/\OpD lim σ τ 30 116 [.int .i64 n] (.tup [emb t,.int .i64 e]):=by
 have hll:=Mem.zXR σ.L
 obtain⟨g1,g2,g3,g4,g5,g6⟩:=h
 by_cases hn:n<0\/(σ.L.length:Int)<=n
 ·exact⟨σ,.mk 0 0 [],1,.zoc ⟨g1,g2,g3,g4,g5,g6⟩,fun F s r hs hr hne=>zpJ hs hr hne n hn,fun F s r hs hr hne=>zpe hs hr hne n (by omega)⟩
 obtain⟨m,rfl⟩:∃m:Nat,n=m:=⟨n.toNat,by omega⟩
 have hm:m<σ.L.length:=by omega
 have q1:=fun(F:List AObj) (s r:Nat) hs hr hne=>zTV (F:=F) (s:=s) (r:=r) (v:=σ.v) (L:=σ.L) (lim:=lim) (cnt:=σ.cnt) (rd:=σ.rd) hs hr hne g1.wf m hm ⟨g2,g3,g4⟩
 have q2:=fun(F:List AObj) (s r:Nat) hs hr hne=>zpf (F:=F) (s:=s) (r:=r) (v:=σ.v) (S:=σ.L.st) (lim:=lim) (cnt:=σ.cnt) hs hr hne g1.wf m (by omega) ⟨g2,g3,g4⟩
 by_cases hf:(nodes (σ.L.st.tree m):Int)<=lim-σ.cnt
 ·simp only[if_pos hf]at q1 q2
  exact⟨⟨σ.L,σ.v,σ.cnt+nodes (σ.L.st.tree m),σ.rd⟩,_,0,⟨fun hr=>⟨g1,by simp only;omega,by simp only;omega,g4,by simp only;omega,hr⟩,by simp only;omega⟩,q1,q2⟩
 ·simp only[if_neg hf]at q1 q2
  exact⟨σ,_,7,.zoc ⟨g1,g2,g3,g4,g5,g6⟩,q1,q2⟩
theorem zof(h:StG lim σ)(a n:Int):∃τ e,Nxt lim σ τ/\OpD lim σ τ 25 114 [.int .i64 a,.int .i64 n] (.int .i64 e):=by
 have hll:=Mem.zXR σ.L
 have hG:=h
 obtain⟨g1,g2,g3,g4,g5,g6⟩:=h
 have h0:=g1.rd0
 have hw:=g1.wf
 by_cases ho:(a<0\/(σ.L.length:Int)<=a)\/(n<0\/(σ.L.length:Int)<=n)
 ·refine⟨σ,1,.zoc hG,fun F s r hs hr hne=>zp0 hs hr hne hw a n ho,fun F s r hs hr hne=> ?_⟩
  by_cases ha:a<0\/(σ.L.length:Int)<=a
  ·exact zpP hs hr hne hw a n (.inl (by omega))
  ·obtain⟨m,rfl⟩:∃m:Nat,a=m:=⟨a.toNat,by omega⟩
   by_cases h6:σ.L.st.kind (σ.L.st.root m)=6
   ·exact zpQ hs hr hne hw m (by omega) n h6 (by omega)
   ·exact zpP hs hr hne hw m n (.inr ⟨by omega,by omega,by simpa using h6⟩)
 obtain⟨a,rfl⟩:∃m:Nat,a=m:=⟨a.toNat,by omega⟩
 obtain⟨n,rfl⟩:∃m:Nat,n=m:=⟨n.toNat,by omega⟩
 have ha:a<σ.L.length:=by omega
 have hn:n<σ.L.length:=by omega
 by_cases h6:¬σ.L.st.kind (σ.L.st.root a)=6
 ·exact⟨σ,1,.zoc hG,fun F s r hs hr hne=>zoe hs hr hne hw a n ha hn (.inl h6),fun F s r hs hr hne=>zpP hs hr hne hw a n (.inr ⟨by omega,by omega,by simpa using h6⟩)⟩
 have h6:=Decidable.not_not.1 h6
 by_cases hxy:σ.L.st.root a=σ.L.st.root n
 ·exact⟨σ,1,.zoc hG,fun F s r hs hr hne=>zoe hs hr hne hw a n ha hn (.inr hxy),fun F s r hs hr hne=>zpR hs hr hne hw a n (by omega) (by omega) h6 hxy⟩
 have hal:=zn3 hw (n:=n) (by omega)
 by_cases hin:σ.L.st.root a∈σ.L.st.all n
 ·refine⟨⟨mkL σ.L (σ.rd+1) (σ.L.st.all (σ.L.st.root n)),σ.v,σ.cnt,σ.rd+1⟩,5,⟨fun hr=>⟨g1.mark _,g2,g3,g4,by simp only[zPW];omega,hr⟩,by simp only;omega⟩,fun F s r hs hr hne=>zNT hs hr hne hw g1.mb (by omega) ⟨h0,by omega⟩ a n ha hn h6 hxy (by rw[hal];exact hin),fun F s r hs hr hne=> ?_⟩
  simp only[zPY]
  exact zfx hs hr hne hw (by omega) a n (by omega) (by omega) h6 hxy hin
 ·have hra:σ.L.st.root a<σ.L.length:=by have:=hw.root_lt a (by omega);omega
  have hrn:σ.L.st.root n<σ.L.length:=by have:=hw.root_lt n (by omega);omega
  have hin2:σ.L.st.root a ∉ σ.L.st.all (σ.L.st.root n):=by rw[hal];exact hin
  have hst:=zef g1 hra hrn (hw.zUK a) h6 (hw.zUK n) hin2
  have hsi:=g1.link hra hrn (hw.zUK a) h6 (hw.zUK n) hin2
  refine⟨⟨zNL σ.L σ.rd (σ.L.st.root a) (σ.L.st.root n),σ.v,σ.cnt,σ.rd+2⟩,0,⟨fun hr=>⟨hsi.2.1,g2,g3,g4,by simp only[zNM];omega,hr⟩,by simp only;omega⟩,fun F s r hs hr hne=>zNU hs hr hne hw g1.mb (by omega) ⟨h0,by omega⟩ a n ha hn h6 hxy hin2,fun F s r hs hr hne=> ?_⟩
  have:=zfy (F:=F) (s:=s) (r:=r) (v:=σ.v) (S:=σ.L.st) (lim:=lim) (cnt:=σ.cnt) hs hr hne hw (by omega) a n (by omega) (by omega) h6 hxy hin
  rw[hst,rlkS,show σ.L.st.vars (σ.L.st.root n)=σ.L.st.vars n by unfold St.vars;rw[hal]]
  exact this
theorem zqK(h:StG lim σ)(a n:Int):∃τ e,Nxt lim σ τ/\OpD lim σ τ 28 55 [.int .i64 a,.int .i64 n] (.bool e):=by
 have hll:=Mem.zXR σ.L
 obtain⟨g1,g2,g3,g4,g5,g6⟩:=h
 have h0:=g1.rd0
 by_cases ho:(a<0\/(σ.L.length:Int)<=a)\/(n<0\/(σ.L.length:Int)<=n)
 ·exact⟨σ,false,.zoc ⟨g1,g2,g3,g4,g5,g6⟩,fun F s r hs hr hne=>zp8 hs hr hne a n ho,fun F s r hs hr hne=>zpn hs hr hne g1.wf a n (by rw[hll];exact ho)⟩
 obtain⟨a,rfl⟩:∃m:Nat,a=m:=⟨a.toNat,by omega⟩
 obtain⟨n,rfl⟩:∃m:Nat,n=m:=⟨n.toNat,by omega⟩
 refine⟨⟨mkL σ.L (σ.rd+1) (σ.L.st.all n),σ.v,σ.cnt,σ.rd+1⟩,_,⟨fun hr=>⟨g1.mark _,g2,g3,g4,by simp only[zPW];omega,hr⟩,by simp only;omega⟩,fun F s r hs hr hne=>za1 hs hr hne g1.wf g1.mb (by omega) ⟨h0,by omega⟩ a n (by omega) (by omega),fun F s r hs hr hne=> ?_⟩
 simp only[zPY]
 exact zge hs hr hne g1.wf (by omega) a n (by omega) (by omega)
theorem zoC(h:StG lim σ)(n:Int)(fr tt:List Int)(hf:fr.length<=6):∃τ p e,Nxt lim σ τ/\OpD lim σ τ 38 115 [.int .i64 n,.sl (fr.map I64) .no,.sl (tt.map I64) .no] (.tup [.int .i64 p,.int .i64 e]):=by
 have hll:=Mem.zXR σ.L
 obtain⟨g1,g2,g3,g4,g5,g6⟩:=h
 have hinn:inn σ.L.st<=σ.L.length:=by
  unfold inn
  have:=List.length_filter_le (fun i=>decide (σ.L.st.kids i≠[])) (List.range σ.L.st.length)
  simp only[List.length_range]at this;omega
 have key:=fun(s r:Nat) (hne:r≠s)=>zn6 (s:=s) (r:=r) (v:=σ.v) (lim:=lim) (cnt:=σ.cnt) hne g1 (by omega) (by omega) g2 g4 g3 (by omega) n fr tt (by omega)
 obtain⟨x,e,v',L',cnt',rd',hQ, -⟩:=key 0 1 (by omega)
 have hD:OpD lim σ ⟨L',v',cnt',rd'⟩ 38 115 [.int .i64 n,.sl (fr.map I64) .no,.sl (tt.map I64) .no] (.tup [.int .i64 x,.int .i64 e]):=by
  refine⟨fun F s r hs hr hne=> ?_,fun F s r hs hr hne=>zpD hs hr hne g1 (by omega) g2 g4 g3 (by omega) hQ⟩
  obtain⟨x2,e2,v2,L2,cnt2,rd2,hQ2,q⟩:=key s r hne
  obtain⟨rfl,rfl,rfl,rfl,rfl,rfl⟩:=hQ2.det hQ
  exact q F hs hr
 refine⟨⟨L',v',cnt',rd'⟩,x,e,?_,hD⟩
 cases hQ with
 |arg _=>exact .zoc ⟨g1,g2,g3,g4,g5,g6⟩
 |bad _ _ _ _ _ _ _=>exact .zoc ⟨g1,g2,g3,g4,g5,g6⟩
 |full m rs xs hn hm hG hl hk=>exact⟨fun hr=>⟨g1.mark _,g2,g3,g4,by simp only[zPW];omega,hr⟩,by simp only;omega⟩
 |done m rs xs _ _ M' x hn hm hG hl hk hC hS hl'=>
  have hto:=hG.zoP g1.wf
  have hst1:(mkL σ.L (σ.rd+1) (σ.L.st.all m)).st=σ.L.st:=zPY _ _ _
  have hlen1:(mkL σ.L (σ.rd+1) (σ.L.st.all m)).length=σ.L.length:=zPW _ _ _
  have hCI:CI σ.L.st (toM rs xs) (cpT σ.L.st (toM rs xs) m) lim (mkL σ.L (σ.rd+1) (σ.L.st.all m)) [] σ.cnt:=by
   refine⟨⟨by rw[hst1];exact g1.wf,g1.wf,by rw[hlen1];omega,fun i hi=>by rw[hst1],fun i hi=>by rw[hst1]⟩,fun k hk=>(by cases hk),List.nodup_nil,?_,fun k x e=>by simp[mget]at e⟩
   rw[zoF];simp;omega
  obtain⟨c, -, -,hl2, -⟩:=hC.kci (by omega) hto (by omega) (fun z hz=>hz) hCI
  have c1:=c.room
  have c2:=c.tle
  rw[hlen1]at hl2
  simp only[List.length_nil,Nat.sub_zero]at hl2 c1
  exact⟨fun hr=>⟨hS,by simp only;omega,by simp only;omega,g4,by simp only;omega,hr⟩,by simp only;omega⟩
end
end
section
def zos(n:Nat)(x:Int):Int:=if 0<=x/\x<1000 then x.tmod ((n+1:Nat):Int)else x
theorem zot(x:Int)(n:Nat)(hn:n<=1000000):zA0 Try.prog 54 [.int .i64 x,.int .i64 n] (.int .i64 (zos n x)):=by
 have w1:IntKind.wrap .i64 ((n:Int)+1)=((n+1:Nat):Int):=by rw[zbT (by omega) (by omega)];omega
 have hz:(((n+1:Nat):Int)=0)=False:=by simp only[YAb,iff_false];omega
 have hz2:(((n+1:Nat):Int)≠0)=True:=by simp only[YAb,iff_true];omega
 by_cases h0:x≥0
 ·have h0':0<=x:=h0
  by_cases h1:x<1000
  ·have e:zos n x=x.tmod ((n+1:Nat):Int):=if_pos ⟨h0,h1⟩
   have hm:x.tmod ((n+1:Nat):Int)=x % ((n+1:Nat):Int):=Int.tmod_eq_emod_of_nonneg h0'
   have m1:=Int.emod_nonneg x (b:=((n+1:Nat):Int)) (by omega)
   have m2:=Int.emod_lt_of_pos x (b:=((n+1:Nat):Int)) (by omega)
   have w2:IntKind.wrap .i64 (x.tmod ((n+1:Nat):Int))=x.tmod ((n+1:Nat):Int):=by rw[hm];exact zbT (by omega) (by omega)
   rw[e]
   generalize ((n+1:Nat):Int)=N at*
   refine eP C_ok Try.func54 Try.results54 fun ok H=> ?_
   have h:=YAN
   repeat' (first
    |(with_reducible first|apply bA|apply bB|apply bC|apply bD|apply bE|apply bF)<;>intro h
    |skip)<;>simp only[h,↓zaL,↓zHC,WZ,reduceIte,yA,yB,yC,yD,reduceCtorEq,yE,yF,W1,h0,h1,w1,w2,hz,hz2]
  ·have e:zos n x=x:=if_neg (fun h=>h1 h.2)
   rw[e]
   refine eP C_ok Try.func54 Try.results54 fun ok H=> ?_
   have h:=YAN
   repeat' (first
    |(with_reducible first|apply bA|apply bB|apply bC|apply bD|apply bE|apply bF)<;>intro h
    |skip)<;>simp only[h,↓zaL,↓zHC,WZ,reduceIte,yA,yB,yC,yD,reduceCtorEq,yE,yF,W1,h0,h1]
 ·have e:zos n x=x:=if_neg (fun h=>h0 h.1)
  rw[e]
  refine eP C_ok Try.func54 Try.results54 fun ok H=> ?_
  have h:=YAN
  repeat' (first
   |(with_reducible first|apply bA|apply bB|apply bC|apply bD|apply bE|apply bF)<;>intro h
   |skip)<;>simp only[h,↓zaL,↓zHC,WZ,reduceIte,yA,yB,yC,yD,reduceCtorEq,yE,yF,W1,h0]
def spA(σ:Sto)(x:SpRec):Int:=zos σ.L.length x.a
def spB0(σ:Sto)(x:SpRec):Int:=zos σ.L.length x.b
def spR(σ:Sto)(l:List Int):List Int:=(l.take 6).map (zos σ.L.length)
structure StepO (lim:Int) (σ τ:Sto) (x:SpRec) (m:Int):Prop where
 v:m=0\/m=1->∃p e,OpD lim σ τ 34 99 [.int .i64 x.c] (.tup [.int .i64 p,.int .i64 e])
 mak:m=2->∃p e,OpD lim σ τ 82 100 [.int .i64 x.c,.int .i64 (spA σ x),.int .i64 (spB0 σ x)] (.tup [.int .i64 p,.int .i64 e])
 pt:m=3->∃p e,OpD lim σ τ 42 113 [emb x.t] (.tup [.int .i64 p,.int .i64 e])
 lk:m=4->∃e,OpD lim σ τ 25 114 [.int .i64 (spA σ x),.int .i64 (spB0 σ x)] (.int .i64 e)
 lw:m=5->∃e,OpD lim σ τ 37 103 [.int .i64 (spA σ x),.int .i64 x.c] (.int .i64 e)
 cp:m=6->∃p e,OpD lim σ τ 38 115 [.int .i64 (spA σ x),.sl ((spR σ x.fr).map I64) .no,.sl ((spR σ x.tt).map I64) .no] (.tup [.int .i64 p,.int .i64 e])
 rd:m=7->∃t e,OpD lim σ τ 30 116 [.int .i64 (spA σ x)] (.tup [emb t,.int .i64 e])
theorem zp6{lim:Int}{σ:Sto}(h:StG lim σ)(x:SpRec)(ht:nodes x.t<=600){m:Int}(h0:0<=m)(h8:m<8):∃τ,Nxt lim σ τ/\StepO lim σ τ x m:=by
 have:(m=0\/m=1)\/m=2\/m=3\/m=4\/m=5\/m=6\/m=7:=by omega
 rcases this with hm|rfl|rfl|rfl|rfl|rfl|rfl
 ·obtain⟨τ,p,e,hN,hO⟩:=zqI h x.c
  exact⟨τ,hN,fun _=>⟨p,e,hO⟩,fun h=>by omega,fun h=>by omega,fun h=>by omega,fun h=>by omega,fun h=>by omega,fun h=>by omega⟩
 ·obtain⟨τ,p,e,hN,hO⟩:=zoi h x.c (spA σ x) (spB0 σ x)
  exact⟨τ,hN,fun h=>by omega,fun _=>⟨p,e,hO⟩,fun h=>by omega,fun h=>by omega,fun h=>by omega,fun h=>by omega,fun h=>by omega⟩
 ·obtain⟨τ,p,e,hN,hO⟩:=zo1 h x.t ht
  exact⟨τ,hN,fun h=>by omega,fun h=>by omega,fun _=>⟨p,e,hO⟩,fun h=>by omega,fun h=>by omega,fun h=>by omega,fun h=>by omega⟩
 ·obtain⟨τ,e,hN,hO⟩:=zof h (spA σ x) (spB0 σ x)
  exact⟨τ,hN,fun h=>by omega,fun h=>by omega,fun h=>by omega,fun _=>⟨e,hO⟩,fun h=>by omega,fun h=>by omega,fun h=>by omega⟩
 ·obtain⟨τ,e,hN,hO⟩:=zog h (spA σ x) x.c
  exact⟨τ,hN,fun h=>by omega,fun h=>by omega,fun h=>by omega,fun h=>by omega,fun _=>⟨e,hO⟩,fun h=>by omega,fun h=>by omega⟩
 ·obtain⟨τ,p,e,hN,hO⟩:=zoC h (spA σ x) (spR σ x.fr) (spR σ x.tt) (by simp[spR];omega)
  exact⟨τ,hN,fun h=>by omega,fun h=>by omega,fun h=>by omega,fun h=>by omega,fun h=>by omega,fun _=>⟨p,e,hO⟩,fun h=>by omega⟩
 ·obtain⟨τ,t,e,hN,hO⟩:=zpK h (spA σ x)
  exact⟨τ,hN,fun h=>by omega,fun h=>by omega,fun h=>by omega,fun h=>by omega,fun h=>by omega,fun h=>by omega,fun _=>⟨t,e,hO⟩⟩
theorem zfrQ{C:Cfg}{e:Nat->AV}{F F':List AObj}{b n g:Nat}(hz:C.zfr=some (5,999))(he:e 5= .bptr g 0)(h:zAE F F' g 999):ZFr C (FS e F b n) F':=by
 unfold ZFr
 rw[hz]
 intro r0 h0
 have:e 5= .bptr r0 0:=h0
 rw[he]at this
 cases this
 rw[zID];exact h
theorem bagQ{F J:List AObj}{s r p q v v' v2 v2' n n' u u' u2 u2' m m':Nat}{L L':Mem}{S S':St}{lim cnt rd lim2 cnt2 lim' cnt' rd' lim2' cnt2':Int}(h:QuaD F s r p q):
 zAE (qua (F++J) s r p q (bxS r v n lim cnt rd) (arS v2 L) (bxR q u m lim2 cnt2) (arR u2 S)) (qua (F++J) s r p q (bxS r v' n' lim' cnt' rd') (arS v2' L') (bxR q u' m' lim2' cnt2') (arR u2' S')) F.length 999:=by
 refine⟨by simp,fun i=> ?_⟩
 have g:=zfM (h.app J) (x1:=bxS r v n lim cnt rd) (x2:=arS v2 L) (x3:=bxR q u m lim2 cnt2) (x4:=arR u2 S)
 have g':=zfM (h.app J) (x1:=bxS r v' n' lim' cnt' rd') (x2:=arS v2' L') (x3:=bxR q u' m' lim2' cnt2') (x4:=arR u2' S')
 have hs:=h.hs
 have hp:=h.hp
 have key:∀ {j:Nat} {x y:AObj} {F1 F2:List AObj},j<F.length->F1[j]?=some x->F2[j]?=some y->(∀cs,x= .box cs->∃cs',y= .box cs'/\cs'.length=cs.length)->(∀cs',y= .box cs'->∃cs,x= .box cs/\cs'.length=cs.length)->
  (∀cs,F1[j]?=some (.box cs)->∃cs',F2[j]?=some (.box cs')/\CsAg j F.length 999 cs cs')/\(∀cs',F2[j]?=some (.box cs')->∃cs,F1[j]?=some (.box cs)/\CsAg j F.length 999 cs cs'):=fun {j x y F1 F2} hj e1 e2 f1 f2=>by
  have hc:∀q,¬zll j F.length 999 q:=fun q hq=>by
   unfold zll at hq
   rw[if_pos rfl]at hq;omega
  constructor
  ·intro cs e
   rw[e1]at e
   obtain⟨cs',a,b⟩:=f1 cs (Option.some.inj e)
   exact⟨cs',by rw[e2,a],b,fun q hq=>absurd hq (hc q)⟩
  ·intro cs' e
   rw[e2]at e
   obtain⟨cs,a,b⟩:=f2 cs' (Option.some.inj e)
   exact⟨cs,by rw[e1,a],b,fun q hq=>absurd hq (hc q)⟩
 by_cases e1:s=i
 ·subst e1;exact key hs g.1 g'.1 (fun cs e=>by cases e;exact⟨_,rfl,rfl⟩) (fun cs e=>by cases e;exact⟨_,rfl,rfl⟩)
 by_cases e2:r=i
 ·subst e2;exact key h.hr g.2.1 g'.2.1 (fun cs e=>by cases e) (fun cs e=>by cases e)
 by_cases e3:p=i
 ·subst e3;exact key hp g.2.2.1 g'.2.2.1 (fun cs e=>by cases e;exact⟨_,rfl,rfl⟩) (fun cs e=>by cases e;exact⟨_,rfl,rfl⟩)
 by_cases e4:q=i
 ·subst e4;exact key h.hq g.2.2.2 g'.2.2.2 (fun cs e=>by cases e) (fun cs e=>by cases e)
 rw[zfP e1 e2 e3 e4,zfP e1 e2 e3 e4]
 exact⟨fun cs h=>⟨cs,h,rfl,fun _ _=>rfl⟩,fun cs h=>⟨cs,h,rfl,fun _ _=>rfl⟩⟩
end
end Go.Proofs.Ytdngjamjccjlmaa
