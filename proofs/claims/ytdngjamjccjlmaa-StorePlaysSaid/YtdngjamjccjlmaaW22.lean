/- Walks: the store: a copy: whether one of the variables is within. No condition. -/
import Derived.Test.YtdngjamjccjlmaaPWe
import Derived.Test.YtdngjamjccjlmaaS11
set_option linter.unusedSimpArgs false
set_option linter.unusedVariables false
set_option maxHeartbeats 4000000
set_option maxRecDepth 100000
namespace Go.Proofs.Ytdngjamjccjlmaa
open Go Go.Ab
open Nat renaming reduceEqDiff -> yA, reduceAdd -> yB, reduceLT -> yC, reduceLeDiff -> yD, reduceMul -> yE, reducePow -> yF
open Int renaming reduceAdd -> yH, reduceLT -> yI, reduceToNat -> yJ, reduceBEq -> yK, reduceBNe -> yL, reduceLE -> yM
open AV renaming bel -> yN, normL -> yQ, norm -> yP
attribute [local irreducible] zA0 zAA zAa zAi zAj GoIf GoGb zAk GoO GoD GoX GoDX GoG GoDG GoGv zAl Go zAB
def cpB(s m1 m2 m3:Nat):AObj:= .box [.bptr s 0,.mp m1,.mp m2,.mp m3]
def VH(S:St)(to Z:List (Int×Int)):Prop:=∀k x,mget Z k=some x->∃n:Nat,k=n/\x=if hld S to n then 1 else 2
theorem VH.put{S:St}{to Z:List (Int×Int)}(h:VH S to Z){n:Nat}{x:Int}(hx:x=if hld S to n then 1 else 2):VH S to (mput Z n x):=by
 intro k y e
 rw[zPO]at e
 split at e
 ·rename_i hk;cases e;exact⟨n,hk.symm,hx⟩
 ·exact h k y e
structure Sm (S:St) (L:Mem):Prop where
 wf:Wf L.st
 wf0:Wf S
 len:S.length<=L.length
 nd:∀i,i<S.length->L.st.nd i=S.nd i
 rt:∀i,i<S.length->L.st.root i=S.root i
section
variable {s r v c m1 m2 m3 : Nat} {L : Mem} {lim cnt rd : Int} {S : St} {to : List (Int × Int)}
def znv(s r v c m1 m2 m3:Nat)(L:Mem)(lim cnt rd:Int)(S:St)(to:List (Int×Int))(n:Nat):Prop:=∀Z,VH S to Z->∃Z',VH S to Z'/\
 ∀F:List AObj,F[c]?=some (cpB s m1 m2 m3)->F[s]?=some (bxS r v L.length lim cnt rd)->F[r]?=some (arS v L)->F[m1]?=some (.map (embM to))->F[m2]?=some (.map (embM Z))->
  DCalls Try.prog 92 [.bptr c 0,.int .i64 n] F (.bool (hld S to n)) (F.set m2 (.map (embM Z')))
theorem zoZ(hS:Sm S L)(h12:m1≠m2)(n:Nat)(hn:n<S.length)(hrr:S.root n=n)(ih:∀k∈S.kids n,znv s r v c m1 m2 m3 L lim cnt rd S to (S.root k)):znv s r v c m1 m2 m3 L lim cnt rd S to n:=by
 intro Z hZ
 have hlen:=hS.len
 have hst:=zoV (to:=to) hS.wf0 hn hrr
 have hnl:n<L.length:=by omega
 have hkl:(L.getD n default).1.kids=S.kids n:=by rw[<-L.nd,hS.nd n hn];rfl
 cases hg:mget Z (n:Int)with
 |some x=>
  obtain⟨n',e1,e2⟩:=hZ _ _ hg
  have en:n'=n:=by omega
  subst en
  refine⟨Z,hZ,fun F hc hs hr hm1 hm2=> ?_⟩
  rw[zVm hm2]
  unfold cpB at hc
  have hb:F.length<=F.length:=YAV _
  unfold DCalls
  have g1:((0:Int)<1)=True:=by simp
  have g2:((0:Int)<2)=True:=by simp
  cases hh:hld S to n'<;>rw[hh]at e2<;>simp only[if_true,if_false,YAB]at e2<;>subst e2
  ·refine eE C_ok Try.func92 Try.results92 fun ok=> ?_
   have h:=YAN
   repeat' (first
    |(with_reducible first|apply bA|apply bB|apply bC|apply bD|apply bE|apply bF)<;>intro h
    |refine zJ9 ?_ C_ok Try.f92.ntmps rfl (by decide)
    |skip)<;>simp only[h,↓zaL,↓zHC,WY,reduceIte,yA,yB,yC,yD,reduceCtorEq,yE,yF,W1,WS,W3,yH,yI,yJ,yK,yL,yM,hc,hm2,g1,g2,zHe,zHx,zPN,zMT,hg,Option.getD_some,Option.isSome_some,zFY]
  ·refine eE C_ok Try.func92 Try.results92 fun ok=> ?_
   have h:=YAN
   repeat' (first
    |(with_reducible first|apply bA|apply bB|apply bC|apply bD|apply bE|apply bF)<;>intro h
    |refine zJ9 ?_ C_ok Try.f92.ntmps rfl (by decide)
    |skip)<;>simp only[h,↓zaL,↓zHC,WY,reduceIte,yA,yB,yC,yD,reduceCtorEq,yE,yF,W1,WS,W3,yH,yI,yJ,yK,yL,yM,hc,hm2,g1,g2,zHe,zHx,zPN,zMT,hg,Option.getD_some,Option.isSome_some,zFY]
 |none=>
  have hlk:S.link n=none:=by have:=hS.wf0.zUK n;rwa[hrr]at this
  rcases hS.wf0.shape hn hlk with ⟨_,_,hk⟩|⟨_,_,hk⟩|⟨i,j,_,hk⟩|⟨i,_,hk⟩
  ·rw[hk]at hst hkl
   simp only[List.any_nil,Bool.or_false]at hst
   refine⟨mput Z n (if hld S to n then 1 else 2),hZ.put rfl,fun F hc hs hr hm1 hm2=> ?_⟩
   have hb:F.length<=F.length:=YAV _
   have hml:=zIc hm2
   have nc:m2≠c:=by rintro rfl;rw[hm2]at hc;simp[cpB]at hc
   have ns:m2≠s:=by rintro rfl;rw[hm2]at hs;simp[bxS]at hs
   have nr:m2≠r:=by rintro rfl;rw[hm2]at hr;simp[arS]at hr
   have hc2:∀X,(F.set m2 X)[c]?=some (cpB s m1 m2 m3):=fun X=>by rw[zVk nc];exact hc
   have hs2:∀X,(F.set m2 X)[s]?=some (bxS r v L.length lim cnt rd):=fun X=>by rw[zVk ns];exact hs
   have hr2:∀X,(F.set m2 X)[r]?=some (arS v L):=fun X=>by rw[zVk nr];exact hr
   have h12':∀X,(F.set m2 X)[m1]?=some (.map (embM to)):=fun X=>by rw[zVk (fun h=>h12 h.symm)];exact hm1
   have h22:∀X,(F.set m2 X)[m2]?=some X:=fun X=>zVl hml
   have hc3:=hc;unfold cpB at hc3
   have hc4:=hc2;unfold cpB at hc4
   have hs3:=hs;unfold bxS at hs3
   have hr3:=hr;unfold arS at hr3
   unfold DCalls
   cases ht:mget to (n:Int)<;>rw[ht]at hst<;>rw[hst]
   ·refine eE C_ok Try.func92 Try.results92 fun ok=> ?_
    have h:=YAN
    repeat' (first
     |(with_reducible first|apply bA|apply bB|apply bC|apply bD|apply bE|apply bF)<;>intro h
     |refine zJ9 ?_ C_ok Try.f92.ntmps rfl (by decide)
     |skip)<;>simp only[h,↓zaL,↓zHC,WY,reduceIte,yA,yB,yC,yD,reduceCtorEq,yE,yF,W1,WS,W3,yH,yI,yJ,yK,yL,yM,hc3,hc4,hm1,hm2,hs3,hr3,h22,zHe,zHx,zPN,zOl,zMT,hg,ht,Option.getD_none,Option.isSome_none,Option.getD_some,Option.isSome_some,zOg,hnl,zOf hnl,zGZ,hkl,kidI,I64,List.set_set,yN,implies_true,zFY]
    all_goals exact⟨rfl,rfl⟩
   ·refine eE C_ok Try.func92 Try.results92 fun ok=> ?_
    have h:=YAN
    repeat' (first
     |(with_reducible first|apply bA|apply bB|apply bC|apply bD|apply bE|apply bF)<;>intro h
     |refine zJ9 ?_ C_ok Try.f92.ntmps rfl (by decide)
     |skip)<;>simp only[h,↓zaL,↓zHC,WY,reduceIte,yA,yB,yC,yD,reduceCtorEq,yE,yF,W1,WS,W3,yH,yI,yJ,yK,yL,yM,hc3,hc4,hm1,hm2,hs3,hr3,h22,zHe,zHx,zPN,zOl,zMT,hg,ht,Option.getD_none,Option.isSome_none,Option.getD_some,Option.isSome_some,zOg,hnl,zOf hnl,zGZ,hkl,kidI,I64,List.set_set,yN,implies_true,zFY]
    all_goals exact⟨rfl,rfl⟩
  ·rw[hk]at hst hkl
   simp only[List.any_nil,Bool.or_false]at hst
   refine⟨mput Z n (if hld S to n then 1 else 2),hZ.put rfl,fun F hc hs hr hm1 hm2=> ?_⟩
   have hb:F.length<=F.length:=YAV _
   have hml:=zIc hm2
   have nc:m2≠c:=by rintro rfl;rw[hm2]at hc;simp[cpB]at hc
   have ns:m2≠s:=by rintro rfl;rw[hm2]at hs;simp[bxS]at hs
   have nr:m2≠r:=by rintro rfl;rw[hm2]at hr;simp[arS]at hr
   have hc2:∀X,(F.set m2 X)[c]?=some (cpB s m1 m2 m3):=fun X=>by rw[zVk nc];exact hc
   have hs2:∀X,(F.set m2 X)[s]?=some (bxS r v L.length lim cnt rd):=fun X=>by rw[zVk ns];exact hs
   have hr2:∀X,(F.set m2 X)[r]?=some (arS v L):=fun X=>by rw[zVk nr];exact hr
   have h12':∀X,(F.set m2 X)[m1]?=some (.map (embM to)):=fun X=>by rw[zVk (fun h=>h12 h.symm)];exact hm1
   have h22:∀X,(F.set m2 X)[m2]?=some X:=fun X=>zVl hml
   have hc3:=hc;unfold cpB at hc3
   have hc4:=hc2;unfold cpB at hc4
   have hs3:=hs;unfold bxS at hs3
   have hr3:=hr;unfold arS at hr3
   unfold DCalls
   cases ht:mget to (n:Int)<;>rw[ht]at hst<;>rw[hst]
   ·refine eE C_ok Try.func92 Try.results92 fun ok=> ?_
    have h:=YAN
    repeat' (first
     |(with_reducible first|apply bA|apply bB|apply bC|apply bD|apply bE|apply bF)<;>intro h
     |refine zJ9 ?_ C_ok Try.f92.ntmps rfl (by decide)
     |skip)<;>simp only[h,↓zaL,↓zHC,WY,reduceIte,yA,yB,yC,yD,reduceCtorEq,yE,yF,W1,WS,W3,yH,yI,yJ,yK,yL,yM,hc3,hc4,hm1,hm2,hs3,hr3,h22,zHe,zHx,zPN,zOl,zMT,hg,ht,Option.getD_none,Option.isSome_none,Option.getD_some,Option.isSome_some,zOg,hnl,zOf hnl,zGZ,hkl,kidI,I64,List.set_set,yN,implies_true,zFY]
    all_goals exact⟨rfl,rfl⟩
   ·refine eE C_ok Try.func92 Try.results92 fun ok=> ?_
    have h:=YAN
    repeat' (first
     |(with_reducible first|apply bA|apply bB|apply bC|apply bD|apply bE|apply bF)<;>intro h
     |refine zJ9 ?_ C_ok Try.f92.ntmps rfl (by decide)
     |skip)<;>simp only[h,↓zaL,↓zHC,WY,reduceIte,yA,yB,yC,yD,reduceCtorEq,yE,yF,W1,WS,W3,yH,yI,yJ,yK,yL,yM,hc3,hc4,hm1,hm2,hs3,hr3,h22,zHe,zHx,zPN,zOl,zMT,hg,ht,Option.getD_none,Option.isSome_none,Option.getD_some,Option.isSome_some,zOg,hnl,zOf hnl,zGZ,hkl,kidI,I64,List.set_set,yN,implies_true,zFY]
    all_goals exact⟨rfl,rfl⟩
  ·rw[hk]at hst ih hkl
   obtain⟨Z1,hV1,q1⟩:=ih i (by simp) Z hZ
   obtain⟨Z2,hV2,q2⟩:=ih j (by simp) Z1 hV1
   have hil:i<S.length:=hS.wf0.zMa (i:=n) (by rw[hk];simp)
   have hjl:j<S.length:=hS.wf0.zMa (i:=n) (by rw[hk];simp)
   have ri:=hS.rt i hil
   have rj:=hS.rt j hjl
   simp only[List.any_cons,List.any_nil,Bool.or_false]at hst
   refine⟨mput Z2 n (if hld S to n then 1 else 2),hV2.put rfl,fun F hc hs hr hm1 hm2=> ?_⟩
   have hb:F.length<=F.length:=YAV _
   have hml:=zIc hm2
   have nc:m2≠c:=by rintro rfl;rw[hm2]at hc;simp[cpB]at hc
   have ns:m2≠s:=by rintro rfl;rw[hm2]at hs;simp[bxS]at hs
   have nr:m2≠r:=by rintro rfl;rw[hm2]at hr;simp[arS]at hr
   have hc2:∀X,(F.set m2 X)[c]?=some (cpB s m1 m2 m3):=fun X=>by rw[zVk nc];exact hc
   have hs2:∀X,(F.set m2 X)[s]?=some (bxS r v L.length lim cnt rd):=fun X=>by rw[zVk ns];exact hs
   have hr2:∀X,(F.set m2 X)[r]?=some (arS v L):=fun X=>by rw[zVk nr];exact hr
   have h12':∀X,(F.set m2 X)[m1]?=some (.map (embM to)):=fun X=>by rw[zVk (fun h=>h12 h.symm)];exact hm1
   have h22:∀X,(F.set m2 X)[m2]?=some X:=fun X=>zVl hml
   have hc3:=hc;unfold cpB at hc3
   have hc4:=hc2;unfold cpB at hc4
   have hs3:=hs;unfold bxS at hs3
   have hr3:=hr;unfold arS at hr3
   have p1:=zUH hs hr hS.wf i (by omega)
   have p2:=zUH (hs2 (.map (embM Z1))) (hr2 _) hS.wf j (by omega)
   rw[ri]at p1
   rw[rj]at p2
   have q1':=q1 F hc hs hr hm1 hm2
   have q2':=q2 (F.set m2 (.map (embM Z1))) (hc2 _) (hs2 _) (hr2 _) (h12' _) (h22 _)
   clear hc hs hr hc2 ih q1 q2 hS
   unfold DCalls
   generalize hld S to (S.root i)=b1 at*
   generalize hld S to (S.root j)=b2 at*
   cases ht:mget to (n:Int)<;>rw[ht]at hst<;>rw[hst]<;>cases b1<;>cases b2
   all_goals
    refine eE C_ok Try.func92 Try.results92 fun ok=> ?_
    have h:=YAN
    repeat' (first
     |(with_reducible first|apply bA|apply bB|apply bC|apply bD|apply bE|apply bF)<;>intro h
     |((first|apply bG|apply bH);simp only[yP,yQ,W2,W3,yH,yI,yJ,yK,yL,yM,hc3,hc4,hm1,hm2,hs3,hr3,h22,zHe,zHx,zPN,zOl,zMT,hg,ht,Option.getD_none,Option.isSome_none,Option.getD_some,Option.isSome_some,zOg,hnl,zOf hnl,zGZ,hkl,kidI,I64,List.set_set,yN,implies_true];first|refine zIB (p1) (.inl rfl) ?_|refine zIB (p2) (.inl rfl) ?_|refine zIA (q1') (.inl rfl) (fun hb=>zd9 (zGW _ _) hb) ?_|refine zIA (q2') (.inl rfl) (fun hb=>zd9 (zGW _ _) hb) ?_)
     |refine zJ9 ?_ C_ok Try.f92.ntmps rfl (by decide)
     |skip)<;>simp only[h,↓zaL,↓zHC,WY,reduceIte,yA,yB,yC,yD,reduceCtorEq,yE,yF,W1,WS,W3,yH,yI,yJ,yK,yL,yM,hc3,hc4,hm1,hm2,hs3,hr3,h22,zHe,zHx,zPN,zOl,zMT,hg,ht,Option.getD_none,Option.isSome_none,Option.getD_some,Option.isSome_some,zOg,hnl,zOf hnl,zGZ,hkl,kidI,I64,List.set_set,yN,implies_true,zFY]
   all_goals exact⟨rfl,rfl⟩
  ·rw[hk]at hst ih hkl
   obtain⟨Z1,hV1,q1⟩:=ih i (by simp) Z hZ
   have hil:i<S.length:=hS.wf0.zMa (i:=n) (by rw[hk];simp)
   have ri:=hS.rt i hil
   simp only[List.any_cons,List.any_nil,Bool.or_false]at hst
   refine⟨mput Z1 n (if hld S to n then 1 else 2),hV1.put rfl,fun F hc hs hr hm1 hm2=> ?_⟩
   have hb:F.length<=F.length:=YAV _
   have hml:=zIc hm2
   have nc:m2≠c:=by rintro rfl;rw[hm2]at hc;simp[cpB]at hc
   have ns:m2≠s:=by rintro rfl;rw[hm2]at hs;simp[bxS]at hs
   have nr:m2≠r:=by rintro rfl;rw[hm2]at hr;simp[arS]at hr
   have hc2:∀X,(F.set m2 X)[c]?=some (cpB s m1 m2 m3):=fun X=>by rw[zVk nc];exact hc
   have hs2:∀X,(F.set m2 X)[s]?=some (bxS r v L.length lim cnt rd):=fun X=>by rw[zVk ns];exact hs
   have hr2:∀X,(F.set m2 X)[r]?=some (arS v L):=fun X=>by rw[zVk nr];exact hr
   have h12':∀X,(F.set m2 X)[m1]?=some (.map (embM to)):=fun X=>by rw[zVk (fun h=>h12 h.symm)];exact hm1
   have h22:∀X,(F.set m2 X)[m2]?=some X:=fun X=>zVl hml
   have hc3:=hc;unfold cpB at hc3
   have hc4:=hc2;unfold cpB at hc4
   have hs3:=hs;unfold bxS at hs3
   have hr3:=hr;unfold arS at hr3
   have p1:=zUH hs hr hS.wf i (by omega)
   rw[ri]at p1
   have q1':=q1 F hc hs hr hm1 hm2
   clear hc hs hr hc2 ih q1 hS
   unfold DCalls
   generalize hld S to (S.root i)=b1 at*
   cases ht:mget to (n:Int)<;>rw[ht]at hst<;>rw[hst]<;>cases b1
   all_goals
    refine eE C_ok Try.func92 Try.results92 fun ok=> ?_
    have h:=YAN
    repeat' (first
     |(with_reducible first|apply bA|apply bB|apply bC|apply bD|apply bE|apply bF)<;>intro h
     |((first|apply bG|apply bH);simp only[yP,yQ,W2,W3,yH,yI,yJ,yK,yL,yM,hc3,hc4,hm1,hm2,hs3,hr3,h22,zHe,zHx,zPN,zOl,zMT,hg,ht,Option.getD_none,Option.isSome_none,Option.getD_some,Option.isSome_some,zOg,hnl,zOf hnl,zGZ,hkl,kidI,I64,List.set_set,yN,implies_true];first|refine zIB (p1) (.inl rfl) ?_|refine zIA (q1') (.inl rfl) (fun hb=>zd9 (zGW _ _) hb) ?_)
     |refine zJ9 ?_ C_ok Try.f92.ntmps rfl (by decide)
     |skip)<;>simp only[h,↓zaL,↓zHC,WY,reduceIte,yA,yB,yC,yD,reduceCtorEq,yE,yF,W1,WS,W3,yH,yI,yJ,yK,yL,yM,hc3,hc4,hm1,hm2,hs3,hr3,h22,zHe,zHx,zPN,zOl,zMT,hg,ht,Option.getD_none,Option.isSome_none,Option.getD_some,Option.isSome_some,zOg,hnl,zOf hnl,zGZ,hkl,kidI,I64,List.set_set,yN,implies_true,zFY]
   all_goals exact⟨rfl,rfl⟩
theorem zoY(hS:Sm S L)(h12:m1≠m2):∀n,n<S.length->znv s r v c m1 m2 m3 L lim cnt rd S to (S.root n):=by
 refine hS.wf0.ind (p:=fun n=>n<S.length->znv s r v c m1 m2 m3 L lim cnt rd S to (S.root n)) fun n ih hn=>
  zoZ hS h12 (S.root n) (hS.wf0.root_lt n hn) (hS.wf0.zUQ n) fun k hk=>ih k hk (hS.wf0.zMa hk)
end
end Go.Proofs.Ytdngjamjccjlmaa
