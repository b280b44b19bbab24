/- Walks: what any right pattern binds in any right type, as the page says it. No condition. -/
import Derived.Test.YtdngjamjccjlmaaPQa
set_option linter.unusedSimpArgs false
set_option linter.unusedVariables false
set_option maxHeartbeats 4000000
set_option maxRecDepth 100000
namespace Go.Proofs.Ytdngjamjccjlmaa
open Go Go.Ab
open Nat renaming reduceEqDiff -> yA, reduceAdd -> yB, reduceLT -> yC, reduceLeDiff -> yD, reduceMul -> yE, reducePow -> yF, reduceBEq -> yG
open Int renaming reduceAdd -> yH, reduceLT -> yI, reduceToNat -> yJ, reduceBEq -> yK, reduceBNe -> yL, reduceLE -> yM
attribute [local irreducible] zA0 zAA zAa zAi zAj GoIf GoGb zAk GoO GoD GoX GoDX GoG GoDG GoGv zAl Go zAB
theorem zco(pt:Pt)(u:Ty)(hk:pt.kind=1):zAD 75 pt u:=by
 intro L a F hsz hacc
 have hm:zDo pt u L=some L:=by rw[zDq _ _ (by omega),if_pos hk]
 rw[hm]
 have hBE:∀j:Int,(pt.kind==j)=((1:Int)==j):=fun j=>by rw[hk]
 have hb:F.length<=F.length:=YAV _
 refine⟨.tup [a,.bool true],F++bx2 pt u,?_,⟨_,_,_,rfl,AccR.junk hacc _,fun L' h=>by cases h;exact⟨rfl,rfl⟩⟩⟩
 unfold zAd
 simp only[bx2,zGi,zGy]
 refine zBU zAP Try.func75 rfl (by decide) (YAL rfl) (by decide) fun ok=> ?_
 rw[Try.results75]
 have h:=YAN
 repeat' (first
  |(with_reducible first|apply bA|apply bB|apply bC|apply bD|apply bE|apply bF)<;>intro h
  |refine zKh (id:=10) zAP (fun _=>trivial) mixed 0 Try.f75.ntmps (by first|(simp;done)|(simp;omega)) rfl (by kernel_rfl) (by decide) ?_
  |refine zKh (id:=14) zAP (fun _=>trivial) mixed 0 Try.f75.ntmps (by first|(simp;done)|(simp;omega)) rfl (by kernel_rfl) (by decide) ?_
  |refine zKh (id:=17) zAP (fun _=>trivial) mixed 0 Try.f75.ntmps (by first|(simp;done)|(simp;omega)) rfl (by kernel_rfl) (by decide) ?_
  |refine zKh (id:=19) zAP (fun _=>trivial) mixed 0 Try.f75.ntmps (by first|(simp;done)|(simp;omega)) rfl (by kernel_rfl) (by decide) ?_
  |refine zKh (id:=22) zAP (fun _=>trivial) mixed 0 Try.f75.ntmps (by first|(simp;done)|(simp;omega)) rfl (by kernel_rfl) (by decide) ?_
  |refine zKh (id:=25) zAP (fun _=>trivial) mixed 0 Try.f75.ntmps (by first|(simp;done)|(simp;omega)) rfl (by kernel_rfl) (by decide) ?_
  |skip)<;>simp only[h,↓zaL,↓zHC,WY,reduceIte,yA,yB,yC,yD,reduceCtorEq,yE,yF,W1,W1P,W1E,WS,zAQ,zAO,YAB,hBE,yK,List.not_mem_nil]
theorem zcq(pt:Pt)(u:Ty)(hk:pt.kind=2):zAD 75 pt u:=by
 intro L a F hsz hacc
 have hm:zDo pt u L=some (L++ [(pt.name,u)]):=by rw[zDq _ _ (by omega),if_neg (by omega),if_pos hk]
 rw[hm]
 have hBE:∀j:Int,(pt.kind==j)=((2:Int)==j):=fun j=>by rw[hk]
 have hb:F.length<=F.length:=YAV _
 rcases hacc with ⟨e1,rfl⟩|⟨q,rfl,hq⟩
 ·obtain rfl:L=[]:=List.map_eq_nil_iff.1 e1
  refine⟨.tup [.sl [embE (pt.name,u)] (.own (F.length+2)),.bool true],F++(bx2 pt u++ [.tok 1 4]),?_,⟨_,_,_,rfl,zBV (bx2 pt u) _,fun L' h=>by cases h;exact⟨rfl,rfl⟩⟩⟩
  unfold zAd
  simp only[bx2,zGi,zGy]
  refine zBU zAP Try.func75 rfl (by decide) (YAL rfl) (by decide) fun ok=> ?_
  rw[Try.results75]
  have h:=YAN
  repeat' (first
   |(with_reducible first|apply bA|apply bB|apply bC|apply bD|apply bE|apply bF)<;>intro h
   |refine zKh (id:=10) zAP (fun _=>trivial) mixed 0 Try.f75.ntmps (by first|(simp;done)|(simp;omega)) rfl (by kernel_rfl) (by decide) ?_
   |refine zKh (id:=14) zAP (fun _=>trivial) mixed 0 Try.f75.ntmps (by first|(simp;done)|(simp;omega)) rfl (by kernel_rfl) (by decide) ?_
   |refine zKh (id:=17) zAP (fun _=>trivial) mixed 0 Try.f75.ntmps (by first|(simp;done)|(simp;omega)) rfl (by kernel_rfl) (by decide) ?_
   |refine zKh (id:=19) zAP (fun _=>trivial) mixed 0 Try.f75.ntmps (by first|(simp;done)|(simp;omega)) rfl (by kernel_rfl) (by decide) ?_
   |refine zKh (id:=22) zAP (fun _=>trivial) mixed 0 Try.f75.ntmps (by first|(simp;done)|(simp;omega)) rfl (by kernel_rfl) (by decide) ?_
   |refine zKh (id:=25) zAP (fun _=>trivial) mixed 0 Try.f75.ntmps (by first|(simp;done)|(simp;omega)) rfl (by kernel_rfl) (by decide) ?_
   |skip)<;>simp only[h,↓zaL,↓zHC,WY,reduceIte,yA,yB,yC,yD,reduceCtorEq,yE,yF,W1,W1P,W1E,WS,zAQ,zAO,YAB,hBE,yK,List.not_mem_nil]
 ·have hql:=zIc hq
  rw[YAK]at hq
  refine⟨.tup [.sl (L.map embE++ [embE (pt.name,u)]) (.own q),.bool true],F.set q (.tok (L.length+1) 4)++bx2 pt u,?_,
   ⟨_,(L++ [(pt.name,u)]).map embE,.sl ((L++ [(pt.name,u)]).map embE) (.own q),rfl,⟨bx2 pt u,rfl,by rw[YAK,YAJ];rfl⟩,fun L' h=>by cases h;exact⟨by simp,rfl⟩⟩⟩
  unfold zAd
  simp only[bx2,zGi,zGy]
  refine zBU zAP Try.func75 rfl (by decide) (YAL rfl) (by decide) fun ok=> ?_
  rw[Try.results75]
  have h:=YAN
  repeat' (first
   |(with_reducible first|apply bA|apply bB|apply bC|apply bD|apply bE|apply bF)<;>intro h
   |refine zKh (id:=10) zAP (fun _=>trivial) mixed 0 Try.f75.ntmps (by first|(simp;done)|(simp;omega)) rfl (by kernel_rfl) (by decide) ?_
   |refine zKh (id:=14) zAP (fun _=>trivial) mixed 0 Try.f75.ntmps (by first|(simp;done)|(simp;omega)) rfl (by kernel_rfl) (by decide) ?_
   |refine zKh (id:=17) zAP (fun _=>trivial) mixed 0 Try.f75.ntmps (by first|(simp;done)|(simp;omega)) rfl (by kernel_rfl) (by decide) ?_
   |refine zKh (id:=19) zAP (fun _=>trivial) mixed 0 Try.f75.ntmps (by first|(simp;done)|(simp;omega)) rfl (by kernel_rfl) (by decide) ?_
   |refine zKh (id:=22) zAP (fun _=>trivial) mixed 0 Try.f75.ntmps (by first|(simp;done)|(simp;omega)) rfl (by kernel_rfl) (by decide) ?_
   |refine zKh (id:=25) zAP (fun _=>trivial) mixed 0 Try.f75.ntmps (by first|(simp;done)|(simp;omega)) rfl (by kernel_rfl) (by decide) ?_
   |skip)<;>simp only[h,↓zaL,↓zHC,WY,reduceIte,yA,yB,yC,yD,reduceCtorEq,yE,yF,W1,W1P,W1E,WS,zAQ,zAO,YAB,hBE,yK,zOc,zCS hql,zCW hql,hq,zCB,YAK]
  exact⟨by omega,by omega⟩
theorem zdD{k:Int}(h:3<=k/\k<=9):IntKind.wrap .i64 (IntKind.wrap .i64 (k-3)+1)=k-2:=by
 have e1:IntKind.i64.min= -9223372036854775808:=by decide
 have e2:IntKind.i64.max=9223372036854775807:=by decide
 rw[zbU .i64 (k-3) (by omega) (by omega),zbU .i64 _ (by omega) (by omega)];omega
theorem zcp(pt:Pt)(u:Ty)(hk:3<=pt.kind/\pt.kind<=9)(h7:pt.kind≠7)(h9:pt.kind≠9):zAD 75 pt u:=by
 intro L a F hsz hacc
 have hm:=zM7 (pt:=pt) (u:=u) (L:=L) (by omega) (by omega) h7 h9
 rw[hm]
 have wk:=zdD hk
 have hb:F.length<=F.length:=YAV _
 refine⟨.tup [a,.bool (u.kind==zM4 pt.kind)],F++bx2 pt u,?_,⟨_,_,_,by rw[isS],AccR.junk hacc _,fun L' h=>by cases zMG h;exact⟨rfl,rfl⟩⟩⟩
 have:pt.kind=3\/pt.kind=4\/pt.kind=5\/pt.kind=6\/pt.kind=8:=by omega
 have hlk:zM4 pt.kind=if pt.kind=8 then 8 else pt.kind-2:=by unfold zM4;split<;>split<;>omega
 rw[hlk]
 unfold zAd
 simp only[bx2,zGi,zGy]
 rcases this with h|h|h|h|h
 all_goals
  have hBE:∀j:Int,(pt.kind==j)=(j==pt.kind):=fun j=>by rw[Bool.eq_iff_iff];simp;constructor<;>intro h<;>exact h.symm
  rw[h]at hBE wk⊢
  simp only[Int.reduceSub,Int.reduceEq,if_true,if_false]at wk⊢
  refine zBU zAP Try.func75 rfl (by decide) (YAL rfl) (by decide) fun ok=> ?_
  rw[Try.results75]
  repeat' first
   |(with_reducible first|apply bA|apply bB|apply bC|apply bD|apply bE|apply bF)<;>intro h<;>try simp only[h,↓zaL,↓zHC,WY,reduceIte,yA,yB,yC,yD,reduceCtorEq,yE,yF,W1,W1P,W1E,WS,zAQ,zAO,YAB,h,hBE,wk,yK,List.not_mem_nil]
   |refine zKh (id:=10) zAP (fun _=>trivial) mixed 0 Try.f75.ntmps (by first|(simp;done)|(simp;omega)) rfl (by kernel_rfl) (by decide) ?_
   |refine zKh (id:=14) zAP (fun _=>trivial) mixed 0 Try.f75.ntmps (by first|(simp;done)|(simp;omega)) rfl (by kernel_rfl) (by decide) ?_
   |refine zKh (id:=17) zAP (fun _=>trivial) mixed 0 Try.f75.ntmps (by first|(simp;done)|(simp;omega)) rfl (by kernel_rfl) (by decide) ?_
   |refine zKh (id:=19) zAP (fun _=>trivial) mixed 0 Try.f75.ntmps (by first|(simp;done)|(simp;omega)) rfl (by kernel_rfl) (by decide) ?_
   |refine zKh (id:=22) zAP (fun _=>trivial) mixed 0 Try.f75.ntmps (by first|(simp;done)|(simp;omega)) rfl (by kernel_rfl) (by decide) ?_
   |refine zKh (id:=25) zAP (fun _=>trivial) mixed 0 Try.f75.ntmps (by first|(simp;done)|(simp;omega)) rfl (by kernel_rfl) (by decide) ?_
   |simp only[↓zaL,↓zHC,WY,reduceIte,yA,yB,yC,yD,reduceCtorEq,yE,yF,W1,W1P,W1E,WS,zAQ,zAO,YAB,h,hBE,wk,yK,List.not_mem_nil]
  try rfl
theorem zcI(pt:Pt)(u:Ty)(hl:pt.kids.length=2)(hw:(pt.kind=7/\u.kind≠7)\/(pt.kind=9/\u.kind≠8)):zAD 75 pt u:=by
 intro L a F hsz hacc
 have hm:zDo pt u L=none:=by
  rw[zDq _ _ (fun _=>hl),if_neg (by omega),if_neg (by omega)]
  by_cases h:pt.kind=7
  ·rw[if_pos h,if_neg (by omega)]
  ·rw[if_neg h,if_pos (by omega),if_neg (by omega)]
 rw[hm]
 have hb:F.length<=F.length:=YAV _
 refine⟨.tup [a,.bool false],F++bx2 pt u,?_,⟨_,_,_,rfl,AccR.junk hacc _,fun L' h=>by cases h⟩⟩
 unfold zAd
 simp only[bx2,zGi,zGy]
 have d:(pt.kind=7/\(u.kind !=7)=true)\/(pt.kind=9/\(u.kind !=8)=true):=by
  rcases hw with h|h
  ·exact .inl ⟨h.1,by simpa using h.2⟩
  ·exact .inr ⟨h.1,by simpa using h.2⟩
 rcases d with ⟨h,d⟩|⟨h,d⟩
 all_goals
  refine zBU zAP Try.func75 rfl (by decide) (YAL rfl) (by decide) fun ok=> ?_
  rw[Try.results75]
  repeat' first
   |(with_reducible first|apply bA|apply bB|apply bC|apply bD|apply bE|apply bF)<;>intro h<;>try simp only[h,↓zaL,↓zHC,WY,reduceIte,yA,yB,yC,yD,reduceCtorEq,yE,yF,W1,W1P,W1E,WS,zAQ,zAO,YAB,h,d,yK,List.not_mem_nil]
   |refine zKh (id:=10) zAP (fun _=>trivial) mixed 0 Try.f75.ntmps (by first|(simp;done)|(simp;omega)) rfl (by kernel_rfl) (by decide) ?_
   |refine zKh (id:=14) zAP (fun _=>trivial) mixed 0 Try.f75.ntmps (by first|(simp;done)|(simp;omega)) rfl (by kernel_rfl) (by decide) ?_
   |refine zKh (id:=17) zAP (fun _=>trivial) mixed 0 Try.f75.ntmps (by first|(simp;done)|(simp;omega)) rfl (by kernel_rfl) (by decide) ?_
   |refine zKh (id:=19) zAP (fun _=>trivial) mixed 0 Try.f75.ntmps (by first|(simp;done)|(simp;omega)) rfl (by kernel_rfl) (by decide) ?_
   |refine zKh (id:=22) zAP (fun _=>trivial) mixed 0 Try.f75.ntmps (by first|(simp;done)|(simp;omega)) rfl (by kernel_rfl) (by decide) ?_
   |refine zKh (id:=25) zAP (fun _=>trivial) mixed 0 Try.f75.ntmps (by first|(simp;done)|(simp;omega)) rfl (by kernel_rfl) (by decide) ?_
   |simp only[↓zaL,↓zHC,WY,reduceIte,yA,yB,yC,yD,reduceCtorEq,yE,yF,W1,W1P,W1E,WS,zAQ,zAO,YAB,h,d,yK,List.not_mem_nil]
theorem zcs(pt:Pt)(u u0 u1:Ty)(n:Int)(hl:pt.kids.length=2)(hw:(pt.kind=7/\u= .mk 7 n [u0,u1])\/(pt.kind=9/\u= .mk 8 n [u0]/\u1= .mk 8 n [u0]))(ho:∀x∈pt.kids,okA x=true)
 (ih:∀x∈pt.kids,∀y,y=u0\/y=u1->zAD 75 x y):zAD 75 pt u:=by
 intro L a F hsz hacc
 have hm:=wtwo hw hl L
 have hs1:zV6 (pt.kid 0)+zV6 (pt.kid 1)+1<=zV6 pt:=zWB hl
 have m0:=zSk (p:=pt) (i:=0) (by omega)
 have m1:=zSk (p:=pt) (i:=1) (by omega)
 obtain⟨p0,p1,hks⟩:∃p0 p1,pt.kids=[p0,p1]:=by
  match pt.kids,hl with
  | [p0,p1],_=>exact⟨p0,p1,rfl⟩
 have k0:pt.kid 0=p0:=by rw[Pt.kid,hks];rfl
 have k1:pt.kid 1=p1:=by rw[Pt.kid,hks];rfl
 rw[k0,k1]at hm hs1
 rw[k0]at m0
 rw[k1]at m1
 have hkm:pt.kids.map embP=[embP p0,embP p1]:=by rw[hks];rfl
 have hlen:=fun L' (h:zDo p0 u0 L=some L')=>(zDr p0 (ho _ m0) u0 L L' h).2
 obtain⟨F1,hF1⟩:∃F1,F1=F++(AObj.box (cellsOf (embP pt)):: .box (cellsOf (emb u)):: []):=⟨_,rfl⟩
 have hj1:AccR 4 F a (L.map embE) a F1:=by rw[hF1];exact AccR.junk hacc _
 have hacc1:=AccR.ok hacc hj1
 have hl1:F.length<=F1.length:=by rw[hF1];simp
 obtain⟨r1,F2,d1,h1⟩:=ih _ m0 u0 (.inl rfl) L a F1 (by omega) hacc1
 obtain⟨a1,es1,a2,rfl,hr1,hy1⟩:=h1.out
 have hle2:=hr1.len
 have hb2:(∀x∈F1.take F.length,x.bel F.length=true)->∀x∈F2.take F.length,x.bel F.length=true:=fun h=>hr1.bel hacc1 (by omega) h
 have hacc2:=AccR.ok hacc1 hr1
 have hb:F.length<=F.length:=YAV _
 rw[hm]
 cases hb1:zDo p0 u0 L with
 |none=>
  rw[hb1]at d1
  refine⟨.tup [a1,.bool false],F2,?_,⟨_,_,_,rfl,hj1.trans hacc hr1,fun L' h=>by cases h⟩⟩
  rw[hF1]at d1 hb2
  unfold zAd
  simp only[zGi,zGy,hkm,Option.isSome_none]at d1 hb2
  rcases hw with ⟨h,rfl⟩|⟨h,rfl,rfl⟩
  all_goals
   simp only[h,Ty.zMj,Ty.zQn,Ty.zMf,List.map_cons,List.map_nil]at d1 hb2
   refine zBU zAP Try.func75 rfl (by decide) (YAL rfl) (by decide) fun ok=> ?_
   rw[Try.results75]
   repeat' first
    |(with_reducible first|apply bA|apply bB|apply bC|apply bD|apply bE|apply bF)<;>intro h<;>try simp only[h,↓zaL,↓zHC,WY,reduceIte,yA,yB,yC,yD,reduceCtorEq,yE,yF,W1,W1P,W1E,WS,W3,yH,yI,yJ,yK,yL,yM,zAQ,zAO,YAB,h,hkm,yK,List.not_mem_nil,zFY]
    |refine zKh (id:=10) zAP (fun _=>trivial) mixed 0 Try.f75.ntmps (by first|(simp;done)|(simp;omega)) rfl (by kernel_rfl) (by decide) ?_
    |refine zKh (id:=14) zAP (fun _=>trivial) mixed 0 Try.f75.ntmps (by first|(simp;done)|(simp;omega)) rfl (by kernel_rfl) (by decide) ?_
    |refine zKh (id:=17) zAP (fun _=>trivial) mixed 0 Try.f75.ntmps (by first|(simp;done)|(simp;omega)) rfl (by kernel_rfl) (by decide) ?_
    |refine zKh (id:=19) zAP (fun _=>trivial) mixed 0 Try.f75.ntmps (by first|(simp;done)|(simp;omega)) rfl (by kernel_rfl) (by decide) ?_
    |refine zKh (id:=22) zAP (fun _=>trivial) mixed 0 Try.f75.ntmps (by first|(simp;done)|(simp;omega)) rfl (by kernel_rfl) (by decide) ?_
    |refine zKh (id:=25) zAP (fun _=>trivial) mixed 0 Try.f75.ntmps (by first|(simp;done)|(simp;omega)) rfl (by kernel_rfl) (by decide) ?_
    |refine zJ9 ?_ zAP Try.f75.ntmps rfl (by decide)
    |simp only[↓zaL,↓zHC,WY,reduceIte,yA,yB,yC,yD,reduceCtorEq,yE,yF,W1,W1P,W1E,WS,W3,yH,yI,yJ,yK,yL,yM,zAQ,zAO,YAB,h,hkm,yK,List.not_mem_nil,zFY]
   refine zIl rfl trivial d1 (.inl rfl) (fun hb=>hb2 hb) ?_
   repeat' first
    |(with_reducible first|apply bA|apply bB|apply bC|apply bD|apply bE|apply bF)<;>intro h<;>try simp only[h,↓zaL,↓zHC,WY,reduceIte,yA,yB,yC,yD,reduceCtorEq,yE,yF,W1,W1P,W1E,WS,W3,yH,yI,yJ,yK,yL,yM,zAQ,zAO,YAB,h,hkm,yK,List.not_mem_nil,zFY]
    |refine zKh (id:=10) zAP (fun _=>trivial) mixed 0 Try.f75.ntmps (by first|(simp;done)|(simp;omega)) rfl (by kernel_rfl) (by decide) ?_
    |refine zKh (id:=14) zAP (fun _=>trivial) mixed 0 Try.f75.ntmps (by first|(simp;done)|(simp;omega)) rfl (by kernel_rfl) (by decide) ?_
    |refine zKh (id:=17) zAP (fun _=>trivial) mixed 0 Try.f75.ntmps (by first|(simp;done)|(simp;omega)) rfl (by kernel_rfl) (by decide) ?_
    |refine zKh (id:=19) zAP (fun _=>trivial) mixed 0 Try.f75.ntmps (by first|(simp;done)|(simp;omega)) rfl (by kernel_rfl) (by decide) ?_
    |refine zKh (id:=22) zAP (fun _=>trivial) mixed 0 Try.f75.ntmps (by first|(simp;done)|(simp;omega)) rfl (by kernel_rfl) (by decide) ?_
    |refine zKh (id:=25) zAP (fun _=>trivial) mixed 0 Try.f75.ntmps (by first|(simp;done)|(simp;omega)) rfl (by kernel_rfl) (by decide) ?_
    |refine zJ9 ?_ zAP Try.f75.ntmps rfl (by decide)
    |simp only[↓zaL,↓zHC,WY,reduceIte,yA,yB,yC,yD,reduceCtorEq,yE,yF,W1,W1P,W1E,WS,W3,yH,yI,yJ,yK,yL,yM,zAQ,zAO,YAB,h,hkm,yK,List.not_mem_nil,zFY]
 |some L1=>
  rw[hb1]at d1
  obtain⟨rfl,rfl⟩:=hy1 L1 hb1
  have hlen2:=hlen L1 hb1
  obtain⟨r2,F4,d2,h2⟩:=ih _ m1 u1 (.inr rfl) L1 a1 F2 (by omega) hacc2
  obtain⟨a3,es3,a4,rfl,hr2,hy2⟩:=h2.out
  have hb4:(∀x∈F2.take F.length,x.bel F.length=true)->∀x∈F4.take F.length,x.bel F.length=true:=fun h=>hr2.bel hacc2 (by omega) h
  have hR:AccR 4 F a es3 a4 F4:=hj1.trans hacc (hr1.trans hacc1 hr2)
  have hlF:F.length<=F2.length:=by omega
  rw[hF1]at d1 hb2
  rw[Option.bind_some]
  refine⟨.tup [a3,.bool (zDo p1 u1 L1).isSome],F4,?_,⟨_,_,_,rfl,hR,hy2⟩⟩
  have hg0:∀x,(∀m,x≠ .tok m 4)->F1[F.length]?=some x->F2[F.length]?=some x:=fun x h h'=>hr1.get hacc1 h' h
  have hg1:∀x,(∀m,x≠ .tok m 4)->F1[F.length+1]?=some x->F2[F.length+1]?=some x:=fun x h h'=>hr1.get hacc1 h' h
  have g0:=hg0 (.box (cellsOf (embP pt))) (by intro m;simp) (by rw[hF1];simp)
  have g1:=hg1 (.box (cellsOf (emb u))) (by intro m;simp) (by rw[hF1];simp)
  unfold zAd
  generalize (zDo p1 u1 L1).isSome=b3 at*
  simp only[zGi,zGy,hkm,Option.isSome_some,Option.isSome_none]at d1 hb2 d2 hb4 g0 g1
  rcases hw with ⟨h,rfl⟩|⟨h,rfl,rfl⟩
  all_goals
   simp only[h,Ty.zMj,Ty.zQn,Ty.zMf,List.map_cons,List.map_nil]at d1 hb2 g0 g1
   refine zBU zAP Try.func75 rfl (by decide) (YAL rfl) (by decide) fun ok=> ?_
   rw[Try.results75]
   repeat' first
    |(with_reducible first|apply bA|apply bB|apply bC|apply bD|apply bE|apply bF)<;>intro h<;>try simp only[h,↓zaL,↓zHC,WY,reduceIte,yA,yB,yC,yD,reduceCtorEq,yE,yF,W1,W1P,W1E,WS,W3,yH,yI,yJ,yK,yL,yM,zAQ,zAO,YAB,h,hkm,yK,List.not_mem_nil,zFY]
    |refine zKh (id:=10) zAP (fun _=>trivial) mixed 0 Try.f75.ntmps (by first|(simp;done)|(simp;omega)) rfl (by kernel_rfl) (by decide) ?_
    |refine zKh (id:=14) zAP (fun _=>trivial) mixed 0 Try.f75.ntmps (by first|(simp;done)|(simp;omega)) rfl (by kernel_rfl) (by decide) ?_
    |refine zKh (id:=17) zAP (fun _=>trivial) mixed 0 Try.f75.ntmps (by first|(simp;done)|(simp;omega)) rfl (by kernel_rfl) (by decide) ?_
    |refine zKh (id:=19) zAP (fun _=>trivial) mixed 0 Try.f75.ntmps (by first|(simp;done)|(simp;omega)) rfl (by kernel_rfl) (by decide) ?_
    |refine zKh (id:=22) zAP (fun _=>trivial) mixed 0 Try.f75.ntmps (by first|(simp;done)|(simp;omega)) rfl (by kernel_rfl) (by decide) ?_
    |refine zKh (id:=25) zAP (fun _=>trivial) mixed 0 Try.f75.ntmps (by first|(simp;done)|(simp;omega)) rfl (by kernel_rfl) (by decide) ?_
    |refine zJ9 ?_ zAP Try.f75.ntmps rfl (by decide)
    |simp only[↓zaL,↓zHC,WY,reduceIte,yA,yB,yC,yD,reduceCtorEq,yE,yF,W1,W1P,W1E,WS,W3,yH,yI,yJ,yK,yL,yM,zAQ,zAO,YAB,h,hkm,yK,List.not_mem_nil,zFY]
   refine zIl rfl trivial d1 (.inl rfl) (fun hb=>hb2 hb) ?_
   repeat' first
    |(with_reducible first|apply bA|apply bB|apply bC|apply bD|apply bE|apply bF)<;>intro h<;>try simp only[h,↓zaL,↓zHC,WY,reduceIte,yA,yB,yC,yD,reduceCtorEq,yE,yF,W1,W1P,W1E,WS,W3,yH,yI,yJ,yK,yL,yM,zAQ,zAO,YAB,h,hkm,yK,List.not_mem_nil,hlF,g0,g1,zFY]
    |refine zKh (id:=10) zAP (fun _=>trivial) mixed 0 Try.f75.ntmps (by first|(simp;done)|(simp;omega)|exact hlF) rfl (by kernel_rfl) (by decide) ?_
    |refine zKh (id:=14) zAP (fun _=>trivial) mixed 0 Try.f75.ntmps (by first|(simp;done)|(simp;omega)|exact hlF) rfl (by kernel_rfl) (by decide) ?_
    |refine zKh (id:=17) zAP (fun _=>trivial) mixed 0 Try.f75.ntmps (by first|(simp;done)|(simp;omega)|exact hlF) rfl (by kernel_rfl) (by decide) ?_
    |refine zKh (id:=19) zAP (fun _=>trivial) mixed 0 Try.f75.ntmps (by first|(simp;done)|(simp;omega)|exact hlF) rfl (by kernel_rfl) (by decide) ?_
    |refine zKh (id:=22) zAP (fun _=>trivial) mixed 0 Try.f75.ntmps (by first|(simp;done)|(simp;omega)|exact hlF) rfl (by kernel_rfl) (by decide) ?_
    |refine zKh (id:=25) zAP (fun _=>trivial) mixed 0 Try.f75.ntmps (by first|(simp;done)|(simp;omega)|exact hlF) rfl (by kernel_rfl) (by decide) ?_
    |refine zJ9 ?_ zAP Try.f75.ntmps rfl (by decide)
    |simp only[↓zaL,↓zHC,WY,reduceIte,yA,yB,yC,yD,reduceCtorEq,yE,yF,W1,W1P,W1E,WS,W3,yH,yI,yJ,yK,yL,yM,zAQ,zAO,YAB,h,hkm,yK,List.not_mem_nil,hlF,g0,g1,zFY]
   refine zIl rfl trivial d2 (.inl rfl) (fun hb=>hb4 hb) ?_
   repeat' first
    |(with_reducible first|apply bA|apply bB|apply bC|apply bD|apply bE|apply bF)<;>intro h<;>try simp only[h,↓zaL,↓zHC,WY,reduceIte,yA,yB,yC,yD,reduceCtorEq,yE,yF,W1,W1P,W1E,WS,W3,yH,yI,yJ,yK,yL,yM,zAQ,zAO,YAB,h,hkm,yK,List.not_mem_nil,hlF,g0,g1,zFY]
    |refine zKh (id:=10) zAP (fun _=>trivial) mixed 0 Try.f75.ntmps (by first|(simp;done)|(simp;omega)|exact hlF) rfl (by kernel_rfl) (by decide) ?_
    |refine zKh (id:=14) zAP (fun _=>trivial) mixed 0 Try.f75.ntmps (by first|(simp;done)|(simp;omega)|exact hlF) rfl (by kernel_rfl) (by decide) ?_
    |refine zKh (id:=17) zAP (fun _=>trivial) mixed 0 Try.f75.ntmps (by first|(simp;done)|(simp;omega)|exact hlF) rfl (by kernel_rfl) (by decide) ?_
    |refine zKh (id:=19) zAP (fun _=>trivial) mixed 0 Try.f75.ntmps (by first|(simp;done)|(simp;omega)|exact hlF) rfl (by kernel_rfl) (by decide) ?_
    |refine zKh (id:=22) zAP (fun _=>trivial) mixed 0 Try.f75.ntmps (by first|(simp;done)|(simp;omega)|exact hlF) rfl (by kernel_rfl) (by decide) ?_
    |refine zKh (id:=25) zAP (fun _=>trivial) mixed 0 Try.f75.ntmps (by first|(simp;done)|(simp;omega)|exact hlF) rfl (by kernel_rfl) (by decide) ?_
    |refine zJ9 ?_ zAP Try.f75.ntmps rfl (by decide)
    |simp only[↓zaL,↓zHC,WY,reduceIte,yA,yB,yC,yD,reduceCtorEq,yE,yF,W1,W1P,W1E,WS,W3,yH,yI,yJ,yK,yL,yM,zAQ,zAO,YAB,h,hkm,yK,List.not_mem_nil,hlF,g0,g1,zFY]
theorem zcr:∀pt:Pt,okA pt=true->∀u:Ty,right u=true->zAD 75 pt u:=by
 refine Pt.ind fun pt ih ho u hr=> ?_
 obtain⟨hk,hks⟩:=zRH ho
 have hkd:=zRN hk
 have hl:=zRP hk
 by_cases h1:pt.kind=1
 ·exact zco pt u h1
 by_cases h2:pt.kind=2
 ·exact zcq pt u h2
 by_cases h7:pt.kind=7
 ·by_cases hu:u.kind=7
  ·obtain⟨g1,g2,g3⟩:=zCl hr hu
   exact zcs pt u (u.kid 0) (u.kid 1) u.num (hl (.inl h7)) (.inl ⟨h7,zYv g1 hu⟩) hks fun x hx y hy=>ih x hx (hks x hx) y (by rcases hy with rfl|rfl<;>assumption)
  ·exact zcI pt u (hl (.inl h7)) (.inl ⟨h7,hu⟩)
 by_cases h9:pt.kind=9
 ·by_cases hu:u.kind=8
  ·obtain⟨g1,g2⟩:=zCm hr hu
   have e:=zRi g1 hu
   exact zcs pt u (u.kid 0) (.mk 8 u.num [u.kid 0]) u.num (hl (.inr h9)) (.inr ⟨h9,e,rfl⟩) hks fun x hx y hy=>ih x hx (hks x hx) y (by rcases hy with rfl|rfl;assumption;rw[<-e];assumption)
  ·exact zcI pt u (hl (.inr h9)) (.inr ⟨h9,hu⟩)
 exact zcp pt u (by omega) h7 h9
end Go.Proofs.Ytdngjamjccjlmaa
