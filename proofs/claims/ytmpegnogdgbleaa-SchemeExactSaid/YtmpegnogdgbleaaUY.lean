/- Walks: a graph of nodes with kids: below. No condition. -/
import Derived.Test.YtmpegnogdgbleaaUX
import Derived.Test.YtmpegnogdgbleaaE8
set_option linter.unusedSimpArgs false
set_option linter.unusedVariables false
set_option maxHeartbeats 4000000
set_option maxRecDepth 100000
namespace Go.Proofs.Ytmpegnogdgbleaa
open Go Go.Ab
open Nat renaming reduceEqDiff -> yA, reduceAdd -> yB, reduceLT -> yC, reduceLeDiff -> yD, reduceMul -> yE, reducePow -> yF
open Int renaming reduceAdd -> yH, reduceLT -> yI, reduceToNat -> yJ, reduceBEq -> yK, reduceBNe -> yL, reduceLE -> yM
open AV renaming belL -> yO, bel -> yN, normL -> yQ, norm -> yP
attribute [local irreducible] zA0 zAA zAa zAi zAj GoIf GoGb zAk GoO GoD GoX GoDX GoG GoDG GoGv zAl Go zAB
section
variable {F : List AObj} {g q c a b d : Nat} {x3 x6 : AObj}
theorem ziy(hD:SxdD F g q c a b d){x y x' y':Ty}(k:Int)(h5:(k==5)=false)(h6:(k==6)=false){r:Bool}{v v1 v2:Nat}{N N1 N2:List Nd}{A A1 A2 B B1 B2:List (Int×Nat)}
 (i1:∀F:List AObj,SxdD F g q c a b d->zAd Try.prog 41 [.bptr g 0,emb x,emb x'] (hpK F g q c a b d v N A B x3 x6) (.bool true) (hpK F g q c a b d v1 N1 A1 B1 x3 x6))
 (i2:∀F:List AObj,SxdD F g q c a b d->zAd Try.prog 41 [.bptr g 0,emb y,emb y'] (hpK F g q c a b d v1 N1 A1 B1 x3 x6) (.bool r) (hpK F g q c a b d v2 N2 A2 B2 x3 x6)):
 zAd Try.prog 41 [.bptr g 0,emb (.mk k 0 [x,y]),emb (.mk k 0 [x',y'])] (hpK F g q c a b d v N A B x3 x6) (.bool r) (hpK F g q c a b d v2 N2 A2 B2 x3 x6):=by
 cases r
 all_goals
  have hP:=sxdP hD
  have hgl:=hD.hs
  have f0:(F.length=g)=False:=by simp only[YAb,iff_false];omega
  have f1:∀k,(F.length+k=g)=False:=fun k=>by simp only[YAb,iff_false];omega
  unfold zAd
  refine eD C_ok Try.func41 Try.results41 fun ok=> ?_
  have h:=YAN
  repeat' (first
   |(with_reducible first|apply bA|apply bB|apply bC|apply bD|apply bE|apply bF)<;>intro h
   |((first|apply bG|apply bH);simp only[yP,yQ,W2,W2B,W3,yH,yI,yJ,yK,yL,yM,hpK,hP,List.map_cons,List.map_nil,YAO,zGx,zGy,yO,yN,implies_true,zTh,zTg,h5,h6];first|refine zIl rfl trivial (i1 _ (by first|exact hD|exact hD.app _)) (.inl rfl) (fun hb=>krB (by first|exact hD|exact hD.app _) hb) ?_|refine zIl rfl trivial (i2 _ (by first|exact hD|exact hD.app _)) (.inl rfl) (fun hb=>krB (by first|exact hD|exact hD.app _) hb) ?_)
   |refine drA C_ok 4 0 ?_
   |refine drA C_ok 10 0 ?_
   |refine zJ9 ?_ C_ok Try.f41.ntmps rfl (by decide)
   |skip)<;>simp only[h,↓zaL,↓zHC,WY,reduceIte,yA,yB,yC,yD,reduceCtorEq,yE,yF,W1,W1B,WS,W3,yH,yI,yJ,yK,yL,yM,hpK,hP,List.map_cons,List.map_nil,YAO,zGx,zGy,yO,yN,implies_true,zTh,zTg,h5,h6,zFY]
  all_goals first|rfl|trace_state
theorem ziz(hD:SxdD F g q c a b d){x y x' y':Ty}(k:Int)(h5:(k==5)=false)(h6:(k==6)=false){v v1:Nat}{N N1:List Nd}{A A1 B B1:List (Int×Nat)}
 (i1:∀F:List AObj,SxdD F g q c a b d->zAd Try.prog 41 [.bptr g 0,emb x,emb x'] (hpK F g q c a b d v N A B x3 x6) (.bool false) (hpK F g q c a b d v1 N1 A1 B1 x3 x6)):
 zAd Try.prog 41 [.bptr g 0,emb (.mk k 0 [x,y]),emb (.mk k 0 [x',y'])] (hpK F g q c a b d v N A B x3 x6) (.bool false) (hpK F g q c a b d v1 N1 A1 B1 x3 x6):=by
 have hP:=sxdP hD
 have hgl:=hD.hs
 have f0:(F.length=g)=False:=by simp only[YAb,iff_false];omega
 have f1:∀k,(F.length+k=g)=False:=fun k=>by simp only[YAb,iff_false];omega
 unfold zAd
 refine eD C_ok Try.func41 Try.results41 fun ok=> ?_
 have h:=YAN
 repeat' (first
  |(with_reducible first|apply bA|apply bB|apply bC|apply bD|apply bE|apply bF)<;>intro h
  |((first|apply bG|apply bH);simp only[yP,yQ,W2,W2B,W3,yH,yI,yJ,yK,yL,yM,hpK,hP,List.map_cons,List.map_nil,YAO,zGx,zGy,yO,yN,implies_true,zTh,zTg,h5,h6];refine zIl rfl trivial (i1 _ (by first|exact hD|exact hD.app _)) (.inl rfl) (fun hb=>krB (by first|exact hD|exact hD.app _) hb) ?_)
  |refine drA C_ok 4 0 ?_
  |refine drA C_ok 10 0 ?_
  |refine zJ9 ?_ C_ok Try.f41.ntmps rfl (by decide)
  |skip)<;>simp only[h,↓zaL,↓zHC,WY,reduceIte,yA,yB,yC,yD,reduceCtorEq,yE,yF,W1,W1B,WS,W3,yH,yI,yJ,yK,yL,yM,hpK,hP,List.map_cons,List.map_nil,YAO,zGx,zGy,yO,yN,implies_true,zTh,zTg,h5,h6,zFY]
 all_goals first|rfl|trace_state
theorem zix(hD:SxdD F g q c a b d){x x':Ty}(k:Int)(h5:(k==5)=false)(h6:(k==6)=false){r:Bool}{v v1:Nat}{N N1:List Nd}{A A1 B B1:List (Int×Nat)}
 (i1:∀F:List AObj,SxdD F g q c a b d->zAd Try.prog 41 [.bptr g 0,emb x,emb x'] (hpK F g q c a b d v N A B x3 x6) (.bool r) (hpK F g q c a b d v1 N1 A1 B1 x3 x6)):
 zAd Try.prog 41 [.bptr g 0,emb (.mk k 0 [x]),emb (.mk k 0 [x'])] (hpK F g q c a b d v N A B x3 x6) (.bool r) (hpK F g q c a b d v1 N1 A1 B1 x3 x6):=by
 cases r
 all_goals
  have hP:=sxdP hD
  have hgl:=hD.hs
  have f0:(F.length=g)=False:=by simp only[YAb,iff_false];omega
  have f1:∀k,(F.length+k=g)=False:=fun k=>by simp only[YAb,iff_false];omega
  unfold zAd
  refine eD C_ok Try.func41 Try.results41 fun ok=> ?_
  have h:=YAN
  repeat' (first
   |(with_reducible first|apply bA|apply bB|apply bC|apply bD|apply bE|apply bF)<;>intro h
   |((first|apply bG|apply bH);simp only[yP,yQ,W2,W2B,W3,yH,yI,yJ,yK,yL,yM,hpK,hP,List.map_cons,List.map_nil,YAO,zGx,zGy,yO,yN,implies_true,zTh,zTg,h5,h6];refine zIl rfl trivial (i1 _ (by first|exact hD|exact hD.app _)) (.inl rfl) (fun hb=>krB (by first|exact hD|exact hD.app _) hb) ?_)
   |refine drA C_ok 4 0 ?_
   |refine drA C_ok 10 0 ?_
   |refine zJ9 ?_ C_ok Try.f41.ntmps rfl (by decide)
   |skip)<;>simp only[h,↓zaL,↓zHC,WY,reduceIte,yA,yB,yC,yD,reduceCtorEq,yE,yF,W1,W1B,WS,W3,yH,yI,yJ,yK,yL,yM,hpK,hP,List.map_cons,List.map_nil,YAO,zGx,zGy,yO,yN,implies_true,zTh,zTg,h5,h6,zFY]
  all_goals first|rfl|trace_state
theorem zit(hD:SxdD F g q c a b d)(t u:Ty)(h:(u.kind==5)=true)(v:Nat)(N:List Nd)(A B:List (Int×Nat)):
 zAd Try.prog 41 [.bptr g 0,emb t,emb u] (hpK F g q c a b d v N A B x3 x6) (.bool true) (hpK F g q c a b d v N A B x3 x6):=by
 have hP:=sxdP hD
 have hgl:=hD.hs
 have f0:(F.length=g)=False:=by simp only[YAb,iff_false];omega
 have f1:∀k,(F.length+k=g)=False:=fun k=>by simp only[YAb,iff_false];omega
 unfold zAd
 refine eD zhT Try.func41 Try.results41 fun ok=> ?_
 repeat' first
  |(with_reducible first|apply bA|apply bB|apply bC|apply bD|apply bE|apply bF)<;>intro h<;>try simp only[h,↓zaL,↓zHC,WY,reduceIte,yA,yB,yC,yD,reduceCtorEq,yE,yF,W1,W1B,WS,W3,yH,yI,yJ,yK,yL,yM,zhU,zhS,zlW,exB,exB0,zjO,zjP,f0,f1,hpK,hP,List.map_cons,List.map_nil,YAO,zGx,zGy,yO,yN,implies_true,zTh,zTg,h,zFY]
  |refine zif (id:=4) zhT mixed [] 0 Try.f41.ntmps (by first|(simp;done)|(simp;omega)) rfl (by kernel_rfl) (by decide) ?_
  |refine zif (id:=10) zhT mixed [] 0 Try.f41.ntmps (by first|(simp;done)|(simp;omega)) rfl (by kernel_rfl) (by decide) ?_
  |refine zJ9 ?_ zhT Try.f41.ntmps rfl (by decide)
  |simp only[↓zaL,↓zHC,WY,reduceIte,yA,yB,yC,yD,reduceCtorEq,yE,yF,W1,W1B,WS,W3,yH,yI,yJ,yK,yL,yM,zhU,zhS,zlW,exB,exB0,zjO,zjP,f0,f1,hpK,hP,List.map_cons,List.map_nil,YAO,zGx,zGy,yO,yN,implies_true,zTh,zTg,h,zFY]
 all_goals first|rfl|trace_state
theorem ziv(hD:SxdD F g q c a b d)(t u:Ty)(h5:(u.kind==5)=false)(h6:(t.kind==6)=false)(h6':(u.kind==6)=false)(hk:(t.kind !=u.kind)=true)(v:Nat)(N:List Nd)(A B:List (Int×Nat)):
 zAd Try.prog 41 [.bptr g 0,emb t,emb u] (hpK F g q c a b d v N A B x3 x6) (.bool false) (hpK F g q c a b d v N A B x3 x6):=by
 have hP:=sxdP hD
 have hgl:=hD.hs
 have f0:(F.length=g)=False:=by simp only[YAb,iff_false];omega
 have f1:∀k,(F.length+k=g)=False:=fun k=>by simp only[YAb,iff_false];omega
 unfold zAd
 refine eD zhT Try.func41 Try.results41 fun ok=> ?_
 have h:=YAN
 repeat' (first
  |(with_reducible first|apply bA|apply bB|apply bC|apply bD|apply bE|apply bF)<;>intro h
  |refine zif (id:=4) zhT mixed [] 0 Try.f41.ntmps (by first|(simp;done)|(simp;omega)) rfl (by kernel_rfl) (by decide) ?_
  |refine zif (id:=10) zhT mixed [] 0 Try.f41.ntmps (by first|(simp;done)|(simp;omega)) rfl (by kernel_rfl) (by decide) ?_
  |refine zJ9 ?_ zhT Try.f41.ntmps rfl (by decide)
  |skip)<;>simp only[h,↓zaL,↓zHC,WY,reduceIte,yA,yB,yC,yD,reduceCtorEq,yE,yF,W1,W1B,WS,W3,yH,yI,yJ,yK,yL,yM,zhU,zhS,zlW,exB,exB0,zjO,zjP,f0,f1,hpK,hP,List.map_cons,List.map_nil,YAO,zGx,zGy,yO,yN,implies_true,zTh,zTg,h5,h6,h6',hk,zFY]
 all_goals first|rfl|trace_state
theorem zis(hD:SxdD F g q c a b d)(k:Int)(h5:(k==5)=false)(h6:(k==6)=false)(v:Nat)(N:List Nd)(A B:List (Int×Nat)):
 zAd Try.prog 41 [.bptr g 0,emb (.mk k 0 []),emb (.mk k 0 [])] (hpK F g q c a b d v N A B x3 x6) (.bool true) (hpK F g q c a b d v N A B x3 x6):=by
 have hP:=sxdP hD
 have hgl:=hD.hs
 have f0:(F.length=g)=False:=by simp only[YAb,iff_false];omega
 have f1:∀k,(F.length+k=g)=False:=fun k=>by simp only[YAb,iff_false];omega
 unfold zAd
 refine eD zhT Try.func41 Try.results41 fun ok=> ?_
 have h:=YAN
 repeat' (first
  |(with_reducible first|apply bA|apply bB|apply bC|apply bD|apply bE|apply bF)<;>intro h
  |refine zif (id:=4) zhT mixed [] 0 Try.f41.ntmps (by first|(simp;done)|(simp;omega)) rfl (by kernel_rfl) (by decide) ?_
  |refine zif (id:=10) zhT mixed [] 0 Try.f41.ntmps (by first|(simp;done)|(simp;omega)) rfl (by kernel_rfl) (by decide) ?_
  |refine zJ9 ?_ zhT Try.f41.ntmps rfl (by decide)
  |skip)<;>simp only[h,↓zaL,↓zHC,WY,reduceIte,yA,yB,yC,yD,reduceCtorEq,yE,yF,W1,W1B,WS,W3,yH,yI,yJ,yK,yL,yM,zhU,zhS,zlW,exB,exB0,zjO,zjP,f0,f1,hpK,hP,List.map_cons,List.map_nil,YAO,zGx,zGy,yO,yN,implies_true,zTh,zTg,h5,h6,zFY]
 all_goals first|rfl|trace_state
theorem ziw(hD:SxdD F g q c a b d)(t u:Ty)(h5:(u.kind==5)=false)(h6:((t.kind==6)||(u.kind==6))=true)(hs:without 5 t=false)(v:Nat)(N:List Nd)(A B:List (Int×Nat)):
 zAd Try.prog 41 [.bptr g 0,emb t,emb u] (hpK F g q c a b d v N A B x3 x6) (.bool false) (hpK F g q c a b d v N A B x3 x6):=by
 have hst:=zc3 t
 rw[hs]at hst
 cases h6a:(t.kind==6)
 ·rw[h6a,Bool.false_or]at h6
  have hP:=sxdP hD
  have hgl:=hD.hs
  have f0:(F.length=g)=False:=by simp only[YAb,iff_false];omega
  have f1:∀k,(F.length+k=g)=False:=fun k=>by simp only[YAb,iff_false];omega
  unfold zAd
  refine eD zhT Try.func41 Try.results41 fun ok=> ?_
  have h:=YAN
  repeat' (first
   |(with_reducible first|apply bA|apply bB|apply bC|apply bD|apply bE|apply bF)<;>intro h
   |((first|apply bG|apply bH);simp only[yP,yQ,W2,W2B,W3,yH,yI,yJ,yK,yL,yM,zhU,zhS,zlW,exB,exB0,zjO,zjP,f0,f1,hpK,hP,List.map_cons,List.map_nil,YAO,zGx,zGy,yO,yN,implies_true,zTh,zTg,h5,h6a,h6];first|refine zIf (hst) (.inl rfl) ?_|refine zIj (hst) (.inl rfl) ?_)
   |refine zif (id:=4) zhT mixed [] 0 Try.f41.ntmps (by first|(simp;done)|(simp;omega)) rfl (by kernel_rfl) (by decide) ?_
   |refine zif (id:=10) zhT mixed [] 0 Try.f41.ntmps (by first|(simp;done)|(simp;omega)) rfl (by kernel_rfl) (by decide) ?_
   |refine zJ9 ?_ zhT Try.f41.ntmps rfl (by decide)
   |skip)<;>simp only[h,↓zaL,↓zHC,WY,reduceIte,yA,yB,yC,yD,reduceCtorEq,yE,yF,W1,W1B,WS,W3,yH,yI,yJ,yK,yL,yM,zhU,zhS,zlW,exB,exB0,zjO,zjP,f0,f1,hpK,hP,List.map_cons,List.map_nil,YAO,zGx,zGy,yO,yN,implies_true,zTh,zTg,h5,h6a,h6,zFY]
  all_goals first|rfl|trace_state
 ·have hP:=sxdP hD
  have hgl:=hD.hs
  have f0:(F.length=g)=False:=by simp only[YAb,iff_false];omega
  have f1:∀k,(F.length+k=g)=False:=fun k=>by simp only[YAb,iff_false];omega
  unfold zAd
  refine eD zhT Try.func41 Try.results41 fun ok=> ?_
  have h:=YAN
  repeat' (first
   |(with_reducible first|apply bA|apply bB|apply bC|apply bD|apply bE|apply bF)<;>intro h
   |((first|apply bG|apply bH);simp only[yP,yQ,W2,W2B,W3,yH,yI,yJ,yK,yL,yM,zhU,zhS,zlW,exB,exB0,zjO,zjP,f0,f1,hpK,hP,List.map_cons,List.map_nil,YAO,zGx,zGy,yO,yN,implies_true,zTh,zTg,h5,h6a];first|refine zIf (hst) (.inl rfl) ?_|refine zIj (hst) (.inl rfl) ?_)
   |refine zif (id:=4) zhT mixed [] 0 Try.f41.ntmps (by first|(simp;done)|(simp;omega)) rfl (by kernel_rfl) (by decide) ?_
   |refine zif (id:=10) zhT mixed [] 0 Try.f41.ntmps (by first|(simp;done)|(simp;omega)) rfl (by kernel_rfl) (by decide) ?_
   |refine zJ9 ?_ zhT Try.f41.ntmps rfl (by decide)
   |skip)<;>simp only[h,↓zaL,↓zHC,WY,reduceIte,yA,yB,yC,yD,reduceCtorEq,yE,yF,W1,W1B,WS,W3,yH,yI,yJ,yK,yL,yM,zhU,zhS,zlW,exB,exB0,zjO,zjP,f0,f1,hpK,hP,List.map_cons,List.map_nil,YAO,zGx,zGy,yO,yN,implies_true,zTh,zTg,h5,h6a,zFY]
  all_goals first|rfl|trace_state
theorem ziu(hD:SxdD F g q c a b d)(t u:Ty)(h5:(u.kind==5)=false)(h6:((t.kind==6)||(u.kind==6))=true)(hs:without 5 t=true){r:Bool}{i j:Nat}{v v1 v2 v3:Nat}{N N1 N2 N3:List Nd}{A A1 A2 A3 B B1 B2 B3:List (Int×Nat)}
 (p1:∀F:List AObj,SxdD F g q c a b d->zAd Try.prog 59 [.bptr g 0,emb t,.mp a] (hpK F g q c a b d v N A B x3 x6) (.int .i64 i) (hpK F g q c a b d v1 N1 A1 B1 x3 x6))
 (p2:∀F:List AObj,SxdD F g q c a b d->zAd Try.prog 59 [.bptr g 0,emb u,.mp b] (hpK F g q c a b d v1 N1 A1 B1 x3 x6) (.int .i64 j) (hpK F g q c a b d v2 N2 A2 B2 x3 x6))
 (p3:∀F:List AObj,SxdD F g q c a b d->zAd Try.prog 58 [.bptr g 0,.int .i64 i,.int .i64 j] (hpK F g q c a b d v2 N2 A2 B2 x3 x6) (.bool r) (hpK F g q c a b d v3 N3 A3 B3 x3 x6)):
 zAd Try.prog 41 [.bptr g 0,emb t,emb u] (hpK F g q c a b d v N A B x3 x6) (.bool r) (hpK F g q c a b d v3 N3 A3 B3 x3 x6):=by
 have hst:=zc3 t
 rw[hs]at hst
 cases h6a:(t.kind==6)
 ·rw[h6a,Bool.false_or]at h6
  have hP:=sxdP hD
  have hgl:=hD.hs
  have f0:(F.length=g)=False:=by simp only[YAb,iff_false];omega
  have f1:∀k,(F.length+k=g)=False:=fun k=>by simp only[YAb,iff_false];omega
  unfold zAd
  refine eD zhT Try.func41 Try.results41 fun ok=> ?_
  have h:=YAN
  repeat' (first
   |(with_reducible first|apply bA|apply bB|apply bC|apply bD|apply bE|apply bF)<;>intro h
   |((first|apply bG|apply bH);simp only[yP,yQ,W2,W2B,W3,yH,yI,yJ,yK,yL,yM,zhU,zhS,zlW,exB,exB0,zjO,zjP,f0,f1,hpK,hP,List.map_cons,List.map_nil,YAO,zGx,zGy,yO,yN,implies_true,zTh,zTg,h5,h6a,h6];first|refine zIf (hst) (.inl rfl) ?_|refine zIj (hst) (.inl rfl) ?_|refine zIl rfl (zfrI rfl rfl (zik (hD.app _))) (p1 _ (hD.app _)) (.inl rfl) (fun hb=>krB (hD.app _) hb) ?_|refine zIl rfl (zfrI rfl rfl (zik hD)) (p1 _ hD) (.inl rfl) (fun hb=>krB hD hb) ?_|refine zIl rfl (zfrI rfl rfl (zik (hD.app _))) (p2 _ (hD.app _)) (.inl rfl) (fun hb=>krB (hD.app _) hb) ?_|refine zIl rfl (zfrI rfl rfl (zik hD)) (p2 _ hD) (.inl rfl) (fun hb=>krB hD hb) ?_|refine zIl rfl (zfrI rfl rfl (zik (hD.app _))) (p3 _ (hD.app _)) (.inl rfl) (fun hb=>krB (hD.app _) hb) ?_|refine zIl rfl (zfrI rfl rfl (zik hD)) (p3 _ hD) (.inl rfl) (fun hb=>krB hD hb) ?_)
   |refine zif (id:=4) zhT mixed [] 0 Try.f41.ntmps (by first|(simp;done)|(simp;omega)) rfl (by kernel_rfl) (by decide) ?_
   |refine zif (id:=10) zhT mixed [] 0 Try.f41.ntmps (by first|(simp;done)|(simp;omega)) rfl (by kernel_rfl) (by decide) ?_
   |refine zJ9 ?_ zhT Try.f41.ntmps rfl (by decide)
   |skip)<;>simp only[h,↓zaL,↓zHC,WY,reduceIte,yA,yB,yC,yD,reduceCtorEq,yE,yF,W1,W1B,WS,W3,yH,yI,yJ,yK,yL,yM,zhU,zhS,zlW,exB,exB0,zjO,zjP,f0,f1,hpK,hP,List.map_cons,List.map_nil,YAO,zGx,zGy,yO,yN,implies_true,zTh,zTg,h5,h6a,h6,zFY]
  all_goals first|rfl|trace_state
 ·have hP:=sxdP hD
  have hgl:=hD.hs
  have f0:(F.length=g)=False:=by simp only[YAb,iff_false];omega
  have f1:∀k,(F.length+k=g)=False:=fun k=>by simp only[YAb,iff_false];omega
  unfold zAd
  refine eD zhT Try.func41 Try.results41 fun ok=> ?_
  have h:=YAN
  repeat' (first
   |(with_reducible first|apply bA|apply bB|apply bC|apply bD|apply bE|apply bF)<;>intro h
   |((first|apply bG|apply bH);simp only[yP,yQ,W2,W2B,W3,yH,yI,yJ,yK,yL,yM,zhU,zhS,zlW,exB,exB0,zjO,zjP,f0,f1,hpK,hP,List.map_cons,List.map_nil,YAO,zGx,zGy,yO,yN,implies_true,zTh,zTg,h5,h6a];first|refine zIf (hst) (.inl rfl) ?_|refine zIj (hst) (.inl rfl) ?_|refine zIl rfl (zfrI rfl rfl (zik (hD.app _))) (p1 _ (hD.app _)) (.inl rfl) (fun hb=>krB (hD.app _) hb) ?_|refine zIl rfl (zfrI rfl rfl (zik hD)) (p1 _ hD) (.inl rfl) (fun hb=>krB hD hb) ?_|refine zIl rfl (zfrI rfl rfl (zik (hD.app _))) (p2 _ (hD.app _)) (.inl rfl) (fun hb=>krB (hD.app _) hb) ?_|refine zIl rfl (zfrI rfl rfl (zik hD)) (p2 _ hD) (.inl rfl) (fun hb=>krB hD hb) ?_|refine zIl rfl (zfrI rfl rfl (zik (hD.app _))) (p3 _ (hD.app _)) (.inl rfl) (fun hb=>krB (hD.app _) hb) ?_|refine zIl rfl (zfrI rfl rfl (zik hD)) (p3 _ hD) (.inl rfl) (fun hb=>krB hD hb) ?_)
   |refine zif (id:=4) zhT mixed [] 0 Try.f41.ntmps (by first|(simp;done)|(simp;omega)) rfl (by kernel_rfl) (by decide) ?_
   |refine zif (id:=10) zhT mixed [] 0 Try.f41.ntmps (by first|(simp;done)|(simp;omega)) rfl (by kernel_rfl) (by decide) ?_
   |refine zJ9 ?_ zhT Try.f41.ntmps rfl (by decide)
   |skip)<;>simp only[h,↓zaL,↓zHC,WY,reduceIte,yA,yB,yC,yD,reduceCtorEq,yE,yF,W1,W1B,WS,W3,yH,yI,yJ,yK,yL,yM,zhU,zhS,zlW,exB,exB0,zjO,zjP,f0,f1,hpK,hP,List.map_cons,List.map_nil,YAO,zGx,zGy,yO,yN,implies_true,zTh,zTg,h5,h6a,zFY]
  all_goals first|rfl|trace_state
end
end Go.Proofs.Ytmpegnogdgbleaa
