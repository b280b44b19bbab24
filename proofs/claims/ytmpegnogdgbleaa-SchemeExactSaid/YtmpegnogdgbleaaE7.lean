/- Walks: a graph: leaves and variables put, made the same, gone through. No condition. -/
import Derived.Test.YtmpegnogdgbleaaE6
set_option linter.unusedSimpArgs false
set_option linter.unusedVariables false
set_option maxHeartbeats 4000000
set_option maxRecDepth 100000
namespace Go.Proofs.Ytmpegnogdgbleaa
open Go Go.Ab
open Nat renaming reduceEqDiff -> yA, reduceAdd -> yB, reduceLT -> yC, reduceLeDiff -> yD, reduceMul -> yE, reducePow -> yF
open Int renaming reduceAdd -> yH, reduceLT -> yI, reduceToNat -> yJ, reduceBEq -> yK, reduceBNe -> yL, reduceLE -> yM
open AV renaming belL -> yO, bel -> yN, normL -> yQ, norm -> yP
attribute [local irreducible] zA0 zAA zAa zAi zAj GoIf GoGb zAk GoO GoD GoX GoDX GoG GoDG GoGv zAl Go zAB
section
variable {F : List AObj} {g q c a b d : Nat} {x3 x6 : AObj}
theorem zii(hD:SxdD F g q c a b d)(k:Int)(h5:(k==5)=false)(h6:(k==6)=false)(v:Nat)(N:List GN)(A B:List (Int×Int))(hN:N.length<=1000)(m:Nat):
 zAd Try.prog 59 [.bptr g 0,emb (.mk k 0 []),.mp m] (hpG F g q c a b d v N A B x3 x6) (.int .i64 N.length) (hpG F g q c a b d (v+1) (N++ [(k,(N.length:Int))]) A B x3 x6):=by
 have hP:=sxdP hD
 have qm:=fun F hD=>zid (F:=F) (g:=g) (q:=q) (c:=c) (a:=a) (b:=b) (d:=d) (x3:=x3) (x6:=x6) hD k v N A B hN
 unfold zAd
 refine eD C_ok Try.func59 Try.results59 fun ok=> ?_
 have h:=YAN
 repeat' (first
  |(with_reducible first|apply bA|apply bB|apply bC|apply bD|apply bE|apply bF)<;>intro h
  |((first|apply bG|apply bH);simp only[yP,yQ,W2,W2B,W3,yH,yI,yJ,yK,yL,yM,hpG,hP,h5,h6,YAK,zGx,yO,yN,zTh,zTg];refine zIA (qm _ (by first|exact hD|exact hD.app _)) (.inl rfl) (fun hb=>grB (by first|exact hD|exact hD.app _) hb) ?_)
  |refine drA C_ok 7 0 ?_
  |refine zJ9 ?_ C_ok Try.f59.ntmps rfl (by decide)
  |skip)<;>simp only[h,↓zaL,↓zHC,WY,reduceIte,yA,yB,yC,yD,reduceCtorEq,yE,yF,W1,W1B,WS,W3,yH,yI,yJ,yK,yL,yM,hpG,hP,h5,h6,YAK,zGx,yO,yN,zTh,zTg,zFY]
 all_goals rfl
def CZP:Cfg:= {C with zfr:=some (0,0),zld:=[(30,1)]}
theorem zhW:zAb Try.prog CZP:=C_ok
theorem zhX(t:Nat):CZP.ty t=C.ty t:=rfl
theorem zhV(t:Nat):CZP.inpl t=false:=rfl
theorem zlX(s:AState):ZLd CZP s=∃r0,s.env 0= .bptr r0 0/\LdOK r0 0 (s.env 30) 1:=by simp[ZLd,CZP]
theorem zij(hD:SxdD F g q c a b d)(n:Int)(v:Nat)(N:List GN)(A B:List (Int×Int))(hN:N.length<=1000)(hA:mget A n=none):
 zAd Try.prog 59 [.bptr g 0,emb (.mk 6 n []),.mp a] (hpG F g q c a b d v N A B x3 x6) (.int .i64 N.length) (hpG F g q c a b d (v+1) (N++ [(0,(N.length:Int))]) (mput A n N.length) B x3 x6):=by
 have hP:=sxdP hD
 have qm:=fun F hD=>zid (F:=F) (g:=g) (q:=q) (c:=c) (a:=a) (b:=b) (d:=d) (x3:=x3) (x6:=x6) hD 0 v N A B hN
 have hg2:mget (mput A n N.length) n=some (N.length:Int):=by rw[zPO,if_pos rfl]
 have hgl:=hD.hs
 have f0:(F.length=g)=False:=by simp only[YAb,iff_false];omega
 unfold zAd
 refine eD zhW Try.func59 Try.results59 fun ok=> ?_
 have h:=YAN
 repeat' (first
  |(with_reducible first|apply bA|apply bB|apply bC|apply bD|apply bE|apply bF)<;>intro h
  |((first|apply bG|apply bH);simp only[yP,yQ,W2,W2B,W3,yH,yI,yJ,yK,yL,yM,zhX,zhV,zlX,exB,exB0,zjO,zjP,f0,hpG,hP,zHe,zHx,zPN,zOl,zMT,hA,hg2,Option.getD_none,Option.isSome_none,Option.getD_some,Option.isSome_some,YAK,zGx,yO,yN,implies_true,zTh,zTg];first|refine zIl rfl (zfrI rfl rfl (zik (hD.app _))) (qm _ (hD.app _)) (.inl rfl) (fun hb=>grB (hD.app _) hb) ?_|refine zIl rfl (zfrI rfl rfl (zik hD)) (qm _ hD) (.inl rfl) (fun hb=>grB hD hb) ?_)
  |refine zif (id:=7) zhW mixed [] 0 Try.f59.ntmps (by first|(simp;done)|(simp;omega)) rfl (by kernel_rfl) (by decide) ?_
  |refine zJ9 ?_ zhW Try.f59.ntmps rfl (by decide)
  |skip)<;>simp only[h,↓zaL,↓zHC,WY,reduceIte,yA,yB,yC,yD,reduceCtorEq,yE,yF,W1,W1B,WS,W3,yH,yI,yJ,yK,yL,yM,zhX,zhV,zlX,exB,exB0,zjO,zjP,f0,hpG,hP,zHe,zHx,zPN,zOl,zMT,hA,hg2,Option.getD_none,Option.isSome_none,Option.getD_some,Option.isSome_some,YAK,zGx,yO,yN,implies_true,zTh,zTg,zFY]
def CZS:Cfg:= {C with zfr:=some (0,0),zld:=[(36,1)]}
theorem zhZ:zAb Try.prog CZS:=C_ok
theorem zha(t:Nat):CZS.ty t=C.ty t:=rfl
theorem zhY(t:Nat):CZS.inpl t=false:=rfl
theorem zlY(s:AState):ZLd CZS s=∃r0,s.env 0= .bptr r0 0/\LdOK r0 0 (s.env 36) 1:=by simp[ZLd,CZS]
theorem zio(hD:SxdD F g q c a b d)(v:Nat)(A B:List (Int×Int)):
 zAd Try.prog 58 [.bptr g 0,.int .i64 0,.int .i64 1] (hpG F g q c a b d v [(0,0),(1,1)] A B x3 x6) (.bool true) (hpG F g q c a b d v [(0,1),(1,1)] A B x3 x6):=by
 have hP:=sxdP hD
 have q0:=fun F hD=>zim (F:=F) (g:=g) (q:=q) (c:=c) (a:=a) (b:=b) (d:=d) (x3:=x3) (x6:=x6) hD v [(0,0),(1,1)] A B 0 (by decide) rfl
 have q1:=fun F hD=>zim (F:=F) (g:=g) (q:=q) (c:=c) (a:=a) (b:=b) (d:=d) (x3:=x3) (x6:=x6) hD v [(0,0),(1,1)] A B 1 (by decide) rfl
 have hgl:=hD.hs
 have f0:(F.length=g)=False:=by simp only[YAb,iff_false];omega
 have hmk:∀x y:Int,embG (x,y)=emb (.mk x y []):=fun _ _=>rfl
 have w10:IntKind.wrap .i64 (1-1)=0:=by decide
 have g10:((1:Int)>0)=True:=by simp
 have g00:((0:Int)>0)=False:=by simp
 unfold zAd
 refine eD zhZ Try.func58 Try.results58 fun ok=> ?_
 have h:=YAN
 repeat' (first
  |(with_reducible first|apply bA|apply bB|apply bC|apply bD|apply bE|apply bF)<;>intro h
  |((first|apply bG|apply bH);simp only[yP,yQ,W2,W2B,W3,yH,yI,yJ,yK,yL,yM,zha,zhY,zlY,exB,exB0,zjO,zjP,f0,hpG,hP,hmk,w10,g10,g00,List.map_cons,List.map_nil,YAK,zGx,zGy,yO,yN,implies_true,zTh,zTg];first|refine zIl rfl (zfrI rfl rfl (zik (hD.app _))) (q0 _ (hD.app _)) (.inl rfl) (fun hb=>grB (hD.app _) hb) ?_|refine zIl rfl (zfrI rfl rfl (zik hD)) (q0 _ hD) (.inl rfl) (fun hb=>grB hD hb) ?_|refine zIl rfl (zfrI rfl rfl (zik (hD.app _))) (q1 _ (hD.app _)) (.inl rfl) (fun hb=>grB (hD.app _) hb) ?_|refine zIl rfl (zfrI rfl rfl (zik hD)) (q1 _ hD) (.inl rfl) (fun hb=>grB hD hb) ?_)
  |refine zif (id:=5) zhZ mixed [] 0 Try.f58.ntmps (by first|(simp;done)|(simp;omega)) rfl (by kernel_rfl) (by decide) ?_
  |refine zif (id:=11) zhZ mixed [] 0 Try.f58.ntmps (by first|(simp;done)|(simp;omega)) rfl (by kernel_rfl) (by decide) ?_
  |refine zJ9 ?_ zhZ Try.f58.ntmps rfl (by decide)
  |skip)<;>simp only[h,↓zaL,↓zHC,WY,reduceIte,yA,yB,yC,yD,reduceCtorEq,yE,yF,W1,W1B,WS,W3,yH,yI,yJ,yK,yL,yM,zha,zhY,zlY,exB,exB0,zjO,zjP,f0,hpG,hP,hmk,w10,g10,g00,List.map_cons,List.map_nil,YAK,zGx,zGy,yO,yN,implies_true,zTh,zTg,zFY]
 all_goals first|rfl|trace_state
end
end Go.Proofs.Ytmpegnogdgbleaa
