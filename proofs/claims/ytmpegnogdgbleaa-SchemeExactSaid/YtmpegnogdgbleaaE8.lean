/- Walks: what the statements' witness asks of a graph. No condition. -/
import Derived.Test.YtmpegnogdgbleaaE7
set_option linter.unusedSimpArgs false
set_option linter.unusedVariables false
set_option maxHeartbeats 4000000
set_option maxRecDepth 100000
namespace Go.Proofs.Ytmpegnogdgbleaa
open Go Go.Ab
open Nat renaming reduceEqDiff -> yA, reduceAdd -> yB, reduceLT -> yC, reduceLeDiff -> yD, reduceMul -> yE, reducePow -> yF
open Int renaming reduceAdd -> yH, reduceLT -> yI, reduceToNat -> yJ, reduceBEq -> yK, reduceBNe -> yL, reduceLE -> yM
open AV renaming belL -> yO, bel -> yN, normL -> yQ, norm -> yP
attribute [local irreducible] zA0 zAA zAa zAi zAj GoIf GoGb zAk GoO GoD GoX GoDX GoG GoDG GoGv zAl Go zAB
section
variable {F : List AObj} {g q c a b d : Nat} {x3 x6 : AObj}
def stA(s0 s1:Int):AObj:= .arr 0 1 [.int .i64 s0,.int .i64 s1]
theorem zig(hD:SxdD F g q c a b d)(v:Nat)(A B:List (Int×Int)):
 zAd Try.prog 42 [.bptr g 0,.int .i64 0,.ms d 0 2] (hpG F g q c a b d v [(0,1),(1,1)] A B x3 (stA 0 0)) (.bool true) (hpG F g q c a b d v [(0,1),(1,1)] A B x3 (stA 0 2)):=by
 have hP:=sxdP hD
 have hmk:∀x y:Int,embG (x,y)=emb (.mk x y []):=fun _ _=>rfl
 have g00:((0:Int)>0)=False:=by simp
 have g20:((2:Int)>0)=True:=by simp
 have qr:=fun F hD=>zin (F:=F) (g:=g) (q:=q) (c:=c) (a:=a) (b:=b) (d:=d) (x3:=x3) (x6:=stA 0 0) hD v [(0,1),(1,1)] A B 0 1 (by decide) (by decide) (by decide) rfl rfl
 unfold stA at*
 unfold zAd
 refine eD C_ok Try.func42 Try.results42 fun ok=> ?_
 have h:=YAN
 repeat' (first
  |(with_reducible first|apply bA|apply bB|apply bC|apply bD|apply bE|apply bF)<;>intro h
  |((first|apply bG|apply bH);simp only[yP,yQ,W2,W2B,W3,yH,yI,yJ,yK,yL,yM,hpG,hP,hmk,g00,g20,List.map_cons,List.map_nil,YAK,zGx,zGy,yO,yN,implies_true,zTh,zTg];refine zIA (qr _ (by first|exact hD|exact hD.app _)) (.inl rfl) (fun hb=>grB (by first|exact hD|exact hD.app _) hb) ?_)
  |refine zJ9 ?_ C_ok Try.f42.ntmps rfl (by decide)
  |skip)<;>simp only[h,↓zaL,↓zHC,WY,reduceIte,yA,yB,yC,yD,reduceCtorEq,yE,yF,W1,W1B,WS,W3,yH,yI,yJ,yK,yL,yM,hpG,hP,hmk,g00,g20,List.map_cons,List.map_nil,YAK,zGx,zGy,yO,yN,implies_true,zTh,zTg,zFY]
 all_goals first|rfl|trace_state
theorem zih(hD:SxdD F g q c a b d)(v:Nat)(A B:List (Int×Int)):
 zAd Try.prog 42 [.bptr g 0,.int .i64 1,.ms d 0 2] (hpG F g q c a b d v [(0,1),(1,1)] A B x3 (stA 0 2)) (.bool true) (hpG F g q c a b d v [(0,1),(1,1)] A B x3 (stA 0 2)):=by
 have hP:=sxdP hD
 have hmk:∀x y:Int,embG (x,y)=emb (.mk x y []):=fun _ _=>rfl
 have g00:((0:Int)>0)=False:=by simp
 have g20:((2:Int)>0)=True:=by simp
 have qr:=fun F hD=>zim (F:=F) (g:=g) (q:=q) (c:=c) (a:=a) (b:=b) (d:=d) (x3:=x3) (x6:=stA 0 2) hD v [(0,1),(1,1)] A B 1 (by decide) rfl
 unfold stA at*
 unfold zAd
 refine eD C_ok Try.func42 Try.results42 fun ok=> ?_
 have h:=YAN
 repeat' (first
  |(with_reducible first|apply bA|apply bB|apply bC|apply bD|apply bE|apply bF)<;>intro h
  |((first|apply bG|apply bH);simp only[yP,yQ,W2,W2B,W3,yH,yI,yJ,yK,yL,yM,hpG,hP,hmk,g00,g20,List.map_cons,List.map_nil,YAK,zGx,zGy,yO,yN,implies_true,zTh,zTg];refine zIA (qr _ (by first|exact hD|exact hD.app _)) (.inl rfl) (fun hb=>grB (by first|exact hD|exact hD.app _) hb) ?_)
  |refine zJ9 ?_ C_ok Try.f42.ntmps rfl (by decide)
  |skip)<;>simp only[h,↓zaL,↓zHC,WY,reduceIte,yA,yB,yC,yD,reduceCtorEq,yE,yF,W1,W1B,WS,W3,yH,yI,yJ,yK,yL,yM,hpG,hP,hmk,g00,g20,List.map_cons,List.map_nil,YAK,zGx,zGy,yO,yN,implies_true,zTh,zTg,zFY]
 all_goals first|rfl|trace_state
def CZB:Cfg:= {C with zfr:=some (0,0),zld:=[(5,3),(37,1)]}
theorem zhT:zAb Try.prog CZB:=C_ok
theorem zhU(t:Nat):CZB.ty t=C.ty t:=rfl
theorem zhS(t:Nat):CZB.inpl t=false:=rfl
theorem zlW(s:AState):ZLd CZB s=∃r0,s.env 0= .bptr r0 0/\LdOK r0 0 (s.env 5) 3/\LdOK r0 0 (s.env 37) 1:=by simp[ZLd,CZB]
theorem ziV(hD:SxdD F g q c a b d)(t:Ty)(v:Nat)(N:List GN)(A B:List (Int×Int)):
 zAd Try.prog 41 [.bptr g 0,emb t,emb (.mk 5 0 [])] (hpG F g q c a b d v N A B x3 x6) (.bool true) (hpG F g q c a b d v N A B x3 x6):=by
 have hP:=sxdP hD
 unfold zAd
 refine eD zhT Try.func41 Try.results41 fun ok=> ?_
 have h:=YAN
 repeat' (first
  |(with_reducible first|apply bA|apply bB|apply bC|apply bD|apply bE|apply bF)<;>intro h
  |refine zif (id:=4) zhT mixed [] 0 Try.f41.ntmps (by first|(simp;done)|(simp;omega)) rfl (by kernel_rfl) (by decide) ?_
  |refine zif (id:=10) zhT mixed [] 0 Try.f41.ntmps (by first|(simp;done)|(simp;omega)) rfl (by kernel_rfl) (by decide) ?_
  |refine zJ9 ?_ zhT Try.f41.ntmps rfl (by decide)
  |skip)<;>simp only[h,↓zaL,↓zHC,WY,reduceIte,yA,yB,yC,yD,reduceCtorEq,yE,yF,W1,W1B,WS,W3,yH,yI,yJ,yK,yL,yM,zhU,zhS,hpG,hP,zGx,zGy,yO,yN,zTh,zTg,zFY]
 all_goals first|rfl|trace_state
theorem ziX(hD:SxdD F g q c a b d)(n:Int)(v:Nat)(N:List GN)(A B:List (Int×Int)):
 zAd Try.prog 41 [.bptr g 0,emb (.mk 5 0 []),emb (.mk 6 n [])] (hpG F g q c a b d v N A B x3 x6) (.bool false) (hpG F g q c a b d v N A B x3 x6):=by
 have hP:=sxdP hD
 have hst:=zc3 (.mk 5 0 [])
 rw[show without 5 (.mk 5 0 [])=false from by decide]at hst
 have hgl:=hD.hs
 have f0:(F.length=g)=False:=by simp only[YAb,iff_false];omega
 have f1:∀k,(F.length+k=g)=False:=fun k=>by simp only[YAb,iff_false];omega
 unfold zAd
 refine eD zhT Try.func41 Try.results41 fun ok=> ?_
 have h:=YAN
 repeat' (first
  |(with_reducible first|apply bA|apply bB|apply bC|apply bD|apply bE|apply bF)<;>intro h
  |((first|apply bG|apply bH);simp only[yP,yQ,W2,W2B,W3,yH,yI,yJ,yK,yL,yM,zhU,zhS,zlW,exB,exB0,zjO,zjP,f0,f1,hpG,hP,zGx,zGy,yO,yN,zTh,zTg];first|refine zIf (hst) (.inl rfl) ?_|refine zIj (hst) (.inl rfl) ?_)
  |refine zif (id:=4) zhT mixed [] 0 Try.f41.ntmps (by first|(simp;done)|(simp;omega)) rfl (by kernel_rfl) (by decide) ?_
  |refine zif (id:=10) zhT mixed [] 0 Try.f41.ntmps (by first|(simp;done)|(simp;omega)) rfl (by kernel_rfl) (by decide) ?_
  |refine zJ9 ?_ zhT Try.f41.ntmps rfl (by decide)
  |skip)<;>simp only[h,↓zaL,↓zHC,WY,reduceIte,yA,yB,yC,yD,reduceCtorEq,yE,yF,W1,W1B,WS,W3,yH,yI,yJ,yK,yL,yM,zhU,zhS,zlW,exB,exB0,zjO,zjP,f0,f1,hpG,hP,zGx,zGy,yO,yN,zTh,zTg,zFY]
 all_goals first|rfl|trace_state
theorem ziW(hD:SxdD F g q c a b d)(v:Nat)(A B:List (Int×Int))(hA:mget A 4=none):
 zAd Try.prog 41 [.bptr g 0,emb (.mk 6 4 []),emb (.mk 1 0 [])] (hpG F g q c a b d v [] A B x3 x6) (.bool true) (hpG F g q c a b d (v+1+1) [(0,1),(1,1)] (mput A 4 0) B x3 x6):=by
 have hP:=sxdP hD
 have hst:=zc3 (.mk 6 4 [])
 rw[show without 5 (.mk 6 4 [])=true from by decide]at hst
 have hgl:=hD.hs
 have f0:(F.length=g)=False:=by simp only[YAb,iff_false];omega
 have f1:∀k,(F.length+k=g)=False:=fun k=>by simp only[YAb,iff_false];omega
 have p1:=fun F hD=>zij (F:=F) (g:=g) (q:=q) (c:=c) (a:=a) (b:=b) (d:=d) (x3:=x3) (x6:=x6) hD 4 v [] A B (by simp) hA
 have p2:=fun F hD=>zii (F:=F) (g:=g) (q:=q) (c:=c) (a:=a) (b:=b) (d:=d) (x3:=x3) (x6:=x6) hD 1 rfl rfl (v+1) [(0,0)] (mput A 4 0) B (by simp) b
 have p3:=fun F hD=>zio (F:=F) (g:=g) (q:=q) (c:=c) (a:=a) (b:=b) (d:=d) (x3:=x3) (x6:=x6) hD (v+1+1) (mput A 4 0) B
 simp only[List.nil_append,List.length_nil,Int.natCast_zero,List.length_cons,Nat.zero_add,Int.natCast_one,List.cons_append]at p1 p2
 have hmk:∀x y:Int,embG (x,y)=emb (.mk x y []):=fun _ _=>rfl
 unfold zAd
 refine eD zhT Try.func41 Try.results41 fun ok=> ?_
 have h:=YAN
 repeat' (first
  |(with_reducible first|apply bA|apply bB|apply bC|apply bD|apply bE|apply bF)<;>intro h
  |((first|apply bG|apply bH);simp only[yP,yQ,W2,W2B,W3,yH,yI,yJ,yK,yL,yM,zhU,zhS,zlW,exB,exB0,zjO,zjP,f0,f1,hpG,hP,hmk,List.map_cons,List.map_nil,zGx,zGy,yO,yN,implies_true,zTh,zTg];first|refine zIf (hst) (.inl rfl) ?_|refine zIj (hst) (.inl rfl) ?_|refine zIl rfl (zfrI rfl rfl (zik (hD.app _))) (p1 _ (hD.app _)) (.inl rfl) (fun hb=>grB (hD.app _) hb) ?_|refine zIl rfl (zfrI rfl rfl (zik hD)) (p1 _ hD) (.inl rfl) (fun hb=>grB hD hb) ?_|refine zIl rfl (zfrI rfl rfl (zik (hD.app _))) (p2 _ (hD.app _)) (.inl rfl) (fun hb=>grB (hD.app _) hb) ?_|refine zIl rfl (zfrI rfl rfl (zik hD)) (p2 _ hD) (.inl rfl) (fun hb=>grB hD hb) ?_|refine zIl rfl (zfrI rfl rfl (zik (hD.app _))) (p3 _ (hD.app _)) (.inl rfl) (fun hb=>grB (hD.app _) hb) ?_|refine zIl rfl (zfrI rfl rfl (zik hD)) (p3 _ hD) (.inl rfl) (fun hb=>grB hD hb) ?_)
  |refine zif (id:=4) zhT mixed [] 0 Try.f41.ntmps (by first|(simp;done)|(simp;omega)) rfl (by kernel_rfl) (by decide) ?_
  |refine zif (id:=10) zhT mixed [] 0 Try.f41.ntmps (by first|(simp;done)|(simp;omega)) rfl (by kernel_rfl) (by decide) ?_
  |refine zJ9 ?_ zhT Try.f41.ntmps rfl (by decide)
  |skip)<;>simp only[h,↓zaL,↓zHC,WY,reduceIte,yA,yB,yC,yD,reduceCtorEq,yE,yF,W1,W1B,WS,W3,yH,yI,yJ,yK,yL,yM,zhU,zhS,zlW,exB,exB0,zjO,zjP,f0,f1,hpG,hP,hmk,List.map_cons,List.map_nil,zGx,zGy,yO,yN,implies_true,zTh,zTg,zFY]
 all_goals first|rfl|trace_state
end
end Go.Proofs.Ytmpegnogdgbleaa
