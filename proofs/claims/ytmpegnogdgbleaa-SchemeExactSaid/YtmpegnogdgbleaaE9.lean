/- Walks: whether an instance is below another one: what the statements' witness asks. No condition. -/
import Derived.Test.YtmpegnogdgbleaaE8
set_option linter.unusedSimpArgs false
set_option linter.unusedVariables false
set_option maxHeartbeats 4000000
set_option maxRecDepth 100000
namespace Go.Proofs.Ytmpegnogdgbleaa
open Go Go.Ab
open Nat renaming reduceEqDiff -> yA, reduceAdd -> yB, reduceLT -> yC, reduceLeDiff -> yD, reduceMul -> yE, reducePow -> yF
open Int renaming reduceAdd -> yH, reduceLT -> yI, reduceToNat -> yJ, reduceBEq -> yK, reduceBNe -> yL, reduceLE -> yM
open AV renaming belL -> yO, bel -> yN, normL -> yQ, norm -> yP
attribute [local irreducible] zA0 zAA zAa zAi zAj GoIf GoGb zAk GoO GoD GoX GoDX GoG GoDG GoGv zAl Go zAB
section
variable {F : List AObj} {g q c a b d : Nat} {x3 x6 : AObj}
theorem zia(hD:SxdD F g q c a b d){x y x' y':Ty}(hy:y'.kind=y'.kind){v v1 v2:Nat}{N N1 N2:List GN}{A A1 A2 B B1 B2:List (Int×Int)}
 (i1:∀F:List AObj,SxdD F g q c a b d->zAd Try.prog 41 [.bptr g 0,emb x,emb x'] (hpG F g q c a b d v N A B x3 x6) (.bool true) (hpG F g q c a b d v1 N1 A1 B1 x3 x6))
 (i2:∀F:List AObj,SxdD F g q c a b d->zAd Try.prog 41 [.bptr g 0,emb y,emb y'] (hpG F g q c a b d v1 N1 A1 B1 x3 x6) (.bool true) (hpG F g q c a b d v2 N2 A2 B2 x3 x6)):
 zAd Try.prog 41 [.bptr g 0,emb (.mk 9 0 [x,y]),emb (.mk 9 0 [x',y'])] (hpG F g q c a b d v N A B x3 x6) (.bool true) (hpG F g q c a b d v2 N2 A2 B2 x3 x6):=by
 have hP:=sxdP hD
 unfold zAd
 refine eD C_ok Try.func41 Try.results41 fun ok=> ?_
 have h:=YAN
 repeat' (first
  |(with_reducible first|apply bA|apply bB|apply bC|apply bD|apply bE|apply bF)<;>intro h
  |((first|apply bG|apply bH);simp only[yP,yQ,W2,W2B,W3,yH,yI,yJ,yK,yL,yM,hpG,hP,YAO,zGx,zGy,yO,yN,zTh,zTg];first|refine zIl rfl trivial (i1 _ (by first|exact hD|exact hD.app _)) (.inl rfl) (fun hb=>grB (by first|exact hD|exact hD.app _) hb) ?_|refine zIl rfl trivial (i2 _ (by first|exact hD|exact hD.app _)) (.inl rfl) (fun hb=>grB (by first|exact hD|exact hD.app _) hb) ?_)
  |refine drA C_ok 4 0 ?_
  |refine drA C_ok 10 0 ?_
  |refine zJ9 ?_ C_ok Try.f41.ntmps rfl (by decide)
  |skip)<;>simp only[h,↓zaL,↓zHC,WY,reduceIte,yA,yB,yC,yD,reduceCtorEq,yE,yF,W1,W1B,WS,W3,yH,yI,yJ,yK,yL,yM,hpG,hP,YAO,zGx,zGy,yO,yN,zTh,zTg,zFY]
 all_goals first|rfl|trace_state
theorem ziZ(hD:SxdD F g q c a b d){x x':Ty}{v v1:Nat}{N N1:List GN}{A A1 B B1:List (Int×Int)}
 (i1:∀F:List AObj,SxdD F g q c a b d->zAd Try.prog 41 [.bptr g 0,emb x,emb x'] (hpG F g q c a b d v N A B x3 x6) (.bool false) (hpG F g q c a b d v1 N1 A1 B1 x3 x6)):
 zAd Try.prog 41 [.bptr g 0,emb (.mk 8 0 [x]),emb (.mk 8 0 [x'])] (hpG F g q c a b d v N A B x3 x6) (.bool false) (hpG F g q c a b d v1 N1 A1 B1 x3 x6):=by
 have hP:=sxdP hD
 unfold zAd
 refine eD C_ok Try.func41 Try.results41 fun ok=> ?_
 have h:=YAN
 repeat' (first
  |(with_reducible first|apply bA|apply bB|apply bC|apply bD|apply bE|apply bF)<;>intro h
  |((first|apply bG|apply bH);simp only[yP,yQ,W2,W2B,W3,yH,yI,yJ,yK,yL,yM,hpG,hP,YAO,zGx,zGy,yO,yN,zTh,zTg];refine zIl rfl trivial (i1 _ (by first|exact hD|exact hD.app _)) (.inl rfl) (fun hb=>grB (by first|exact hD|exact hD.app _) hb) ?_)
  |refine drA C_ok 4 0 ?_
  |refine drA C_ok 10 0 ?_
  |refine zJ9 ?_ C_ok Try.f41.ntmps rfl (by decide)
  |skip)<;>simp only[h,↓zaL,↓zHC,WY,reduceIte,yA,yB,yC,yD,reduceCtorEq,yE,yF,W1,W1B,WS,W3,yH,yI,yJ,yK,yL,yM,hpG,hP,YAO,zGx,zGy,yO,yN,zTh,zTg,zFY]
 all_goals first|rfl|trace_state
end
def bxT(t:Ty):AObj:= .box [.int .i64 t.kind,.int .i64 t.num,.sl (t.kids.map emb) .no]
def unJ(F:List AObj)(t u:Ty)(A B:List (Int×Int))(v:Nat)(N:List GN):List AObj:=F++ [bxT t,bxT u,.map (embM A),.map (embM B),.box [.ms (F.length+5) v N.length,.mp (F.length+2),.mp (F.length+3)],.arr v 3 (N.map embG)]
theorem zk2(F:List AObj)(t u:Ty)(A A' B B':List (Int×Int))(v v':Nat)(N N':List GN):hpG (unJ F t u A B v N) (F.length+4) (F.length+5) F.length (F.length+2) (F.length+3) (F.length+1) v' N' A' B' (bxT t) (bxT u)=unJ F t u A' B' v' N':=by
 unfold hpG sxd stF unJ
 rw[zCX rfl,zCY rfl,zCY rfl,zCY rfl,zCY rfl,zCY rfl]
 rfl
theorem zk1(F:List AObj)(t u:Ty)(A B:List (Int×Int))(v:Nat)(N:List GN):SxdD (unJ F t u A B v N) (F.length+4) (F.length+5) F.length (F.length+2) (F.length+3) (F.length+1):=by
 refine⟨?_,?_,?_,?_,?_,?_,⟨by omega,by omega,by omega,by omega,by omega⟩,⟨by omega,by omega,by omega,by omega⟩,⟨by omega,by omega,by omega⟩,by omega,by omega,by omega⟩<;>simp[unJ]
def unS(F:List AObj)(t u:Ty)(A B:List (Int×Int))(v:Nat)(N:List GN)(s0 s1:Int):List AObj:=F++ [bxT t,bxT u,.map (embM A),.map (embM B),.box [.ms (F.length+5) v N.length,.mp (F.length+2),.mp (F.length+3)],.arr v 3 (N.map embG),stA s0 s1]
theorem zk6(F:List AObj)(t u:Ty)(A B:List (Int×Int))(v:Nat)(N:List GN)(s0 s1 s2 s3:Int):hpG (unS F t u A B v N s0 s1) (F.length+4) (F.length+5) F.length (F.length+2) (F.length+3) (F.length+6) v N A B (bxT t) (stA s2 s3)=unS F t u A B v N s2 s3:=by
 unfold hpG sxd stF unS
 rw[zCX rfl,zCY rfl,zCY rfl,zCY rfl,zCY rfl,zCY rfl]
 rfl
theorem zk5(F:List AObj)(t u:Ty)(A B:List (Int×Int))(v:Nat)(N:List GN)(s0 s1:Int):SxdD (unS F t u A B v N s0 s1) (F.length+4) (F.length+5) F.length (F.length+2) (F.length+3) (F.length+6):=by
 refine⟨?_,?_,?_,?_,?_,?_,⟨by omega,by omega,by omega,by omega,by omega⟩,⟨by omega,by omega,by omega,by omega⟩,⟨by omega,by omega,by omega⟩,by omega,by omega,by omega⟩<;>simp[unS]
theorem zlK{F:List AObj}{t u:Ty}{ok:Bool}{A B:List (Int×Int)}{v:Nat}{N:List GN}
 (h:zAd Try.prog 41 [.bptr (F.length+4) 0,emb t,emb u] (unJ F t u [] [] 0 []) (.bool ok) (unJ F t u A B v N)):
 zAA Try.prog 41 [.bptr (F.length+4) 0,emb t,emb u] (F++ [bxT t,bxT u,.map [],.map [],.box [.sl [] .full,.mp (F.length+2),.mp (F.length+3)]])
  fun x G=>x= .bool ok/\G=unJ F t u A B v N:=by
 refine zb6 (p:=F.length+4) (off:=0) (size:=3) (cs:=[.sl [] .full,.mp (F.length+2),.mp (F.length+3)]) (zCU rfl) rfl ?_
 rw[zCY rfl,List.append_assoc]
 simp only[YAJ,List.length_cons,List.length_nil]
 exact h
end Go.Proofs.Ytmpegnogdgbleaa
