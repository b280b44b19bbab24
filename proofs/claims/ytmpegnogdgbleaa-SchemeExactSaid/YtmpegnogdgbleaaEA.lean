/- Walks: whether an instance is below another one: the two calls of the statements' witness. No condition. -/
import Derived.Test.YtmpegnogdgbleaaE9
set_option linter.unusedSimpArgs false
set_option linter.unusedVariables false
set_option maxHeartbeats 4000000
set_option maxRecDepth 100000
namespace Go.Proofs.Ytmpegnogdgbleaa
open Go Go.Ab
open Nat renaming reduceEqDiff -> yA, reduceAdd -> yB, reduceLT -> yC, reduceLeDiff -> yD, reduceMul -> yE, reducePow -> yF, reduceBEq -> yG
open Int renaming reduceAdd -> yH, reduceLT -> yI, reduceToNat -> yJ, reduceBEq -> yK, reduceBNe -> yL, reduceLE -> yM
open AV renaming belL -> yO, bel -> yN, normL -> yQ, norm -> yP
attribute [local irreducible] zA0 zAA zAa zAi zAj GoIf GoGb zAk GoO GoD GoX GoDX GoG GoDG GoGv zAl Go zAB
def CU:Cfg:= {C with inpl:=fun d=>d==30}
theorem zhQ:zAb Try.prog CU:=C_ok
theorem zhR(t:Nat):CU.ty t=C.ty t:=rfl
theorem zhP(t:Nat):CU.inpl t=(t==30):=rfl
theorem zlI:zA0 Try.prog 16 [emb (.mk 9 0 [.mk 6 4 [],.mk 6 4 []]),emb (.mk 9 0 [.mk 5 0 [],.mk 1 0 []])] (.bool true):=by
 refine zSZ rfl fun F=> ?_
 have q1:=zEj (.mk 9 0 [.mk 6 4 [],.mk 6 4 []])
 have q2:=zEj (.mk 9 0 [.mk 5 0 [],.mk 1 0 []])
 rw[if_pos (by decide)]at q1 q2
 have qb:=zia (zk1 F (.mk 9 0 [.mk 6 4 [],.mk 6 4 []]) (.mk 9 0 [.mk 5 0 [],.mk 1 0 []]) [] [] 0 []) (x3:=bxT (.mk 9 0 [.mk 6 4 [],.mk 6 4 []])) (x6:=bxT (.mk 9 0 [.mk 5 0 [],.mk 1 0 []])) rfl (fun F hD=>ziV hD (.mk 6 4 []) 0 [] [] []) (fun F hD=>ziW hD 0 [] [] rfl)
 rw[zk2,zk2]at qb
 have qc:=zlK qb
 have o0:=zig (x3:=bxT (.mk 9 0 [.mk 6 4 [],.mk 6 4 []])) (zk5 F (.mk 9 0 [.mk 6 4 [],.mk 6 4 []]) (.mk 9 0 [.mk 5 0 [],.mk 1 0 []]) [(4,0)] [] 2 [(0,1),(1,1)] 0 0) 2 [(4,0)] []
 have o1:=zih (x3:=bxT (.mk 9 0 [.mk 6 4 [],.mk 6 4 []])) (zk5 F (.mk 9 0 [.mk 6 4 [],.mk 6 4 []]) (.mk 9 0 [.mk 5 0 [],.mk 1 0 []]) [(4,0)] [] 2 [(0,1),(1,1)] 0 2) 2 [(4,0)] []
 simp only[zk6]at o0 o1
 simp only[unS]at o0 o1
 have hmk:∀x y:Int,embG (x,y)=emb (.mk x y []):=fun _ _=>rfl
 have w2:Int.toNat 2=2:=rfl
 have n16:((2:Int)*8<=140737488355328)=True:=by simp
 clear qb
 generalize hT1:Ty.mk 9 0 [.mk 6 4 [],.mk 6 4 []]=t1 at*
 generalize hU1:Ty.mk 9 0 [.mk 5 0 [],.mk 1 0 []]=u1 at*
 unfold zAd
 refine eD zhQ Try.func16 Try.results16 fun ok=> ?_
 have h:=YAN
 repeat' (first
  |(with_reducible first|apply bA|apply bB|apply bC|apply bD|apply bE|apply bF)<;>intro h
  |((first|apply bG|apply bH);simp only[yP,yQ,W2,W2B,zhR,zhP,YAO,yO,yN,zTh,zTg];first|refine zIf (q1) (.inl rfl) ?_|refine zIf (q2) (.inl rfl) ?_|refine zIj (q1) (.inl rfl) ?_|refine zIj (q2) (.inl rfl) ?_)
  |skip)<;>simp only[h,↓zaL,↓zHC,WY,reduceIte,yA,yB,yC,yD,reduceCtorEq,yE,yF,W1,W1B,WS,zhR,zhP,YAO,yO,yN,zTh,zTg]
 refine fsCall qc (.inl rfl) fun x G hG hlen=> ?_
 obtain⟨rfl,rfl⟩:=hG
 refine⟨fun hbel=> ?_,?_⟩
 ·rw[List.take_left' rfl]at hbel
  rw[unJ,List.take_left' rfl];exact hbel
 ·simp only[unJ,bxT]
  unfold stA bxT at o0 o1
  have h:=YAN
  repeat' (first
   |(with_reducible first|apply bA|apply bB|apply bC|apply bD|apply bE|apply bF)<;>intro h
   |((first|apply bG|apply bH);simp only[yP,yQ,W2,W2B,W3,yH,yI,yJ,yK,yL,yM,zhR,zhP,yG,w2,n16,List.map_cons,List.map_nil,List.replicate_succ,List.replicate_zero,yO,yN,zTh,zTg];first|refine zIA (o0) (.inl rfl) (fun hb=>by rw[List.take_left' rfl]at hb⊢;exact hb) ?_|refine zIA (o1) (.inl rfl) (fun hb=>by rw[List.take_left' rfl]at hb⊢;exact hb) ?_)
   |refine zJ9 ?_ zhQ Try.f16.ntmps rfl (by decide)
   |skip)<;>simp only[h,↓zaL,↓zHC,WY,reduceIte,yA,yB,yC,yD,reduceCtorEq,yE,yF,W1,W1B,WS,W3,yH,yI,yJ,yK,yL,yM,zhR,zhP,yG,w2,n16,List.map_cons,List.map_nil,List.replicate_succ,List.replicate_zero,yO,yN,zTh,zTg,zFY]
  all_goals first|exact List.take_left' rfl|exact⟨rfl,List.take_left' rfl⟩|trace_state
theorem zlJ:zA0 Try.prog 16 [emb (.mk 8 0 [.mk 5 0 []]),emb (.mk 8 0 [.mk 6 0 []])] (.bool false):=by
 refine zSZ rfl fun F=> ?_
 have q1:=zEj (.mk 8 0 [.mk 5 0 []])
 have q2:=zEj (.mk 8 0 [.mk 6 0 []])
 rw[if_pos (by decide)]at q1 q2
 have qb:=ziZ (zk1 F (.mk 8 0 [.mk 5 0 []]) (.mk 8 0 [.mk 6 0 []]) [] [] 0 []) (x3:=bxT (.mk 8 0 [.mk 5 0 []])) (x6:=bxT (.mk 8 0 [.mk 6 0 []])) (fun F hD=>ziX hD 0 0 [] [] [])
 rw[zk2]at qb
 have qc:=zlK qb
 clear qb
 generalize Ty.mk 8 0 [.mk 5 0 []]=t1 at*
 generalize Ty.mk 8 0 [.mk 6 0 []]=u1 at*
 unfold zAd
 refine eD zhQ Try.func16 Try.results16 fun ok=> ?_
 have h:=YAN
 repeat' (first
  |(with_reducible first|apply bA|apply bB|apply bC|apply bD|apply bE|apply bF)<;>intro h
  |((first|apply bG|apply bH);simp only[yP,yQ,W2,W2B,zhR,zhP,YAO,yO,yN,zTh,zTg];first|refine zIf (q1) (.inl rfl) ?_|refine zIf (q2) (.inl rfl) ?_|refine zIj (q1) (.inl rfl) ?_|refine zIj (q2) (.inl rfl) ?_)
  |skip)<;>simp only[h,↓zaL,↓zHC,WY,reduceIte,yA,yB,yC,yD,reduceCtorEq,yE,yF,W1,W1B,WS,zhR,zhP,YAO,yO,yN,zTh,zTg]
 refine fsCall qc (.inl rfl) fun x G hG hlen=> ?_
 obtain⟨rfl,rfl⟩:=hG
 refine⟨fun hbel=> ?_,?_⟩
 ·rw[List.take_left' rfl]at hbel
  rw[unJ,List.take_left' rfl];exact hbel
 ·simp only[unJ,bxT]
  have h:=YAN
  repeat' (first
   |(with_reducible first|apply bA|apply bB|apply bC|apply bD|apply bE|apply bF)<;>intro h
   |skip)<;>simp only[h,↓zaL,↓zHC,WY,reduceIte,yA,yB,yC,yD,reduceCtorEq,yE,yF,W1,W1B,WS,zhR,zhP,yO,yN,zTh,zTg]
  all_goals first|exact List.take_left' rfl|exact⟨rfl,List.take_left' rfl⟩|trace_state
end Go.Proofs.Ytmpegnogdgbleaa
