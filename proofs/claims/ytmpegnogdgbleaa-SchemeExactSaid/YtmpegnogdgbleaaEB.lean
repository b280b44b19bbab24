/- Layer 11: the witness that its functions are there. No condition. -/
import Derived.Test.YtmpegnogdgbleaaEA
set_option linter.unusedSimpArgs false
set_option linter.unusedVariables false
set_option maxHeartbeats 4000000
set_option maxRecDepth 100000
namespace Go.Proofs.Ytmpegnogdgbleaa
open Go Go.Ab
open Nat renaming reduceEqDiff -> yA, reduceAdd -> yB, reduceLT -> yC, reduceLeDiff -> yD, reduceMul -> yE, reducePow -> yF
open Int renaming reduceAdd -> yH, reduceLT -> yI, reduceToNat -> yJ, reduceBEq -> yK, reduceBNe -> yL, reduceLE -> yM
open AV renaming normL -> yQ, norm -> yP
attribute [local irreducible] zA0 zAA zAa zAi zAj GoIf GoGb zAk GoO GoD GoX GoDX GoG GoDG GoGv zAl Go zAB
theorem v_ok(n:Int):zA0 Try.prog 33 [.int .i64 n] (emb (.mk 6 n [])):=by
 refine zSa C_ok Try.func33 rfl (by decide) (YAL rfl) (by decide) (zGx _ _) fun ok H=> ?_
 rw[Try.results33]
 have h:=YAN
 repeat' (first
  |(with_reducible first|apply bA|apply bB|apply bC|apply bD|apply bE|apply bF)<;>intro h
  |skip)<;>simp only[h,↓zaL,↓zHC,WZ,reduceIte,yA,yB,yC,yD,reduceCtorEq,yE,yF,W1,W1B]
theorem zlU:zXv (.mk 9 0 [.mk 6 4 [],.mk 6 4 []]) [(4,.mk 1 0 [])]= .tup [emb (.mk 9 0 [.mk 1 0 [],.mk 1 0 []]),.int .i64 0]:=by
 have h1:right (.mk 9 0 [.mk 6 4 [],.mk 6 4 []])=true:=by decide
 have h2:okBs [((4:Int),Ty.mk 1 0 [])]=true:=by decide
 have e:Ty.mk 9 0 [.mk 6 4 [],.mk 6 4 []]=(T.fn (.var 4) (.var 4)).ty:=rfl
 have s4:sigB [((4:Int),Ty.mk 1 0 [])] 4= .base 0:=by
  simp only[sigB,zNa,if_true]
  exact zX5 (.base 0)
 rw[zXv,if_pos ⟨h1,h2⟩,e,zX5]
 simp only[putS,s4]
 rfl
theorem zlS:zO7 (.mk 9 0 [.mk 6 4 [],.mk 6 4 []]) (.mk 9 0 [.mk 1 0 [],.mk 1 0 []])= .tup [.sl [embB (4,.mk 1 0 [])] .no,.bool true]:=by
 have h1:right (.mk 9 0 [.mk 6 4 [],.mk 6 4 []])=true/\right (.mk 9 0 [.mk 1 0 [],.mk 1 0 []])=true:=by decide
 have e:Ty.mk 9 0 [.mk 6 4 [],.mk 6 4 []]=(T.fn (.var 4) (.var 4)).ty:=rfl
 have e2:Ty.mk 9 0 [.mk 1 0 [],.mk 1 0 []]=(T.fn (.base 0) (.base 0)).ty:=rfl
 rw[zO7,if_pos h1,e,e2,zX5,zX5]
 rfl
theorem zlT:zO7 (.mk 6 0 []) (.mk 5 0 [])= .tup [.sl [] .no,.bool false]:=by
 have h1:right (.mk 6 0 [])=true/\right (.mk 5 0 [])=true:=by decide
 have e:Ty.mk 6 0 []=(T.var 0).ty:=rfl
 have e2:Ty.mk 5 0 []=T.dyn.ty:=rfl
 rw[zO7,if_pos h1,e,e2,zX5,zX5]
 rfl
theorem zlR:zEH (.mk 9 0 [.mk 6 4 [],.mk 6 4 []])= .tup [emb (.mk 9 0 [.mk 6 0 [],.mk 6 0 []]),.int .i64 0]:=by
 have h1:right (.mk 9 0 [.mk 6 4 [],.mk 6 4 []])=true:=by decide
 have e:Ty.mk 9 0 [.mk 6 4 [],.mk 6 4 []]=(T.fn (.var 4) (.var 4)).ty:=rfl
 rw[zEH,if_pos h1,e,zX5]
 rfl
theorem zlO:zA0 Try.prog 22 [] (.bool true):=by
 have q1:=zXx (.mk 9 0 [.mk 6 4 [],.mk 6 4 []]) [(4,.mk 1 0 [])]
 rw[zlU]at q1
 have q2:=zcZ (.mk 9 0 [.mk 6 4 [],.mk 6 4 []]) (.mk 9 0 [.mk 1 0 [],.mk 1 0 []]) (by decide)
 rw[zlS]at q2
 have q3:=zcZ (.mk 6 0 []) (.mk 5 0 []) (by decide)
 rw[zlT]at q3
 have q4:=zh6 (.mk 9 0 [.mk 6 4 [],.mk 6 4 []]) (by decide)
 rw[zlR]at q4
 simp only[List.map_cons,List.map_nil]at q1
 have s1:=zMo (.mk 9 0 [.mk 1 0 [],.mk 1 0 []]) (.mk 9 0 [.mk 1 0 [],.mk 1 0 []])
 have s2:=zMo (.mk 9 0 [.mk 6 0 [],.mk 6 0 []]) (.mk 9 0 [.mk 6 0 [],.mk 6 0 []])
 rw[zVO]at s1 s2
 have l1:=zM8 1
 have l5:=zM8 5
 have t1:=zdU 9 (.mk 6 4 []) (.mk 6 4 [])
 have t2:=zdU 9 (.mk 1 0 []) (.mk 1 0 [])
 have t3:=zdU 9 (.mk 6 0 []) (.mk 6 0 [])
 have t4:=zdU 9 (.mk 5 0 []) (.mk 1 0 [])
 have i1:=zNX (.mk 5 0 [])
 have i2:=zNX (.mk 6 0 [])
 have u1:=zlI
 have u2:=zlJ
 have v4:=v_ok 4
 have v0:=v_ok 0
 simp only[zM6,twoT,zNW]at l1 l5 t1 t2 t3 t4 i1 i2
 refine eP C_ok Try.func22 Try.results22 fun ok H=> ?_
 have h:=YAN
 repeat' (first
  |(with_reducible first|apply bA|apply bB|apply bC|apply bD|apply bE|apply bF)<;>intro h
  |((first|apply bG|apply bH);simp only[yP,yQ,W2,W2B,W3,yH,yI,yJ,yK,yL,yM];first|refine zIf (v4) (.inl rfl) ?_|refine zIf (v0) (.inl rfl) ?_|refine zIf (l1) (.inl rfl) ?_|refine zIf (l5) (.inl rfl) ?_|refine zIf (t1) (.inl rfl) ?_|refine zIf (t2) (.inl rfl) ?_|refine zIf (t3) (.inl rfl) ?_|refine zIf (t4) (.inl rfl) ?_|refine zIf (i1) (.inl rfl) ?_|refine zIf (i2) (.inl rfl) ?_|refine zIf (q1) (.inl rfl) ?_|refine zIf (q2) (.inl rfl) ?_|refine zIf (q3) (.inl rfl) ?_|refine zIf (q4) (.inl rfl) ?_|refine zIf (s1) (.inl rfl) ?_|refine zIf (s2) (.inl rfl) ?_|refine zIf (u1) (.inl rfl) ?_|refine zIf (u2) (.inl rfl) ?_|refine zIj (v4) (.inl rfl) ?_|refine zIj (v0) (.inl rfl) ?_|refine zIj (l1) (.inl rfl) ?_|refine zIj (l5) (.inl rfl) ?_|refine zIj (t1) (.inl rfl) ?_|refine zIj (t2) (.inl rfl) ?_|refine zIj (t3) (.inl rfl) ?_|refine zIj (t4) (.inl rfl) ?_|refine zIj (i1) (.inl rfl) ?_|refine zIj (i2) (.inl rfl) ?_|refine zIj (q1) (.inl rfl) ?_|refine zIj (q2) (.inl rfl) ?_|refine zIj (q3) (.inl rfl) ?_|refine zIj (q4) (.inl rfl) ?_|refine zIj (s1) (.inl rfl) ?_|refine zIj (s2) (.inl rfl) ?_|refine zIj (u1) (.inl rfl) ?_|refine zIj (u2) (.inl rfl) ?_)
  |refine zKg (id:=7) C_ok (fun _=>trivial) mixed 0 Try.f22.ntmps rfl (by kernel_rfl) (by decide) ?_
  |refine zJ9 ?_ C_ok Try.f22.ntmps rfl (by decide)
  |skip)<;>simp only[h,↓zaL,↓zHC,WZ,reduceIte,yA,yB,yC,yD,reduceCtorEq,yE,yF,W1,W1B,W3,yH,yI,yJ,yK,yL,yM,zFY]
end Go.Proofs.Ytmpegnogdgbleaa
