/- A row without elements, cloned; the kids of any node; what a node is not. No condition. -/
import Derived.Test.YtdngjamjccjlmaaR7
import Derived.Test.YtdngjamjccjlmaaAN
import Derived.Test.YtdngjamjccjlmaaPBa
import Derived.Test.YtdngjamjccjlmaaPWe
set_option linter.unusedSimpArgs false
set_option linter.unusedVariables false
set_option maxHeartbeats 4000000
set_option maxRecDepth 100000
namespace Go.Proofs.Ytdngjamjccjlmaa
open Go Go.Ab
open Nat renaming reduceEqDiff -> yA, reduceAdd -> yB, reduceLT -> yC, reduceLeDiff -> yD, reduceMul -> yE, reducePow -> yF, reduceBEq -> yG
open Int renaming reduceAdd -> yH, reduceLT -> yI, reduceToNat -> yJ, reduceBEq -> yK, reduceBNe -> yL, reduceLE -> yM
attribute [local irreducible] zA0 zAA zAa zAi zAj GoIf GoGb zAk GoO GoD GoX GoDX GoG GoDG GoGv zAl Go zAB
theorem zeC:zA0 Try.prog 122 [.sl [] .no] (.sl [] .no):=by
 refine zSZ rfl fun F=> ?_
 refine zBP C_ok Try.func122 rfl (by decide) (YAL rfl) fun ok=> ?_
 rw[Try.results122,zLh]
 refine zC5 (zBH C_ok zEA Try.f122.ntmps _ (by decide) rfl ?_)
 rw[X_go]
 simp only[↓zaL,↓zHC,WY,reduceIte,yA,yB,yC,yD,reduceCtorEq,yE,yF,W1,WS,zFY]
 refine zC5 (zC5 (zd7 (v:= .sl [] .no) (e:=3) (tk:= .no) C_ok (show zFG Try.f122.ntmps _=true by decide) rfl rfl (fun K h=>⟨trivial,h⟩) zZo rfl rfl rfl rfl fun b=> ?_))
 simp only[zFY]
 refine zBH C_ok zEA Try.f122.ntmps _ (by decide) rfl ?_
 rw[X_go]
 cases b with
 |true=>
  simp only[↓zaL,↓zHC,WY,reduceIte,yA,yB,yC,yD,reduceCtorEq,yE,yF,W1,WS,zTh,AV.bel,AV.belL]
  all_goals simp
 |false=>
  simp only[↓zaL,↓zHC,WY,reduceIte,yA,yB,yC,yD,reduceCtorEq,yE,yF,W1,WS,zFY]
  refine zBH C_ok zEA Try.f122.ntmps _ (by decide) rfl ?_
  rw[X_go]
  simp only[↓zaL,↓zHC,WY,reduceIte,yA,yB,yC,yD,reduceCtorEq,yE,yF,W1,WS,zTh,AV.bel,AV.belL,List.length_nil]
  all_goals simp
section
variable {F : List AObj} {s r v : Nat} {L : Mem} {lim cnt rd : Int}
theorem zeX(hs:s<F.length)(hr:r<F.length)(hne:r≠s){n:Int}(hn:n<0\/(L.length:Int)<=n):zAd Try.prog 83 [.bptr s 0,.int .i64 n] (hpS F s r v L lim cnt rd) (.bool false) (hpS F s r v L lim cnt rd):=by
 have:=zMH (v:=v) (L:=L) (lim:=lim) (cnt:=cnt) (rd:=rd) hs hr hne n
 rwa[show(decide (0<=n)&&decide (n<L.length))=false by rw[Bool.and_eq_false_iff,decide_eq_false_iff_not,decide_eq_false_iff_not];omega]at this
theorem zeY(hs:s<F.length)(hr:r<F.length)(hne:r≠s)(hw:Wf L.st)(n:Nat)(hn:n<L.length):zAd Try.prog 60 [.bptr s 0,.int .i64 n] (hpS F s r v L lim cnt rd) (.sl ((kidI (L.st.kids (L.st.root n))).map I64) .no) (hpS F s r v L lim cnt rd):=by
 have hrl:L.st.root n<L.length:=by have:=hw.root_lt n (by rw[Mem.zXR];exact hn);rwa[Mem.zXR]at this
 by_cases h0:L.st.kids (L.st.root n)=[]
 ·have q1:=zMI (v:=v) (L:=L) (lim:=lim) (cnt:=cnt) (rd:=rd) hs hr hne hn
  have hk:(L.getD (L.st.root n) default).1.kids=[]:=by rw[<-L.nd];exact h0
  have e0:(kidI []).map I64=[]:=rfl
  rw[h0,e0]
  unfold zAd
  refine zBN C_ok Try.func60 rfl (by decide) (YAL rfl) (by decide) fun ok=> ?_
  rw[Try.results60]
  have h:=YAN
  repeat' (first
   |(with_reducible first|apply bA|apply bB|apply bC|apply bD|apply bE|apply bF)<;>intro h
   |((first|apply bG|apply bH);simp only[AV.norm,AV.zQg,W2,hpS,bxS,arS,stP hs hr hne,zTh,zTg,AV.bel,zOg,hrl,zOf hrl,zGZ,hk,e0,AV.zQg,AV.belL];first|refine zIf (zeC) (.inl rfl) ?_|refine zIj (zeC) (.inl rfl) ?_|refine zIB (q1) (.inl rfl) ?_|refine zIk rfl (zUP (v:=v) (L:=L) (lim:=lim) (cnt:=cnt) (rd:=rd) hs hr hne hw n hn (by simp[stP hs hr hne,bxS,arS])) (.inl rfl) ?_)
   |refine zKh (id:=3) C_ok (fun _=>trivial) mixed 0 Try.f60.ntmps (by first|(simp;done)|(simp;omega)) rfl (by kernel_rfl) (by decide) ?_
   |skip)<;>simp only[h,↓zaL,↓zHC,WY,reduceIte,yA,yB,yC,yD,reduceCtorEq,yE,yF,W1,WS,hpS,bxS,arS,stP hs hr hne,zTh,zTg,AV.bel,zOg,hrl,zOf hrl,zGZ,hk,e0,AV.zQg,AV.belL]
 ·refine zMd hs hr hne hw n hn ?_ h0
  have:=hw.shape (r:=L.st.root n) (by rw[Mem.zXR];exact hrl) (hw.zUK n)
  rcases this with ⟨_,_,hc⟩|⟨_,_,hc⟩|⟨i,j,_,hc⟩|⟨i,_,hc⟩<;>rw[hc]<;>simp
theorem zeZ(hs:s<F.length)(hr:r<F.length)(hne:r≠s)(n:Int)(hn:n<0\/(L.length:Int)<=n):zAd Try.prog 60 [.bptr s 0,.int .i64 n] (hpS F s r v L lim cnt rd) (.sl [] .no) (hpS F s r v L lim cnt rd):=by
 have q1:=zeX (v:=v) (L:=L) (lim:=lim) (cnt:=cnt) (rd:=rd) hs hr hne hn
 unfold zAd
 refine zBN C_ok Try.func60 rfl (by decide) (YAL rfl) (by decide) fun ok=> ?_
 rw[Try.results60]
 have h:=YAN
 repeat' (first
  |(with_reducible first|apply bA|apply bB|apply bC|apply bD|apply bE|apply bF)<;>intro h
  |((first|apply bG|apply bH);simp only[AV.norm,AV.zQg,W2,hpS,bxS,arS,stP hs hr hne,zTh,zTg,AV.bel,zOg,AV.belL];first|refine zIB (q1) (.inl rfl) ?_)
  |refine zKh (id:=3) C_ok (fun _=>trivial) mixed 0 Try.f60.ntmps (by first|(simp;done)|(simp;omega)) rfl (by kernel_rfl) (by decide) ?_
  |skip)<;>simp only[h,↓zaL,↓zHC,WY,reduceIte,yA,yB,yC,yD,reduceCtorEq,yE,yF,W1,WS,hpS,bxS,arS,stP hs hr hne,zTh,zTg,AV.bel,zOg,AV.belL]
theorem zee(hs:s<F.length)(hr:r<F.length)(hne:r≠s)(n:Int)(hn:n<0\/(L.length:Int)<=n):zAd Try.prog 35 [.bptr s 0,.int .i64 n] (hpS F s r v L lim cnt rd) (.int .i64 (-1)) (hpS F s r v L lim cnt rd):=by
 have q1:=zea (v:=v) (L:=L) (lim:=lim) (cnt:=cnt) (rd:=rd) hs hr hne n hn
 have e:((0:Int) !=6)=true:=by decide
 unfold zAd
 refine zBN C_ok Try.func35 rfl (by decide) (YAL rfl) (by decide) fun ok=> ?_
 rw[Try.results35]
 have h:=YAN
 repeat' (first
  |(with_reducible first|apply bA|apply bB|apply bC|apply bD|apply bE|apply bF)<;>intro h
  |((first|apply bG|apply bH);simp only[AV.norm,AV.zQg,W2,hpS,bxS,arS,stP hs hr hne,zTh,zTg,AV.bel,zOg,e];first|refine zIB (q1) (.inl rfl) ?_)
  |refine zKh (id:=3) C_ok (fun _=>trivial) mixed 0 Try.f35.ntmps (by first|(simp;done)|(simp;omega)) rfl (by kernel_rfl) (by decide) ?_
  |skip)<;>simp only[h,↓zaL,↓zHC,WY,reduceIte,yA,yB,yC,yD,reduceCtorEq,yE,yF,W1,WS,hpS,bxS,arS,stP hs hr hne,zTh,zTg,AV.bel,zOg,e]
theorem zg6(hs:s<F.length)(hr:r<F.length)(hne:r≠s)(n:Int)(hn:n<0\/(L.length:Int)<=n):zAd Try.prog 23 [.bptr s 0,.int .i64 n] (hpS F s r v L lim cnt rd) (.sl [] .no) (hpS F s r v L lim cnt rd):=by
 have q1:=zeX (v:=v) (L:=L) (lim:=lim) (cnt:=cnt) (rd:=rd) hs hr hne hn
 unfold zAd
 refine zBN C_ok Try.func23 rfl (by decide) (YAL rfl) (by decide) fun ok=> ?_
 rw[Try.results23]
 have h:=YAN
 repeat' (first
  |(with_reducible first|apply bA|apply bB|apply bC|apply bD|apply bE|apply bF)<;>intro h
  |((first|apply bG|apply bH);simp only[AV.norm,AV.zQg,W2,hpS,bxS,arS,stP hs hr hne,zTh,zTg,AV.bel,zOg,AV.belL];first|refine zIB (q1) (.inl rfl) ?_)
  |skip)<;>simp only[h,↓zaL,↓zHC,WY,reduceIte,yA,yB,yC,yD,reduceCtorEq,yE,yF,W1,WS,hpS,bxS,arS,stP hs hr hne,zTh,zTg,AV.bel,zOg,AV.belL]
theorem zgz(hs:s<F.length)(hr:r<F.length)(hne:r≠s)(n:Int)(hn:n<0\/(L.length:Int)<=n):zAd Try.prog 33 [.bptr s 0,.int .i64 n] (hpS F s r v L lim cnt rd) (.bool false) (hpS F s r v L lim cnt rd):=by
 have q1:=zeX (v:=v) (L:=L) (lim:=lim) (cnt:=cnt) (rd:=rd) hs hr hne hn
 unfold zAd
 refine zBN C_ok Try.func33 rfl (by decide) (YAL rfl) (by decide) fun ok=> ?_
 rw[Try.results33]
 have h:=YAN
 repeat' (first
  |(with_reducible first|apply bA|apply bB|apply bC|apply bD|apply bE|apply bF)<;>intro h
  |((first|apply bG|apply bH);simp only[AV.norm,AV.zQg,W2,hpS,bxS,arS,stP hs hr hne,zTh,zTg,AV.bel,zOg];first|refine zIB (q1) (.inl rfl) ?_)
  |skip)<;>simp only[h,↓zaL,↓zHC,WY,reduceIte,yA,yB,yC,yD,reduceCtorEq,yE,yF,W1,WS,hpS,bxS,arS,stP hs hr hne,zTh,zTg,AV.bel,zOg]
end
end Go.Proofs.Ytdngjamjccjlmaa
