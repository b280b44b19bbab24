/- Lemmas: a variable becomes a node, first part. No condition. -/
import Derived.Test.YtdngjamjccjlmaaPWb
import Derived.Test.YtdngjamjccjlmaaPNa
import Derived.Test.YtdngjamjccjlmaaPWa
set_option linter.unusedSimpArgs false
set_option linter.unusedVariables false
set_option maxHeartbeats 4000000
set_option maxRecDepth 100000
namespace Go.Proofs.Ytdngjamjccjlmaa
open Go Go.Ab
open Nat renaming reduceEqDiff -> yA, reduceAdd -> yB, reduceLT -> yC, reduceLeDiff -> yD, reduceMul -> yE, reducePow -> yF
open AV renaming bel -> yN, normL -> yQ, norm -> yP, belL -> yO
open Int renaming reduceAdd -> yH, reduceLT -> yI, reduceToNat -> yJ, reduceBEq -> yK, reduceBNe -> yL, reduceLE -> yM
attribute [local irreducible] zA0 zAA zAa zAi zAj GoIf GoGb zAk GoO GoD GoX GoDX GoG GoDG GoGv zAl Go zAB
section
theorem zEs(x:Int)(l:List Int)(hl:l.length<=1000000):zA0 Try.prog 122 [.sl ((x::l).map I64) .no] (.sl ((x::l).map I64) .no):=by
 have hb:(AV.sl ((x::l).map I64) .no).bel 0=true:=by simp only[yN,zLy,Bool.and_self]
 have r1:(l.length+1<=9223372036854775807)=True:=by simp only[YAb,iff_true];omega
 have r2:((l.length+1)*8<=140737488355328)=True:=by simp only[YAb,iff_true];omega
 have ha:=zCE (x::l)
 have hn:=zLz (x::l)
 simp only[List.map_cons]at hb ha hn⊢
 refine zSa C_ok Try.func122 rfl (by decide) (YAL rfl) (by decide) hb fun ok H=> ?_
 rw[Try.results122]
 have h:=YAN
 repeat' (first
  |(with_reducible first|apply bA|apply bB|apply bC|apply bD|apply bE|apply bF)<;>intro h
  |skip)<;>simp only[h,↓zaL,↓zHC,WZ,reduceIte,yA,yB,yC,yD,reduceCtorEq,yE,yF,W1,ha,YAQ,YAK,List.length_cons,r1,r2,hn]
 exact⟨⟨rfl,rfl⟩,fun a ha=>by obtain⟨z,_,rfl⟩:=List.mem_map.1 ha;exact⟨rfl,rfl⟩⟩
section
variable {F : List AObj} {s r v : Nat} {L : Mem} {lim cnt rd : Int}
theorem zMd(hs:s<F.length)(hr:r<F.length)(hne:r≠s)(hw:Wf L.st)(n:Nat)(hn:n<L.length)(hk2:(L.st.kids (L.st.root n)).length<=1000000)(hk0:L.st.kids (L.st.root n)≠[]):DCalls Try.prog 60 [.bptr s 0,.int .i64 n] (hpS F s r v L lim cnt rd) (.sl ((kidI (L.st.kids (L.st.root n))).map I64) .no) (hpS F s r v L lim cnt rd):=by
 have q1:=zMI (v:=v) (L:=L) (lim:=lim) (cnt:=cnt) (rd:=rd) hs hr hne hn
 have hrl:L.st.root n<L.length:=by have:=hw.root_lt n (by rw[Mem.zXR];exact hn);rwa[Mem.zXR]at this
 have hk:(L.getD (L.st.root n) default).1.kids=L.st.kids (L.st.root n):=by rw[<-L.nd];rfl
 have q3:zA0 Try.prog 122 [.sl ((kidI (L.st.kids (L.st.root n))).map I64) .no] (.sl ((kidI (L.st.kids (L.st.root n))).map I64) .no):=by
  cases hks:L.st.kids (L.st.root n)with
  |nil=>exact absurd hks hk0
  |cons x l=>rw[hks]at hk2;exact zEs x (kidI l) (by rw[zMZ];simp only[List.length_cons]at hk2;omega)
 unfold DCalls
 refine eD C_ok Try.func60 Try.results60 fun ok=> ?_
 have h:=YAN
 repeat' (first
  |(with_reducible first|apply bA|apply bB|apply bC|apply bD|apply bE|apply bF)<;>intro h
  |((first|apply bG|apply bH);simp only[yP,yQ,W2,hpS,bxS,arS,stP hs hr hne,zTh,zTg,yN,zOg,hrl,zOf hrl,zGZ,hk,zLz];first|refine zIf (q3) (.inl rfl) ?_|refine zIj (q3) (.inl rfl) ?_|refine zIB (q1) (.inl rfl) ?_|refine zIk rfl (zUP (v:=v) (L:=L) (lim:=lim) (cnt:=cnt) (rd:=rd) hs hr hne hw n hn (by simp[stP hs hr hne,bxS,arS])) (.inl rfl) ?_)
  |refine drA C_ok 3 0 ?_
  |skip)<;>simp only[h,↓zaL,↓zHC,WY,reduceIte,yA,yB,yC,yD,reduceCtorEq,yE,yF,W1,WS,hpS,bxS,arS,stP hs hr hne,zTh,zTg,yN,zOg,hrl,zOf hrl,zGZ,hk,zLz]
 exact zLy _ _
end
end
section
structure LiveS (σ:Sto):Prop where
 si:SI σ.L σ.rd
 len:σ.L.length<=900000
 rdb:σ.rd<=90000000000
section
variable {F : List AObj} {s r : Nat} {lim : Int}
theorem Sto.zO3(σ:Sto)(n:Nat):(σ.mark n).L.length=σ.L.length:=zPW _ _ _
theorem LiveS.mark{σ:Sto}(h:LiveS σ)(hb:σ.rd+1<=90000000000)(n:Nat):LiveS (σ.mark n):=⟨h.si.mark _,by rw[Sto.zO3];exact h.len,hb⟩
theorem LiveS.st{σ:Sto}{n:Nat}:(σ.mark n).L.st=σ.L.st:=zPY _ _ _
end
end
section
section
variable {F : List AObj} {s r v : Nat} {L : Mem} {lim cnt rd : Int}
theorem zes(hs:s<F.length)(hr:r<F.length)(hne:r≠s)(kd:Int)(a b:Nat)(hk:kd=7\/kd=9)(ha:a<L.length)(hb':b<L.length)(hc:(cnt==lim)=true):
 DCalls Try.prog 82 [.bptr s 0,.int .i64 kd,.int .i64 a,.int .i64 b] (hpS F s r v L lim cnt rd) (.tup [.int .i64 0,.int .i64 7]) (hpS F s r v L lim cnt rd):=by
 have i1:=zMH (v:=v) (L:=L) (lim:=lim) (cnt:=cnt) (rd:=rd) hs hr hne (a:Int)
 have i2:=zMH (v:=v) (L:=L) (lim:=lim) (cnt:=cnt) (rd:=rd) hs hr hne (b:Int)
 rw[show(decide (0<=(a:Int))&&decide ((a:Int)<L.length))=true by simp;omega]at i1
 rw[show(decide (0<=(b:Int))&&decide ((b:Int)<L.length))=true by simp;omega]at i2
 unfold DCalls
 rcases hk with rfl|rfl
 ·refine eD C_ok Try.func82 Try.results82 fun ok=> ?_
  have h:=YAN
  repeat' (first
   |(with_reducible first|apply bA|apply bB|apply bC|apply bD|apply bE|apply bF)<;>intro h
   |((first|apply bG|apply bH);simp only[yP,yQ,W2,W3,yH,yI,yJ,yK,yL,yM,hpS,bxS,arS,stP hs hr hne,zTh,zTg,yN,zOg,hc,yO];first|refine zIB (i1) (.inl rfl) ?_|refine zIB (i2) (.inl rfl) ?_)
   |refine drA C_ok 14 0 ?_
   |refine zJ9 ?_ C_ok Try.f82.ntmps rfl (by decide)
   |skip)<;>simp only[h,↓zaL,↓zHC,WY,reduceIte,yA,yB,yC,yD,reduceCtorEq,yE,yF,W1,WS,W3,yH,yI,yJ,yK,yL,yM,hpS,bxS,arS,stP hs hr hne,zTh,zTg,yN,zOg,hc,yO,zFY]
 ·refine eD C_ok Try.func82 Try.results82 fun ok=> ?_
  have h:=YAN
  repeat' (first
   |(with_reducible first|apply bA|apply bB|apply bC|apply bD|apply bE|apply bF)<;>intro h
   |((first|apply bG|apply bH);simp only[yP,yQ,W2,W3,yH,yI,yJ,yK,yL,yM,hpS,bxS,arS,stP hs hr hne,zTh,zTg,yN,zOg,hc,yO];first|refine zIB (i1) (.inl rfl) ?_|refine zIB (i2) (.inl rfl) ?_)
   |refine drA C_ok 14 0 ?_
   |refine zJ9 ?_ C_ok Try.f82.ntmps rfl (by decide)
   |skip)<;>simp only[h,↓zaL,↓zHC,WY,reduceIte,yA,yB,yC,yD,reduceCtorEq,yE,yF,W1,WS,W3,yH,yI,yJ,yK,yL,yM,hpS,bxS,arS,stP hs hr hne,zTh,zTg,yN,zOg,hc,yO,zFY]
theorem zet(hs:s<F.length)(hr:r<F.length)(hne:r≠s)(a:Nat)(b:Int)(ha:a<L.length)(hc:(cnt==lim)=true):
 DCalls Try.prog 82 [.bptr s 0,.int .i64 8,.int .i64 a,.int .i64 b] (hpS F s r v L lim cnt rd) (.tup [.int .i64 0,.int .i64 7]) (hpS F s r v L lim cnt rd):=by
 have i1:=zMH (v:=v) (L:=L) (lim:=lim) (cnt:=cnt) (rd:=rd) hs hr hne (a:Int)
 rw[show(decide (0<=(a:Int))&&decide ((a:Int)<L.length))=true by simp;omega]at i1
 unfold DCalls
 refine eD C_ok Try.func82 Try.results82 fun ok=> ?_
 have h:=YAN
 repeat' (first
  |(with_reducible first|apply bA|apply bB|apply bC|apply bD|apply bE|apply bF)<;>intro h
  |((first|apply bG|apply bH);simp only[yP,yQ,W2,W3,yH,yI,yJ,yK,yL,yM,hpS,bxS,arS,stP hs hr hne,zTh,zTg,yN,zOg,hc,yO];refine zIB (i1) (.inl rfl) ?_)
  |refine drA C_ok 14 0 ?_
  |refine zJ9 ?_ C_ok Try.f82.ntmps rfl (by decide)
  |skip)<;>simp only[h,↓zaL,↓zHC,WY,reduceIte,yA,yB,yC,yD,reduceCtorEq,yE,yF,W1,WS,W3,yH,yI,yJ,yK,yL,yM,hpS,bxS,arS,stP hs hr hne,zTh,zTg,yN,zOg,hc,yO,zFY]
end
end
end Go.Proofs.Ytdngjamjccjlmaa
