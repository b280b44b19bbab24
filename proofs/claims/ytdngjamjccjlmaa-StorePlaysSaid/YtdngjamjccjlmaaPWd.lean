/- Lemmas: the laws of stores, first part. No condition. -/
import Derived.Test.YtdngjamjccjlmaaPWc
import Derived.Test.YtdngjamjccjlmaaPFa
set_option linter.unusedSimpArgs false
set_option linter.unusedVariables false
set_option maxHeartbeats 4000000
set_option maxRecDepth 100000
namespace Go.Proofs.Ytdngjamjccjlmaa
open Go Go.Ab
open Nat renaming reduceEqDiff -> yA, reduceAdd -> yB, reduceLT -> yC, reduceLeDiff -> yD, reduceMul -> yE, reducePow -> yF
open AV renaming belL -> yO, bel -> yN, normL -> yQ, norm -> yP
open AObj renaming bel -> yR
open Int renaming reduceAdd -> yH, reduceLT -> yI, reduceToNat -> yJ, reduceBEq -> yK, reduceBNe -> yL, reduceLE -> yM
attribute [local irreducible] zA0 zAA zAa zAi zAj GoIf GoGb zAk GoO GoD GoX GoDX GoG GoDG GoGv zAl Go zAB
section
theorem zLX(F:List AObj)(v:Nat)(L:Mem)(lim cnt rd:Int)(x y:AObj):hpS (F++ [x,y]) F.length (F.length+1) v L lim cnt rd=F++ [bxS (F.length+1) v L.length lim cnt rd,arS v L]:=by
 unfold hpS stF
 rw[zCX rfl,zCY rfl];rfl
theorem zQH(F:List AObj)(n:Int):∃G s r,s<G.length/\r<G.length/\r≠s/\F.length<=G.length/\G.take F.length=F/\F.length<=s/\F.length<=r/\
 DCalls Try.prog 21 [.int .i64 n] F (.bptr s 0) (hpS G s r 4 mem0 (zNK n) 0 0):=by
 refine⟨F++ [.dead,.dead],F.length,F.length+1,by simp,by simp,by omega,by simp,List.take_left' rfl,by omega,by omega,?_⟩
 rw[zLX]
 exact zQD F n
theorem zLW{G:List AObj}{s r v b:Nat}{L:Mem}{lim cnt rd:Int}(hs:b<=s)(hr:b<=r):(hpS G s r v L lim cnt rd).take b=G.take b:=by
 unfold hpS stF
 rw[List.take_set,List.take_set,List.set_eq_of_length_le (by simp;omega),List.set_eq_of_length_le (by simp;omega)]
def wk1:Mem:=mem0++ [varN 2]
def wk2:Mem:=wk1++ [(⟨7,0,none,[5,0]⟩,0)]
def wk3:Mem:=wk2++ [(⟨8,0,none,[5]⟩,0)]
theorem zqL:SI wk3 0:=((SI.mem0.var 2).two (.inl rfl) (by decide) (by decide)).one (by decide)
def wk4:Mem:=mkL wk3 1 (wk3.st.all 6)
theorem zqM:SI wk4 1:=zqL.mark _
def wk5:Mem:=zNL wk4 1 5 1
theorem zqN:wk4.st=wk3.st:=zPY _ _ _
theorem zqP:Wf (wk4.st.lk 5 1)/\SI wk5 3/\Lv (wk4.st.lk 5 1) wk5.st:=
 zqM.link (by decide) (by decide) (by decide) (by decide) (by decide) (by decide)
theorem zqR:wk5.st.tree 6= .mk 7 0 [.mk 2 0 [],.mk 1 0 []]:=by rw[zqP.2.2.tree,zqN];rfl
theorem zqS:wk5.st.tree 7= .mk 8 0 [.mk 2 0 []]:=by rw[zqP.2.2.tree,zqN];rfl
theorem zqQ:wk5.st.root 5=1:=by rw[zqP.2.2.root,zqN];decide
theorem zP7{F G:List AObj}{s r v b:Nat}{L:Mem}{lim cnt rd:Int}(hb:b<=F.length)(hs:F.length<=s)(hr:F.length<=r)(ht:G.take F.length=F)(h:∀x∈F.take b,x.bel b=true):
 ∀x∈(hpS G s r v L lim cnt rd).take b,x.bel b=true:=by
 have e:G.take b=F.take b:=by rw[<-ht,List.take_take,Nat.min_eq_left hb]
 rw[zLW (by omega) (by omega),e];exact h
section
variable {F : List AObj} {s r : Nat}
theorem wkq1(hs:s<F.length)(hr:r<F.length)(hne:r≠s):DCalls Try.prog 34 [.bptr s 0,.int .i64 2] (hpS F s r 4 mem0 8 0 0) (.tup [.int .i64 5,.int .i64 0]) (hpS F s r 5 wk1 8 1 0):=
 zg4 hs hr hne 2 (by decide) (by decide) (by decide) (by decide)
theorem wkq2(hs:s<F.length)(hr:r<F.length)(hne:r≠s):DCalls Try.prog 82 [.bptr s 0,.int .i64 7,.int .i64 5,.int .i64 0] (hpS F s r 5 wk1 8 1 0) (.tup [.int .i64 6,.int .i64 0]) (hpS F s r 6 wk2 8 2 0):=
 zev hs hr hne 7 5 0 (.inl rfl) (by decide) (by decide) (by decide) (by decide) (by decide)
theorem wkq3(hs:s<F.length)(hr:r<F.length)(hne:r≠s):DCalls Try.prog 82 [.bptr s 0,.int .i64 8,.int .i64 5,.int .i64 99] (hpS F s r 6 wk2 8 2 0) (.tup [.int .i64 7,.int .i64 0]) (hpS F s r 7 wk3 8 3 0):=
 zeu hs hr hne 5 99 (by decide) (by decide) (by decide) (by decide)
theorem wkq4(hs:s<F.length)(hr:r<F.length)(hne:r≠s):DCalls Try.prog 25 [.bptr s 0,.int .i64 5,.int .i64 6] (hpS F s r 7 wk3 8 3 0) (.int .i64 5) (hpS F s r 7 wk4 8 3 1):=
 zNT hs hr hne zqL.wf zqL.mb (by decide) (by decide) 5 6 (by decide) (by decide) (by decide) (by decide) (by decide)
theorem wkq5(hs:s<F.length)(hr:r<F.length)(hne:r≠s):DCalls Try.prog 25 [.bptr s 0,.int .i64 5,.int .i64 1] (hpS F s r 7 wk4 8 3 1) (.int .i64 0) (hpS F s r 7 wk5 8 3 3):=
 zNU hs hr hne zqM.wf zqM.mb (by decide) (by decide) 5 1 (by decide) (by decide) (by decide) (by decide) (by decide)
theorem zqO:wk5.length=8:=zNM
theorem wkq6(hs:s<F.length)(hr:r<F.length)(hne:r≠s):DCalls Try.prog 30 [.bptr s 0,.int .i64 6] (hpS F s r 7 wk5 8 3 3) (.tup [emb (.mk 7 0 [.mk 2 0 [],.mk 1 0 []]),.int .i64 0]) (hpS F s r 7 wk5 8 6 3):=by
 have h:=zTV (F:=F) (s:=s) (r:=r) (v:=7) (L:=wk5) (lim:=8) (cnt:=3) (rd:=3) hs hr hne zqP.2.1.wf 6 (by rw[zqO];decide) (by decide)
 rw[zqR]at h
 exact h
theorem wkq7(hs:s<F.length)(hr:r<F.length)(hne:r≠s):DCalls Try.prog 30 [.bptr s 0,.int .i64 7] (hpS F s r 7 wk5 8 6 3) (.tup [emb (.mk 8 0 [.mk 2 0 []]),.int .i64 0]) (hpS F s r 7 wk5 8 8 3):=by
 have h:=zTV (F:=F) (s:=s) (r:=r) (v:=7) (L:=wk5) (lim:=8) (cnt:=6) (rd:=3) hs hr hne zqP.2.1.wf 7 (by rw[zqO];decide) (by decide)
 rw[zqS]at h
 exact h
theorem wkq9{e:Nat->AV}{b m:Nat}{G:List AObj}(hs:s<F.length)(hr:r<F.length)(hne:r≠s)(hG:G[s]?=some (bxS r 7 wk5.length 8 8 3)/\G[r]?=some (arS 7 wk5)):zA5 Try.prog 29 [.bptr s 0,.int .i64 5] (.int .i64 1) (FS e G b m).obj:=by
 have h:=zUP (e:=e) (b:=b) (m:=m) (v:=7) (L:=wk5) (lim:=8) (cnt:=8) (rd:=3) hs hr hne zqP.2.1.wf 5 (by rw[zqO];decide) hG
 rw[zqQ]at h
 exact h
end
theorem zoE{F:List AObj}{s r v:Nat}{L:Mem}{lim cnt rd:Int}{e:Nat->AV}{b m:Nat}{G:List AObj}(hs:s<F.length)(hr:r<F.length)(hne:r≠s)(hG:G[s]?=some (bxS r v L.length lim cnt rd)/\G[r]?=some (arS v L)):
 zA5 Try.prog 36 [.bptr s 0] (.int .i64 cnt) (FS e G b m).obj:=
 qcalls_st (fun F' h1 h2=>zgf h1 h2 hne) (by rw[zIP];exact hG.1) (by rw[zIP];exact hG.2) rfl rfl
theorem zXL{F G J:List AObj}{s r:Nat}{bx ar:AObj}(hs:F.length<=s)(hr:F.length<=r)(hl:F.length<=G.length)(ht:G.take F.length=F):(stF (G++J) s r bx ar).take F.length=F:=by
 unfold stF
 rw[List.take_set,List.take_set,List.set_eq_of_length_le (by simp;omega),List.set_eq_of_length_le (by simp;omega),List.take_append_of_le_length hl,ht]
theorem zqJ:zA0 Try.prog 26 [] (.bool true):=by
 refine eP C_ok Try.func26 Try.results26 fun ok H=> ?_
 rw[zLh]
 obtain⟨G,s,r,hs,hr,hne,hl,ht,hbs,hbr,hnew⟩:=zQH H 8
 rw[show zNK 8=8 by decide]at hnew
 have hle:∀k,(H.length<=G.length+k)=True:=fun k=>by simp only[YAb,iff_true];omega
 have hb0:H.length<=H.length:=YAV _
 have hsame:same (.mk 7 0 [.mk 2 0 [],.mk 1 0 []]) (twoT 7 (zM6 2) (zM6 1))=true:=by decide
 have h:=YAN
 repeat' (first
  |(with_reducible first|apply bA|apply bB|apply bC|apply bD|apply bE|apply bF)<;>intro h
  |((first|apply bG|apply bH);simp only[yP,yQ,W2,hpS,bxS,arS,stP hs hr hne,zTh,zTg,yN,zOg,hsame,hb0,hl,hle,zGx,implies_true,yO,zG0];first|refine zIf (zM8 2) (.inl rfl) ?_|refine zIf (zM8 1) (.inl rfl) ?_|refine zIf (zdU 7 _ _) (.inl rfl) ?_|refine zIf (zMo _ _) (.inl rfl) ?_|refine zIj (zM8 2) (.inl rfl) ?_|refine zIj (zM8 1) (.inl rfl) ?_|refine zIj (zdU 7 _ _) (.inl rfl) ?_|refine zIj (zMo _ _) (.inl rfl) ?_|refine zIA (hnew) (.inl rfl) (fun hb=>zP7 (by simp) hbs hbr ht hb) ?_|refine zIA (wkq1 (by first|exact hs|simp<;>omega) (by first|exact hr|simp<;>omega) hne) (.inl rfl) (fun hb=>zLV (by first|exact hs|simp<;>omega) (by first|exact hr|simp<;>omega) hne hb) ?_|refine zIA (wkq2 (by first|exact hs|simp<;>omega) (by first|exact hr|simp<;>omega) hne) (.inl rfl) (fun hb=>zLV (by first|exact hs|simp<;>omega) (by first|exact hr|simp<;>omega) hne hb) ?_|refine zIA (wkq3 (by first|exact hs|simp<;>omega) (by first|exact hr|simp<;>omega) hne) (.inl rfl) (fun hb=>zLV (by first|exact hs|simp<;>omega) (by first|exact hr|simp<;>omega) hne hb) ?_|refine zIA (wkq4 (by first|exact hs|simp<;>omega) (by first|exact hr|simp<;>omega) hne) (.inl rfl) (fun hb=>zLV (by first|exact hs|simp<;>omega) (by first|exact hr|simp<;>omega) hne hb) ?_|refine zIA (wkq5 (by first|exact hs|simp<;>omega) (by first|exact hr|simp<;>omega) hne) (.inl rfl) (fun hb=>zLV (by first|exact hs|simp<;>omega) (by first|exact hr|simp<;>omega) hne hb) ?_|refine zIA (wkq6 (by first|exact hs|simp<;>omega) (by first|exact hr|simp<;>omega) hne) (.inl rfl) (fun hb=>zLV (by first|exact hs|simp<;>omega) (by first|exact hr|simp<;>omega) hne hb) ?_|refine zIA (wkq7 (by first|exact hs|simp<;>omega) (by first|exact hr|simp<;>omega) hne) (.inl rfl) (fun hb=>zLV (by first|exact hs|simp<;>omega) (by first|exact hr|simp<;>omega) hne hb) ?_|refine zIk rfl (wkq9 hs hr hne ⟨zXp hs hne,zXo hr⟩) (.inl rfl) ?_|refine zIk rfl (zoE hs hr hne ⟨zXp hs hne,zXo hr⟩) (.inl rfl) ?_)
  |refine drA C_ok 11 0 ?_
  |skip)<;>simp only[h,↓zaL,↓zHC,WY,reduceIte,yA,yB,yC,yD,reduceCtorEq,yE,yF,W1,WS,hpS,bxS,arS,stP hs hr hne,zTh,zTg,yN,zOg,hsame,hb0,hl,hle,zGx,implies_true,yO,zG0]
 all_goals exact zXL hbs hbr hl ht
end
section
section
variable {F : List AObj} {s r v : Nat} {L : Mem} {lim cnt rd : Int}
theorem zea(hs:s<F.length)(hr:r<F.length)(hne:r≠s)(n:Int)(hn:n<0\/(L.length:Int)<=n):DCalls Try.prog 32 [.bptr s 0,.int .i64 n] (hpS F s r v L lim cnt rd) (.int .i64 0) (hpS F s r v L lim cnt rd):=by
 unfold DCalls
 refine eD C_ok Try.func32 Try.results32 fun ok=> ?_
 have h:=YAN
 repeat' (first
  |(with_reducible first|apply bA|apply bB|apply bC|apply bD|apply bE|apply bF)<;>intro h
  |((first|apply bG|apply bH);simp only[yP,yQ,W2,hpS,bxS,arS,stP hs hr hne,zTh,zTg,yN,zOg];refine zIB (zeW hs hr hne hn) (.inl rfl) ?_)
  |refine drA C_ok 3 0 ?_
  |skip)<;>simp only[h,↓zaL,↓zHC,WY,reduceIte,yA,yB,yC,yD,reduceCtorEq,yE,yF,W1,WS,hpS,bxS,arS,stP hs hr hne,zTh,zTg,yN,zOg]
end
def limL(k:Nat):Mem:=mem0++(List.range k).map fun j:Nat=>varN (j:Int)
section
variable {F : List AObj} {s r M : Nat} {i : Nat}
end
end
section
theorem wrapN{a:Nat}{x:Int}(h:x=a)(ha:a<=9000000):IntKind.wrap .i64 x=(a:Int):=by rw[h];exact zbT (by omega) (by omega)
theorem zOM(k n m:Int):zA0 Try.prog 96 [emb (.mk k n []),.int .i64 m] (.int .i64 0):=by
 refine eP C_ok Try.func96 Try.results96 fun ok H=> ?_
 have h:=YAN
 repeat' (first
  |(with_reducible first|apply bA|apply bB|apply bC|apply bD|apply bE|apply bF)<;>intro h
  |refine zJ9 ?_ C_ok Try.f96.ntmps rfl (by decide)
  |skip)<;>simp only[h,↓zaL,↓zHC,WZ,reduceIte,yA,yB,yC,yD,reduceCtorEq,yE,yF,W1,W3,yH,yI,yJ,yK,yL,yM,zFY]
theorem zOO(k n:Int)(x y:Ty){m:Int}(h:m<1):zA0 Try.prog 96 [emb (.mk k n [x,y]),.int .i64 m] (.int .i64 1):=by
 refine eP C_ok Try.func96 Try.results96 fun ok H=> ?_
 repeat' first
  |(with_reducible first|apply bA|apply bB|apply bC|apply bD|apply bE|apply bF)<;>intro h<;>try simp only[h,↓zaL,↓zHC,WZ,reduceIte,yA,yB,yC,yD,reduceCtorEq,yE,yF,W1,W3,yH,yI,yJ,yK,yL,yM,h,zFY]
  |refine zJ9 ?_ C_ok Try.f96.ntmps rfl (by decide)
  |simp only[↓zaL,↓zHC,WZ,reduceIte,yA,yB,yC,yD,reduceCtorEq,yE,yF,W1,W3,yH,yI,yJ,yK,yL,yM,h,zFY]
theorem zON(k n:Int)(x:Ty){m:Int}(h:m<1):zA0 Try.prog 96 [emb (.mk k n [x]),.int .i64 m] (.int .i64 1):=by
 refine eP C_ok Try.func96 Try.results96 fun ok H=> ?_
 repeat' first
  |(with_reducible first|apply bA|apply bB|apply bC|apply bD|apply bE|apply bF)<;>intro h<;>try simp only[h,↓zaL,↓zHC,WZ,reduceIte,yA,yB,yC,yD,reduceCtorEq,yE,yF,W1,W3,yH,yI,yJ,yK,yL,yM,h,zFY]
  |refine zJ9 ?_ C_ok Try.f96.ntmps rfl (by decide)
  |simp only[↓zaL,↓zHC,WZ,reduceIte,yA,yB,yC,yD,reduceCtorEq,yE,yF,W1,W3,yH,yI,yJ,yK,yL,yM,h,zFY]
theorem zOQ{x:Ty}{a m m1:Int}(k n:Int)(h:¬m<1)(e1:IntKind.wrap .i64 (m-1)=m1)(ha:0<=a/\a<=1000000)(i1:zA0 Try.prog 96 [emb x,.int .i64 m1] (.int .i64 a)):
 zA0 Try.prog 96 [emb (.mk k n [x]),.int .i64 m] (.int .i64 (1+a)):=by
 have w1:IntKind.wrap .i64 (1+a)=1+a:=zbT (by omega) (by omega)
 refine eP C_ok Try.func96 Try.results96 fun ok H=> ?_
 repeat' first
  |(with_reducible first|apply bA|apply bB|apply bC|apply bD|apply bE|apply bF)<;>intro h<;>try simp only[h,↓zaL,↓zHC,WZ,reduceIte,yA,yB,yC,yD,reduceCtorEq,yE,yF,W1,W3,yH,yI,yJ,yK,yL,yM,h,e1,w1,zFY]
  |((first|apply bG|apply bH);simp only[yP,yQ,W2,W3,yH,yI,yJ,yK,yL,yM,h,e1,w1];first|refine zIf (i1) (.inl rfl) ?_|refine zIj (i1) (.inl rfl) ?_)
  |refine zJ9 ?_ C_ok Try.f96.ntmps rfl (by decide)
  |simp only[↓zaL,↓zHC,WZ,reduceIte,yA,yB,yC,yD,reduceCtorEq,yE,yF,W1,W3,yH,yI,yJ,yK,yL,yM,h,e1,w1,zFY]
theorem zOL{x y:Ty}{a m m1:Int}(k n:Int)(h:¬m<1)(e1:IntKind.wrap .i64 (m-1)=m1)(ha:0<=a/\a<=1000000)(i1:zA0 Try.prog 96 [emb x,.int .i64 m1] (.int .i64 a))(h2:m<1+a):
 zA0 Try.prog 96 [emb (.mk k n [x,y]),.int .i64 m] (.int .i64 (1+a)):=by
 have w1:IntKind.wrap .i64 (1+a)=1+a:=zbT (by omega) (by omega)
 refine eP C_ok Try.func96 Try.results96 fun ok H=> ?_
 repeat' first
  |(with_reducible first|apply bA|apply bB|apply bC|apply bD|apply bE|apply bF)<;>intro h<;>try simp only[h,↓zaL,↓zHC,WZ,reduceIte,yA,yB,yC,yD,reduceCtorEq,yE,yF,W1,W3,yH,yI,yJ,yK,yL,yM,h,e1,w1,h2,zFY]
  |((first|apply bG|apply bH);simp only[yP,yQ,W2,W3,yH,yI,yJ,yK,yL,yM,h,e1,w1,h2];first|refine zIf (i1) (.inl rfl) ?_|refine zIj (i1) (.inl rfl) ?_)
  |refine zJ9 ?_ C_ok Try.f96.ntmps rfl (by decide)
  |simp only[↓zaL,↓zHC,WZ,reduceIte,yA,yB,yC,yD,reduceCtorEq,yE,yF,W1,W3,yH,yI,yJ,yK,yL,yM,h,e1,w1,h2,zFY]
theorem zOS{x y:Ty}{a b m m1 m2:Int}(k n:Int)(h:¬m<1)(e1:IntKind.wrap .i64 (m-1)=m1)(ha:0<=a/\a<=1000000)(i1:zA0 Try.prog 96 [emb x,.int .i64 m1] (.int .i64 a))(h2:¬m<1+a)
 (e2:IntKind.wrap .i64 (m-(1+a))=m2) (hb:0<=b/\b<=1000000) (i2:zA0 Try.prog 96 [emb y,.int .i64 m2] (.int .i64 b)):
 zA0 Try.prog 96 [emb (.mk k n [x,y]),.int .i64 m] (.int .i64 (1+a+b)):=by
 have w1:IntKind.wrap .i64 (1+a)=1+a:=zbT (by omega) (by omega)
 have w2:IntKind.wrap .i64 (1+a+b)=1+a+b:=zbT (by omega) (by omega)
 refine eP C_ok Try.func96 Try.results96 fun ok H=> ?_
 repeat' first
  |(with_reducible first|apply bA|apply bB|apply bC|apply bD|apply bE|apply bF)<;>intro h<;>try simp only[h,↓zaL,↓zHC,WZ,reduceIte,yA,yB,yC,yD,reduceCtorEq,yE,yF,W1,W3,yH,yI,yJ,yK,yL,yM,h,e1,w1,h2,e2,w2,zFY]
  |((first|apply bG|apply bH);simp only[yP,yQ,W2,W3,yH,yI,yJ,yK,yL,yM,h,e1,w1,h2,e2,w2];first|refine zIf (i1) (.inl rfl) ?_|refine zIf (i2) (.inl rfl) ?_|refine zIj (i1) (.inl rfl) ?_|refine zIj (i2) (.inl rfl) ?_)
  |refine zJ9 ?_ C_ok Try.f96.ntmps rfl (by decide)
  |simp only[↓zaL,↓zHC,WZ,reduceIte,yA,yB,yC,yD,reduceCtorEq,yE,yF,W1,W3,yH,yI,yJ,yK,yL,yM,h,e1,w1,h2,e2,w2,zFY]
theorem zOR{x y:T}{t:T}(k n:Int)(ht:t.ty= .mk k n [x.ty,y.ty])(hi:t.inner=x.inner+y.inner+1)(hd:∀m,zOH t m=if m<1 then 1 else let n:=1+zOH x (m-1);if m<n then n else n+zOH y (m-n))
 (ih1:∀m:Nat,x.inner<=1000000->m<=1000000->zA0 Try.prog 96 [emb x.ty,.int .i64 m] (.int .i64 (zOH x m))) (ih2:∀m:Nat,y.inner<=1000000->m<=1000000->zA0 Try.prog 96 [emb y.ty,.int .i64 m] (.int .i64 (zOH y m)))
 (m:Nat) (h:t.inner<=1000000) (hm:m<=1000000):zA0 Try.prog 96 [emb t.ty,.int .i64 m] (.int .i64 (zOH t m)):=by
 have g1:=zOI x (m-1)
 have g2:=zOI y (m-(1+zOH x (m-1)))
 rw[ht,hd]
 by_cases h1:m<1
 ·rw[if_pos h1];exact zOO _ _ _ _ (by omega)
 ·rw[if_neg h1]
  simp only
  have i1:=ih1 (m-1) (by omega) (by omega)
  have e1:IntKind.wrap .i64 ((m:Int)-1)=((m-1:Nat):Int):=wrapN (by omega) (by omega)
  by_cases h2:m<1+zOH x (m-1)
  ·rw[if_pos h2]
   have:=zOL (x:=x.ty) (y:=y.ty) k n (by omega) e1 (by omega) i1 (by omega)
   rw[show((1+zOH x (m-1):Nat):Int)=1+(zOH x (m-1):Int)by omega];exact this
  ·rw[if_neg h2]
   have i2:=ih2 (m-(1+zOH x (m-1))) (by omega) (by omega)
   have e2:IntKind.wrap .i64 ((m:Int)-(1+(zOH x (m-1):Int)))=((m-(1+zOH x (m-1)):Nat):Int):=wrapN (by omega) (by omega)
   have:=zOS (x:=x.ty) (y:=y.ty) k n (by omega) e1 (by omega) i1 (by omega) e2 (by omega) i2
   rw[show((1+zOH x (m-1)+zOH y (m-(1+zOH x (m-1))):Nat):Int)=1+(zOH x (m-1):Int)+(zOH y (m-(1+zOH x (m-1))):Int)by omega];exact this
theorem zOP:∀(t:T) (m:Nat),t.inner<=1000000->m<=1000000->zA0 Try.prog 96 [emb t.ty,.int .i64 m] (.int .i64 (zOH t m)):=by
 intro t
 induction t with
 |base k=>intro m h hm;exact zOM _ _ _
 |dyn=>intro m h hm;exact zOM _ _ _
 |var n=>intro m h hm;exact zOM _ _ _
 |pair a b ih1 ih2=>exact zOR 7 0 rfl rfl (fun m=>rfl) ih1 ih2
 |fn a b ih1 ih2=>exact zOR 9 0 rfl rfl (fun m=>rfl) ih1 ih2
 |list a ih1=>
  intro m h hm
  have g1:=zOI a (m-1)
  simp only[T.inner]at h
  simp only[zOH]
  by_cases h1:m<1
  ·rw[if_pos h1];exact zON _ _ _ (by omega)
  ·rw[if_neg h1]
   have e1:IntKind.wrap .i64 ((m:Int)-1)=((m-1:Nat):Int):=wrapN (by omega) (by omega)
   have:=zOQ (x:=a.ty) 8 0 (by omega) e1 (by omega) (ih1 (m-1) (by omega) (by omega))
   rw[show((1+zOH a (m-1):Nat):Int)=1+(zOH a (m-1):Int)by omega];exact this
end
end Go.Proofs.Ytdngjamjccjlmaa
