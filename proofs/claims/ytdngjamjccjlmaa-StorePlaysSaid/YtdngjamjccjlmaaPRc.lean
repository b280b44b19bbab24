/- Lemmas: the store of the document, walked, first part. No condition. -/
import Derived.Test.YtdngjamjccjlmaaPSb
import Derived.Test.YtdngjamjccjlmaaPWa
import Derived.Test.YtdngjamjccjlmaaPWb
import Derived.Test.YtdngjamjccjlmaaPAe
import Derived.Test.YtdngjamjccjlmaaPVa
import Derived.Test.YtdngjamjccjlmaaPWc
set_option linter.unusedSimpArgs false
set_option linter.unusedVariables false
set_option maxHeartbeats 4000000
set_option maxRecDepth 100000
namespace Go.Proofs.Ytdngjamjccjlmaa
open Go Go.Ab
open Nat renaming reduceEqDiff -> yA, reduceAdd -> yB, reduceLT -> yC, reduceLeDiff -> yD, reduceMul -> yE, reducePow -> yF, reduceBEq -> yG
open AV renaming belL -> yO, bel -> yN, normL -> yQ, norm -> yP
open AObj renaming bel -> yR
open Int renaming reduceAdd -> yH, reduceLT -> yI, reduceToNat -> yJ, reduceBEq -> yK, reduceBNe -> yL, reduceLE -> yM
attribute [local irreducible] zA0 zAA zAa zAi zAj GoIf GoGb zAk GoO GoD GoX GoDX GoG GoDG GoGv zAl Go zAB
section
def kA(d:Nd):Nat:=d.kids.headD 0
def kB(d:Nd):Nat:=d.kids.getD 1 (kA d)
def embW(d:Nd):AV:= .agg [.int .i64 d.kind,.int .i64 (kA d),.int .i64 (kB d),.int .i64 d.level,.int .i64 (lnk d.link)]
theorem zeI(d:Nd):cellsOf (embW d)=[.int .i64 d.kind,.int .i64 (kA d),.int .i64 (kB d),.int .i64 d.level,.int .i64 (lnk d.link)]:=rfl
theorem zeJ(d:Nd):(embW d).solid=true:=rfl
theorem zeH(m:Nat)(d:Nd):(embW d).bel m=true:=by simp only[embW,yN,yO,Bool.and_self]
theorem zey(m:Nat)(S:St):AV.belL m (S.map embW)=true:=by
 induction S with
 |nil=>rfl
 |cons a l ih=>simp only[List.map_cons,yO,zeH,ih,Bool.and_self]
theorem ze0(S:St):(S.map embW).length=S.length:=by simp
theorem zez{S:St}{i:Nat}(h:i<S.length):(S.map embW).getD i .any=embW (S.nd i):=by simp[h,St.nd]
theorem reW(d:Nd)(cs:List AV):zTS (embW d) cs= .agg cs:=rfl
def bxR(r v n:Nat)(lim cnt:Int):AObj:= .box [.int .i64 lim,.int .i64 cnt,.ms r v n]
def arR(v:Nat)(S:St):AObj:= .arr v 5 (S.map embW)
theorem zd4(m v:Nat)(S:St):(arR v S).bel m=true:=by simp only[arR,yR,zey]
theorem zeB{m r v n v' n':Nat}{lim cnt lim' cnt':Int}(h:(bxR r v n lim cnt).bel m=true):(bxR r v' n' lim' cnt').bel m=true:=by
 simp only[bxR,yR,yO,yN,YAA,YAa]at h⊢
 exact h
def hpR(F:List AObj)(s r v:Nat)(S:St)(lim cnt:Int):List AObj:=stF F s r (bxR r v S.length lim cnt) (arR v S)
theorem zeT{F:List AObj}{s r v v' b:Nat}{S S':St}{lim cnt lim' cnt':Int}(hs:s<F.length)(hr:r<F.length)(hne:r≠s)
 (h:∀x∈(hpR F s r v S lim cnt).take b,x.bel b=true):∀x∈(hpR F s r v' S' lim' cnt').take b,x.bel b=true:=
 zXA hs hr hne (fun _ h=>zeB h) (zd4 _ _ _) h
def CR:Cfg:= {C with rdr:=fun f=>f==102||f==104||f==107||f==109||f==101}
theorem zdf:zAb Try.prog CR:=C_ok
theorem zdg(t:Nat):CR.ty t=C.ty t:=rfl
theorem zde(t:Nat):CR.inpl t=false:=rfl
section
variable {F : List AObj} {s r v : Nat} {S : St} {lim cnt : Int}
theorem zfk(hs:s<F.length)(hr:r<F.length)(hne:r≠s)(n:Int):DCalls Try.prog 101 [.bptr s 0,.int .i64 n] (hpR F s r v S lim cnt) (.bool (decide (0<=n)&&decide (n<S.length))) (hpR F s r v S lim cnt):=by
 unfold DCalls
 refine eD C_ok Try.func101 Try.results101 fun ok=> ?_
 have h:=YAN
 repeat' (first
  |(with_reducible first|apply bA|apply bB|apply bC|apply bD|apply bE|apply bF)<;>intro h
  |skip)<;>simp only[h,↓zaL,↓zHC,WY,reduceIte,yA,yB,yC,yD,reduceCtorEq,yE,yF,W1,WS,hpR,bxR,arR,stP hs hr hne,zTh,zTg,yN,ze0]
theorem zfl(hs:s<F.length)(hr:r<F.length)(hne:r≠s){n:Nat}(hn:n<S.length):DCalls Try.prog 101 [.bptr s 0,.int .i64 n] (hpR F s r v S lim cnt) (.bool true) (hpR F s r v S lim cnt):=by
 have:=zfk (v:=v) (S:=S) (lim:=lim) (cnt:=cnt) hs hr hne (n:Int)
 rwa[show(decide (0<=(n:Int))&&decide ((n:Int)<S.length))=true by simp;omega]at this
theorem zfj(hs:s<F.length)(hr:r<F.length)(hne:r≠s){n:Int}(hn:n<0\/(S.length:Int)<=n):DCalls Try.prog 101 [.bptr s 0,.int .i64 n] (hpR F s r v S lim cnt) (.bool false) (hpR F s r v S lim cnt):=by
 have:=zfk (v:=v) (S:=S) (lim:=lim) (cnt:=cnt) hs hr hne n
 rwa[show(decide (0<=n)&&decide (n<S.length))=false by rw[Bool.and_eq_false_iff,decide_eq_false_iff_not,decide_eq_false_iff_not];omega]at this
theorem zgO(hs:s<F.length)(hr:r<F.length)(hne:r≠s)(hw:Wf S)(n:Nat)(hn:n<S.length):DCalls Try.prog 102 [.bptr s 0,.int .i64 n] (hpR F s r v S lim cnt) (.int .i64 (S.root n)) (hpR F s r v S lim cnt):=by
 have hi:=zfl (v:=v) (S:=S) (lim:=lim) (cnt:=cnt) hs hr hne hn
 obtain⟨ρ,hρ⟩:=hw.rk
 unfold DCalls
 refine eD C_ok Try.func102 Try.results102 fun ok=> ?_
 have h:=YAN
 repeat' (first
  |(with_reducible first|apply bA|apply bB|apply bC|apply bD|apply bE|apply bF)<;>intro h
  |((first|apply bG|apply bH);simp only[yP,yQ,W2,hpR,bxR,arR,stP hs hr hne,zTh,zTg,yN,ze0];refine zIB (hi) (.inl rfl) ?_)
  |skip)<;>simp only[h,↓zaL,↓zHC,WY,reduceIte,yA,yB,yC,yD,reduceCtorEq,yE,yF,W1,WS,hpR,bxR,arR,stP hs hr hne,zTh,zTg,yN,ze0]
 refine zCN [1,0] ?_
 simp only[List.map_cons,List.map_nil,↓zaL,↓zHC,WY,reduceIte,yA,yB,yC,yD,reduceCtorEq,yE,yF,W1,WS]
 refine zJ1 1 (fun m:Nat=> [(1,.int .i64 m)]) (fun _=>_) (fun m=>m<S.length/\S.root m=S.root n) ρ C_ok n rfl rfl ⟨hn,rfl⟩ (by decide) ?_
 rintro m ⟨hm,hroot⟩
 simp only[List.drop_succ_cons,List.drop_zero,List.cons_append,List.nil_append]
 cases hl:S.link m with
 |none=>
  have e:lnk (S.nd m).link= -1:=by show lnk (S.link m)= -1;rw[hl];rfl
  have e0:((-1:Int)≥0)=False:=by simp
  rw[<-hroot,zUO hl]
  have h:=YAN
  repeat' (first
   |(with_reducible first|apply bA|apply bB|apply bC|apply bD|apply bE|apply bF)<;>intro h
   |skip)<;>simp only[h,↓zaL,↓zHC,WY,reduceIte,yA,yB,yC,yD,reduceCtorEq,yE,yF,W1,WS,hpR,bxR,arR,stP hs hr hne,zTh,zTg,yN,ze0,hm,zez hm,zeI,e,e0]
 |some j=>
  have e:lnk (S.nd m).link=(j:Int):=by show lnk (S.link m)=_;rw[hl];rfl
  have e0:((j:Int)≥0)=True:=by simp
  have hj:=hw.link_lt m j hl
  have h:=YAN
  repeat' (first
   |(with_reducible first|apply bA|apply bB|apply bC|apply bD|apply bE|apply bF)<;>intro h
   |skip)<;>simp only[h,↓zaL,↓zHC,WY,reduceIte,yA,yB,yC,yD,reduceCtorEq,yE,yF,W1,WS,hpR,bxR,arR,stP hs hr hne,zTh,zTg,yN,ze0,hm,zez hm,zeI,e,e0]
  refine⟨j,⟨hj,by rw[<-hroot,hw.zUR hl]⟩,hρ.link m j hl,zap rfl ?_⟩
  simp only[WK,↓zaL,↓zHC,yA,reduceIte,yN,yO,yR,yP,yQ,yB,yC]
theorem zgQ(hs:s<F.length)(hr:r<F.length)(hne:r≠s)(n:Int)(hn:n<0\/(S.length:Int)<=n):DCalls Try.prog 102 [.bptr s 0,.int .i64 n] (hpR F s r v S lim cnt) (.int .i64 (-1)) (hpR F s r v S lim cnt):=by
 have hi:=zfj (v:=v) (S:=S) (lim:=lim) (cnt:=cnt) hs hr hne hn
 unfold DCalls
 refine eD C_ok Try.func102 Try.results102 fun ok=> ?_
 have h:=YAN
 repeat' (first
  |(with_reducible first|apply bA|apply bB|apply bC|apply bD|apply bE|apply bF)<;>intro h
  |((first|apply bG|apply bH);simp only[yP,yQ,W2,hpR,bxR,arR,stP hs hr hne,zTh,zTg,yN,ze0];refine zIB (hi) (.inl rfl) ?_)
  |skip)<;>simp only[h,↓zaL,↓zHC,WY,reduceIte,yA,yB,yC,yD,reduceCtorEq,yE,yF,W1,WS,hpR,bxR,arR,stP hs hr hne,zTh,zTg,yN,ze0]
theorem zgR{e:Nat->AV}{b m:Nat}{G:List AObj}(hs:s<F.length)(hr:r<F.length)(hne:r≠s)(hw:Wf S)(n:Nat)(hn:n<S.length)(hG:G[s]?=some (bxR r v S.length lim cnt)/\G[r]?=some (arR v S)):zA5 Try.prog 102 [.bptr s 0,.int .i64 n] (.int .i64 (S.root n)) (FS e G b m).obj:=
 qcalls_st (s:=s) (r:=r) (bx:=bxR r v S.length lim cnt) (ar:=arR v S) (fun F' h1 h2=>zgO h1 h2 hne hw n hn) (by rw[zIP];exact hG.1) (by rw[zIP];exact hG.2) rfl rfl
theorem zfq(hs:s<F.length)(hr:r<F.length)(hne:r≠s)(hw:Wf S)(n:Nat)(hn:n<S.length):DCalls Try.prog 104 [.bptr s 0,.int .i64 n] (hpR F s r v S lim cnt) (.int .i64 (S.kind (S.root n))) (hpR F s r v S lim cnt):=by
 have hi:=zfl (v:=v) (S:=S) (lim:=lim) (cnt:=cnt) hs hr hne hn
 have hrl:=hw.root_lt n hn
 have hk:(S.nd (S.root n)).kind=S.kind (S.root n):=rfl
 unfold DCalls
 refine eD zdf Try.func104 Try.results104 fun ok=> ?_
 have h:=YAN
 repeat' (first
  |(with_reducible first|apply bA|apply bB|apply bC|apply bD|apply bE|apply bF)<;>intro h
  |((first|apply bG|apply bH);simp only[yP,yQ,W2,zdg,zde,hpR,bxR,arR,stP hs hr hne,zTh,zTg,yN,ze0,hrl,zez hrl,zeI,hk];first|refine zIB (hi) (.inl rfl) ?_|refine zIk rfl (zgR (v:=v) (S:=S) (lim:=lim) (cnt:=cnt) hs hr hne hw n hn (by simp[stP hs hr hne,bxR,arR])) (.inl rfl) ?_)
  |refine drA zdf 3 0 ?_
  |skip)<;>simp only[h,↓zaL,↓zHC,WY,reduceIte,yA,yB,yC,yD,reduceCtorEq,yE,yF,W1,WS,zdg,zde,hpR,bxR,arR,stP hs hr hne,zTh,zTg,yN,ze0,hrl,zez hrl,zeI,hk]
theorem zfs(hs:s<F.length)(hr:r<F.length)(hne:r≠s)(n:Int)(hn:n<0\/(S.length:Int)<=n):DCalls Try.prog 104 [.bptr s 0,.int .i64 n] (hpR F s r v S lim cnt) (.int .i64 0) (hpR F s r v S lim cnt):=by
 have hi:=zfj (v:=v) (S:=S) (lim:=lim) (cnt:=cnt) hs hr hne hn
 unfold DCalls
 refine eD zdf Try.func104 Try.results104 fun ok=> ?_
 have h:=YAN
 repeat' (first
  |(with_reducible first|apply bA|apply bB|apply bC|apply bD|apply bE|apply bF)<;>intro h
  |((first|apply bG|apply bH);simp only[yP,yQ,W2,zdg,zde,hpR,bxR,arR,stP hs hr hne,zTh,zTg,yN,ze0];refine zIB (hi) (.inl rfl) ?_)
  |refine drA zdf 3 0 ?_
  |skip)<;>simp only[h,↓zaL,↓zHC,WY,reduceIte,yA,yB,yC,yD,reduceCtorEq,yE,yF,W1,WS,zdg,zde,hpR,bxR,arR,stP hs hr hne,zTh,zTg,yN,ze0]
theorem zfu(hs:s<F.length)(hr:r<F.length)(hne:r≠s)(hw:Wf S)(n:Nat)(hn:n<S.length):DCalls Try.prog 109 [.bptr s 0,.int .i64 n] (hpR F s r v S lim cnt) (.int .i64 (if S.kind (S.root n)=6 then(S.nd (S.root n)).level else-1)) (hpR F s r v S lim cnt):=by
 have hk:=zfq (v:=v) (lim:=lim) (cnt:=cnt) hs hr hne hw n hn
 have hrl:=hw.root_lt n hn
 unfold DCalls
 by_cases h6:S.kind (S.root n)=6
 ·rw[if_pos h6]
  have e:(S.kind (S.root n) !=6)=false:=by simp[h6]
  refine eD zdf Try.func109 Try.results109 fun ok=> ?_
  have h:=YAN
  repeat' (first
   |(with_reducible first|apply bA|apply bB|apply bC|apply bD|apply bE|apply bF)<;>intro h
   |((first|apply bG|apply bH);simp only[yP,yQ,W2,zdg,zde,hpR,bxR,arR,stP hs hr hne,zTh,zTg,yN,ze0,hrl,zez hrl,zeI,e];first|refine zIB (hk) (.inl rfl) ?_|refine zIk rfl (zgR (v:=v) (S:=S) (lim:=lim) (cnt:=cnt) hs hr hne hw n hn (by simp[stP hs hr hne,bxR,arR])) (.inl rfl) ?_)
   |refine drA zdf 3 0 ?_
   |skip)<;>simp only[h,↓zaL,↓zHC,WY,reduceIte,yA,yB,yC,yD,reduceCtorEq,yE,yF,W1,WS,zdg,zde,hpR,bxR,arR,stP hs hr hne,zTh,zTg,yN,ze0,hrl,zez hrl,zeI,e]
 ·rw[if_neg h6]
  have e:(S.kind (S.root n) !=6)=true:=by simp[h6]
  refine eD zdf Try.func109 Try.results109 fun ok=> ?_
  have h:=YAN
  repeat' (first
   |(with_reducible first|apply bA|apply bB|apply bC|apply bD|apply bE|apply bF)<;>intro h
   |((first|apply bG|apply bH);simp only[yP,yQ,W2,zdg,zde,hpR,bxR,arR,stP hs hr hne,zTh,zTg,yN,ze0,e];refine zIB (hk) (.inl rfl) ?_)
   |refine drA zdf 3 0 ?_
   |skip)<;>simp only[h,↓zaL,↓zHC,WY,reduceIte,yA,yB,yC,yD,reduceCtorEq,yE,yF,W1,WS,zdg,zde,hpR,bxR,arR,stP hs hr hne,zTh,zTg,yN,ze0,e]
theorem zfv(hs:s<F.length)(hr:r<F.length)(hne:r≠s)(n:Int)(hn:n<0\/(S.length:Int)<=n):DCalls Try.prog 109 [.bptr s 0,.int .i64 n] (hpR F s r v S lim cnt) (.int .i64 (-1)) (hpR F s r v S lim cnt):=by
 have hk:=zfs (v:=v) (S:=S) (lim:=lim) (cnt:=cnt) hs hr hne n hn
 have e:((0:Int) !=6)=true:=by decide
 unfold DCalls
 refine eD zdf Try.func109 Try.results109 fun ok=> ?_
 have h:=YAN
 repeat' (first
  |(with_reducible first|apply bA|apply bB|apply bC|apply bD|apply bE|apply bF)<;>intro h
  |((first|apply bG|apply bH);simp only[yP,yQ,W2,zdg,zde,hpR,bxR,arR,stP hs hr hne,zTh,zTg,yN,ze0,e];refine zIB (hk) (.inl rfl) ?_)
  |refine drA zdf 3 0 ?_
  |skip)<;>simp only[h,↓zaL,↓zHC,WY,reduceIte,yA,yB,yC,yD,reduceCtorEq,yE,yF,W1,WS,zdg,zde,hpR,bxR,arR,stP hs hr hne,zTh,zTg,yN,ze0,e]
theorem zfo(hs:s<F.length)(hr:r<F.length)(hne:r≠s)(hw:Wf S)(n:Nat)(hn:n<S.length):DCalls Try.prog 107 [.bptr s 0,.int .i64 n] (hpR F s r v S lim cnt) (.sl ((kidI (S.kids (S.root n))).map I64) .no) (hpR F s r v S lim cnt):=by
 have hk:=zfq (v:=v) (lim:=lim) (cnt:=cnt) hs hr hne hw n hn
 have hrl:=hw.root_lt n hn
 have hsh:=hw.shape hrl (hw.zUK n)
 have eA:kA (S.nd (S.root n))=(S.kids (S.root n)).headD 0:=rfl
 have eB:kB (S.nd (S.root n))=(S.kids (S.root n)).getD 1 ((S.kids (S.root n)).headD 0):=rfl
 have none0:S.kind (S.root n)≠7->S.kind (S.root n)≠8->S.kind (S.root n)≠9->S.kids (S.root n)=[]->DCalls Try.prog 107 [.bptr s 0,.int .i64 n] (hpR F s r v S lim cnt) (.sl ((kidI (S.kids (S.root n))).map I64) .no) (hpR F s r v S lim cnt):=fun h7 h8 h9 hc=>by
  have e7:(S.kind (S.root n)==7)=false:=by rw[YAZ];exact h7
  have e8:(S.kind (S.root n)==8)=false:=by rw[YAZ];exact h8
  have e9:(S.kind (S.root n)==9)=false:=by rw[YAZ];exact h9
  rw[hc]
  unfold DCalls
  refine eD zdf Try.func107 Try.results107 fun ok=> ?_
  have h:=YAN
  repeat' (first
   |(with_reducible first|apply bA|apply bB|apply bC|apply bD|apply bE|apply bF)<;>intro h
   |((first|apply bG|apply bH);simp only[yP,yQ,W2,zdg,zde,yO,zLy,hpR,bxR,arR,stP hs hr hne,zTh,zTg,yN,ze0,e7,e8,e9];refine zIB (hk) (.inl rfl) ?_)
   |refine drA zdf 3 0 ?_
   |refine drA zdf 6 0 ?_
   |skip)<;>simp only[h,↓zaL,↓zHC,WY,reduceIte,yA,yB,yC,yD,reduceCtorEq,yE,yF,W1,WS,zdg,zde,yO,zLy,hpR,bxR,arR,stP hs hr hne,zTh,zTg,yN,ze0,e7,e8,e9]
  rfl
 rcases hsh with ⟨h5,h6,hc⟩|⟨_,h6,hc⟩|⟨i,j,h6,hc⟩|⟨i,h6,hc⟩
 ·exact none0 (by omega) (by omega) (by omega) hc
 ·exact none0 (by omega) (by omega) (by omega) hc
 ·rw[hc]at eA eB⊢
  simp only[List.headD_cons,List.getD_cons_succ,List.getD_cons_zero]at eA eB
  have e8:(S.kind (S.root n)==8)=false:=by rw[YAZ];omega
  unfold DCalls
  rcases h6 with h6|h6
  ·have e7:(S.kind (S.root n)==7)=true:=by rw[beq_iff_eq];exact h6
   refine eD zdf Try.func107 Try.results107 fun ok=> ?_
   have h:=YAN
   repeat' (first
    |(with_reducible first|apply bA|apply bB|apply bC|apply bD|apply bE|apply bF)<;>intro h
    |((first|apply bG|apply bH);simp only[yP,yQ,W2,zdg,zde,yO,zLy,hpR,bxR,arR,stP hs hr hne,zTh,zTg,yN,ze0,hrl,zez hrl,zeI,e7,e8,eA,eB];first|refine zIB (hk) (.inl rfl) ?_|refine zIk rfl (zgR (v:=v) (S:=S) (lim:=lim) (cnt:=cnt) hs hr hne hw n hn (by simp[stP hs hr hne,bxR,arR])) (.inl rfl) ?_)
    |refine drA zdf 3 0 ?_
    |refine drA zdf 6 0 ?_
    |skip)<;>simp only[h,↓zaL,↓zHC,WY,reduceIte,yA,yB,yC,yD,reduceCtorEq,yE,yF,W1,WS,zdg,zde,yO,zLy,hpR,bxR,arR,stP hs hr hne,zTh,zTg,yN,ze0,hrl,zez hrl,zeI,e7,e8,eA,eB]
   rfl
  ·have e7:(S.kind (S.root n)==7)=false:=by rw[YAZ];omega
   have e9:(S.kind (S.root n)==9)=true:=by rw[beq_iff_eq];exact h6
   refine eD zdf Try.func107 Try.results107 fun ok=> ?_
   have h:=YAN
   repeat' (first
    |(with_reducible first|apply bA|apply bB|apply bC|apply bD|apply bE|apply bF)<;>intro h
    |((first|apply bG|apply bH);simp only[yP,yQ,W2,zdg,zde,yO,zLy,hpR,bxR,arR,stP hs hr hne,zTh,zTg,yN,ze0,hrl,zez hrl,zeI,e7,e8,e9,eA,eB];first|refine zIB (hk) (.inl rfl) ?_|refine zIk rfl (zgR (v:=v) (S:=S) (lim:=lim) (cnt:=cnt) hs hr hne hw n hn (by simp[stP hs hr hne,bxR,arR])) (.inl rfl) ?_)
    |refine drA zdf 3 0 ?_
    |refine drA zdf 6 0 ?_
    |skip)<;>simp only[h,↓zaL,↓zHC,WY,reduceIte,yA,yB,yC,yD,reduceCtorEq,yE,yF,W1,WS,zdg,zde,yO,zLy,hpR,bxR,arR,stP hs hr hne,zTh,zTg,yN,ze0,hrl,zez hrl,zeI,e7,e8,e9,eA,eB]
   rfl
 ·rw[hc]at eA eB⊢
  simp only[List.headD_cons,List.getD_cons_succ,List.getD_nil]at eA eB
  have e8:(S.kind (S.root n)==8)=true:=by rw[beq_iff_eq];exact h6
  unfold DCalls
  refine eD zdf Try.func107 Try.results107 fun ok=> ?_
  have h:=YAN
  repeat' (first
   |(with_reducible first|apply bA|apply bB|apply bC|apply bD|apply bE|apply bF)<;>intro h
   |((first|apply bG|apply bH);simp only[yP,yQ,W2,zdg,zde,yO,zLy,hpR,bxR,arR,stP hs hr hne,zTh,zTg,yN,ze0,hrl,zez hrl,zeI,e8,eA,eB];first|refine zIB (hk) (.inl rfl) ?_|refine zIk rfl (zgR (v:=v) (S:=S) (lim:=lim) (cnt:=cnt) hs hr hne hw n hn (by simp[stP hs hr hne,bxR,arR])) (.inl rfl) ?_)
   |refine drA zdf 3 0 ?_
   |refine drA zdf 6 0 ?_
   |skip)<;>simp only[h,↓zaL,↓zHC,WY,reduceIte,yA,yB,yC,yD,reduceCtorEq,yE,yF,W1,WS,zdg,zde,yO,zLy,hpR,bxR,arR,stP hs hr hne,zTh,zTg,yN,ze0,hrl,zez hrl,zeI,e8,eA,eB]
  rfl
theorem zfp(hs:s<F.length)(hr:r<F.length)(hne:r≠s)(n:Int)(hn:n<0\/(S.length:Int)<=n):DCalls Try.prog 107 [.bptr s 0,.int .i64 n] (hpR F s r v S lim cnt) (.sl [] .no) (hpR F s r v S lim cnt):=by
 have hk:=zfs (v:=v) (S:=S) (lim:=lim) (cnt:=cnt) hs hr hne n hn
 have e7:((0:Int)==7)=false:=by decide
 have e8:((0:Int)==8)=false:=by decide
 have e9:((0:Int)==9)=false:=by decide
 unfold DCalls
 refine eD zdf Try.func107 Try.results107 fun ok=> ?_
 have h:=YAN
 repeat' (first
  |(with_reducible first|apply bA|apply bB|apply bC|apply bD|apply bE|apply bF)<;>intro h
  |((first|apply bG|apply bH);simp only[yP,yQ,W2,zdg,zde,yO,zLy,hpR,bxR,arR,stP hs hr hne,zTh,zTg,yN,ze0,e7,e8,e9];refine zIB (hk) (.inl rfl) ?_)
  |refine drA zdf 3 0 ?_
  |refine drA zdf 6 0 ?_
  |skip)<;>simp only[h,↓zaL,↓zHC,WY,reduceIte,yA,yB,yC,yD,reduceCtorEq,yE,yF,W1,WS,zdg,zde,yO,zLy,hpR,bxR,arR,stP hs hr hne,zTh,zTg,yN,ze0,e7,e8,e9]
end
end
section
theorem zg0(S:St):(S.map embW).take S.length=S.map embW:=by rw[List.take_of_length_le (by simp)]
def CRa:Cfg:= {C with inpl:=fun d=>d==30}
theorem zdi:zAb Try.prog CRa:=C_ok
theorem zdj(t:Nat):CRa.ty t=C.ty t:=rfl
theorem zdh(t:Nat):CRa.inpl t=(t==30):=rfl
section
variable {F : List AObj} {s r v : Nat} {S : St} {lim cnt : Int}
theorem zfS(hs:s<F.length)(hr:r<F.length)(hne:r≠s)(d:Nd)(hd:d.link=none)(lk:Int)(hl:¬cnt≥lim)(hL:S.length<=1000000)(hc:0<=cnt/\cnt<=1000000):
 DCalls Try.prog 137 [.bptr s 0,.agg [.int .i64 d.kind,.int .i64 (kA d),.int .i64 (kB d),.int .i64 d.level,.int .i64 lk]] (hpR F s r v S lim cnt) (.tup [.int .i64 S.length,.int .i64 0]) (hpR F s r (v+1) (S++ [d]) lim (cnt+1)):=by
 have w1:IntKind.wrap .i64 (cnt+1)=cnt+1:=zbT (by omega) (by omega)
 have w2:IntKind.wrap .i64 (((S.length+1:Nat):Int)-1)=(S.length:Int):=by rw[zbT (by omega) (by omega)];omega
 have b1:(S.length+1<=9223372036854775807)=True:=by simp only[YAb,iff_true];omega
 have b2:((S.length+1)*40<=140737488355328)=True:=by simp only[YAb,iff_true];omega
 unfold DCalls
 refine eD zdi Try.func137 Try.results137 fun ok=> ?_
 have h:=YAN
 repeat' (first
  |(with_reducible first|apply bA|apply bB|apply bC|apply bD|apply bE|apply bF)<;>intro h
  |refine drA zdi 1 0 ?_
  |refine drA zdi 5 0 ?_
  |skip)<;>simp only[h,↓zaL,↓zHC,WY,reduceIte,yA,yB,yC,yD,reduceCtorEq,yE,yF,W1,WS,zdj,zdh,hpR,bxR,arR,stP hs hr hne,zTh,zTg,yN,ze0,yG,hl,zeI,zeJ,zg0,w1,w2,b1,b2,isMs,zWF,yO]
 exact⟨fun _=>by simpa using hr,by simp[embW,hd,lnk]⟩
theorem zfR(hs:s<F.length)(hr:r<F.length)(hne:r≠s)(x0 x1 x2 x3 x4:Int)(hl:cnt≥lim):
 DCalls Try.prog 137 [.bptr s 0,.agg [.int .i64 x0,.int .i64 x1,.int .i64 x2,.int .i64 x3,.int .i64 x4]] (hpR F s r v S lim cnt) (.tup [.int .i64 0,.int .i64 7]) (hpR F s r v S lim cnt):=by
 unfold DCalls
 refine eD zdi Try.func137 Try.results137 fun ok=> ?_
 have h:=YAN
 repeat' (first
  |(with_reducible first|apply bA|apply bB|apply bC|apply bD|apply bE|apply bF)<;>intro h
  |refine drA zdi 1 0 ?_
  |refine drA zdi 5 0 ?_
  |skip)<;>simp only[h,↓zaL,↓zHC,WY,reduceIte,yA,yB,yC,yD,reduceCtorEq,yE,yF,W1,WS,zdj,zdh,hpR,bxR,arR,stP hs hr hne,zTh,zTg,yN,ze0,yG,hl,yO]
theorem zpm(hs:s<F.length)(hr:r<F.length)(hne:r≠s)(lv:Int)(h:lv<0):DCalls Try.prog 99 [.bptr s 0,.int .i64 lv] (hpR F s r v S lim cnt) (.tup [.int .i64 0,.int .i64 1]) (hpR F s r v S lim cnt):=by
 unfold DCalls
 refine eD C_ok Try.func99 Try.results99 fun ok=> ?_
 repeat' first
  |(with_reducible first|apply bA|apply bB|apply bC|apply bD|apply bE|apply bF)<;>intro h<;>try simp only[h,↓zaL,↓zHC,WY,reduceIte,yA,yB,yC,yD,reduceCtorEq,yE,yF,W1,WS,hpR,bxR,arR,stP hs hr hne,zTh,zTg,yN,ze0,h,yO]
  |simp only[↓zaL,↓zHC,WY,reduceIte,yA,yB,yC,yD,reduceCtorEq,yE,yF,W1,WS,hpR,bxR,arR,stP hs hr hne,zTh,zTg,yN,ze0,h,yO]
theorem zga(hs:s<F.length)(hr:r<F.length)(hne:r≠s)(lv:Int)(h:¬lv<0)(hl:cnt≥lim):DCalls Try.prog 99 [.bptr s 0,.int .i64 lv] (hpR F s r v S lim cnt) (.tup [.int .i64 0,.int .i64 7]) (hpR F s r v S lim cnt):=by
 have q:=zfR (v:=v) (S:=S) hs hr hne 6 0 0 lv 0 hl
 unfold DCalls
 refine eD C_ok Try.func99 Try.results99 fun ok=> ?_
 repeat' first
  |(with_reducible first|apply bA|apply bB|apply bC|apply bD|apply bE|apply bF)<;>intro h<;>try simp only[h,↓zaL,↓zHC,WY,reduceIte,yA,yB,yC,yD,reduceCtorEq,yE,yF,W1,WS,hpR,bxR,arR,stP hs hr hne,zTh,zTg,yN,ze0,h,yO]
  |((first|apply bG|apply bH);simp only[yP,yQ,W2,hpR,bxR,arR,stP hs hr hne,zTh,zTg,yN,ze0,h,yO];refine zIB (q) (.inl rfl) ?_)
  |simp only[↓zaL,↓zHC,WY,reduceIte,yA,yB,yC,yD,reduceCtorEq,yE,yF,W1,WS,hpR,bxR,arR,stP hs hr hne,zTh,zTg,yN,ze0,h,yO]
theorem zgb(hs:s<F.length)(hr:r<F.length)(hne:r≠s)(lv:Int)(h:¬lv<0)(hl:¬cnt≥lim)(hL:S.length<=1000000)(hc:0<=cnt/\cnt<=1000000):DCalls Try.prog 99 [.bptr s 0,.int .i64 lv] (hpR F s r v S lim cnt) (.tup [.int .i64 S.length,.int .i64 0]) (hpR F s r (v+1) (S++ [⟨6,lv,none,[]⟩]) lim (cnt+1)):=by
 have q:=zfS (v:=v) (S:=S) hs hr hne ⟨6,lv,none,[]⟩ rfl 0 hl hL hc
 unfold DCalls
 refine eD C_ok Try.func99 Try.results99 fun ok=> ?_
 repeat' first
  |(with_reducible first|apply bA|apply bB|apply bC|apply bD|apply bE|apply bF)<;>intro h<;>try simp only[h,↓zaL,↓zHC,WY,reduceIte,yA,yB,yC,yD,reduceCtorEq,yE,yF,W1,WS,hpR,bxR,arR,stP hs hr hne,zTh,zTg,yN,ze0,h,yO]
  |((first|apply bG|apply bH);simp only[yP,yQ,W2,hpR,bxR,arR,stP hs hr hne,zTh,zTg,yN,ze0,h,yO];refine zIA (q) (.inl rfl) (fun hb=>zeT (by first|exact hs|simp<;>omega) (by first|exact hr|simp<;>omega) hne hb) ?_)
  |simp only[↓zaL,↓zHC,WY,reduceIte,yA,yB,yC,yD,reduceCtorEq,yE,yF,W1,WS,hpR,bxR,arR,stP hs hr hne,zTh,zTg,yN,ze0,h,yO]
theorem zpT(hs:s<F.length)(hr:r<F.length)(hne:r≠s)(kd a b:Int)(h:(kd≠7/\kd≠8/\kd≠9)\/(a<0\/(S.length:Int)<=a)\/kd≠8/\(b<0\/(S.length:Int)<=b)):
 DCalls Try.prog 100 [.bptr s 0,.int .i64 kd,.int .i64 a,.int .i64 b] (hpR F s r v S lim cnt) (.tup [.int .i64 0,.int .i64 1]) (hpR F s r v S lim cnt):=by
 have qa:=zfk (v:=v) (S:=S) (lim:=lim) (cnt:=cnt) hs hr hne a
 have qb:=zfk (v:=v) (S:=S) (lim:=lim) (cnt:=cnt) hs hr hne b
 generalize ha:(decide (0<=a)&&decide (a<S.length))=pa at*
 generalize hb:(decide (0<=b)&&decide (b<S.length))=pb at*
 unfold DCalls
 by_cases h8:kd=8
 ·subst h8
  have:pa=false:=by
   rw[<-ha,Bool.and_eq_false_iff,decide_eq_false_iff_not,decide_eq_false_iff_not];omega
  subst this
  refine eD C_ok Try.func100 Try.results100 fun ok=> ?_
  have h:=YAN
  repeat' (first
   |(with_reducible first|apply bA|apply bB|apply bC|apply bD|apply bE|apply bF)<;>intro h
   |((first|apply bG|apply bH);simp only[yP,yQ,W2,W3,yH,yI,yJ,yK,yL,yM,hpR,bxR,arR,stP hs hr hne,zTh,zTg,yN,ze0,yO];refine zIB (qa) (.inl rfl) ?_)
   |refine zJ9 ?_ C_ok Try.f100.ntmps rfl (by decide)
   |skip)<;>simp only[h,↓zaL,↓zHC,WY,reduceIte,yA,yB,yC,yD,reduceCtorEq,yE,yF,W1,WS,W3,yH,yI,yJ,yK,yL,yM,hpR,bxR,arR,stP hs hr hne,zTh,zTg,yN,ze0,yO,zFY]
 ·have e8:(kd==8)=false:=by rw[YAZ];exact h8
  have e8':(kd !=8)=true:=by rw[bne_iff_ne];exact h8
  by_cases hk:kd=7\/kd=9
  ·have:pa=false\/pb=false:=by
    rw[<-ha,<-hb,Bool.and_eq_false_iff,Bool.and_eq_false_iff,decide_eq_false_iff_not,decide_eq_false_iff_not,decide_eq_false_iff_not,decide_eq_false_iff_not];omega
   rcases hk with rfl|rfl
   all_goals
    cases pa with
    |false=>
     refine eD C_ok Try.func100 Try.results100 fun ok=> ?_
     have h:=YAN
     repeat' (first
      |(with_reducible first|apply bA|apply bB|apply bC|apply bD|apply bE|apply bF)<;>intro h
      |((first|apply bG|apply bH);simp only[yP,yQ,W2,W3,yH,yI,yJ,yK,yL,yM,hpR,bxR,arR,stP hs hr hne,zTh,zTg,yN,ze0,yO];refine zIB (qa) (.inl rfl) ?_)
      |refine zJ9 ?_ C_ok Try.f100.ntmps rfl (by decide)
      |skip)<;>simp only[h,↓zaL,↓zHC,WY,reduceIte,yA,yB,yC,yD,reduceCtorEq,yE,yF,W1,WS,W3,yH,yI,yJ,yK,yL,yM,hpR,bxR,arR,stP hs hr hne,zTh,zTg,yN,ze0,yO,zFY]
    |true=>
     obtain rfl:pb=false:=by simpa using this
     refine eD C_ok Try.func100 Try.results100 fun ok=> ?_
     have h:=YAN
     repeat' (first
      |(with_reducible first|apply bA|apply bB|apply bC|apply bD|apply bE|apply bF)<;>intro h
      |((first|apply bG|apply bH);simp only[yP,yQ,W2,W3,yH,yI,yJ,yK,yL,yM,hpR,bxR,arR,stP hs hr hne,zTh,zTg,yN,ze0,yO];first|refine zIB (qa) (.inl rfl) ?_|refine zIB (qb) (.inl rfl) ?_)
      |refine zJ9 ?_ C_ok Try.f100.ntmps rfl (by decide)
      |skip)<;>simp only[h,↓zaL,↓zHC,WY,reduceIte,yA,yB,yC,yD,reduceCtorEq,yE,yF,W1,WS,W3,yH,yI,yJ,yK,yL,yM,hpR,bxR,arR,stP hs hr hne,zTh,zTg,yN,ze0,yO,zFY]
  ·have e7:(kd !=7)=true:=by rw[bne_iff_ne];omega
   have e9:(kd !=9)=true:=by rw[bne_iff_ne];omega
   refine eD C_ok Try.func100 Try.results100 fun ok=> ?_
   have h:=YAN
   repeat' (first
    |(with_reducible first|apply bA|apply bB|apply bC|apply bD|apply bE|apply bF)<;>intro h
    |skip)<;>simp only[h,↓zaL,↓zHC,WY,reduceIte,yA,yB,yC,yD,reduceCtorEq,yE,yF,W1,WS,hpR,bxR,arR,stP hs hr hne,zTh,zTg,yN,ze0,e7,e8,e8',e9,yO]
theorem zf5(hs:s<F.length)(hr:r<F.length)(hne:r≠s)(kd:Int)(a b:Nat)(hk:kd=7\/kd=9)(ha:a<S.length)(hb':b<S.length)(hl:¬cnt≥lim)(hL:S.length<=1000000)(hc':0<=cnt/\cnt<=1000000):
 DCalls Try.prog 100 [.bptr s 0,.int .i64 kd,.int .i64 a,.int .i64 b] (hpR F s r v S lim cnt) (.tup [.int .i64 S.length,.int .i64 0]) (hpR F s r (v+1) (S++ [⟨kd,0,none,[a,b]⟩]) lim (cnt+1)):=by
 have q:=zfS (v:=v) (S:=S) hs hr hne ⟨kd,0,none,[a,b]⟩ rfl 0 hl hL hc'
 simp only[kA,kB,List.headD_cons,List.getD_cons_succ,List.getD_cons_zero]at q
 have i1:=zfl (v:=v) (S:=S) (lim:=lim) (cnt:=cnt) hs hr hne ha
 have i2:=zfl (v:=v) (S:=S) (lim:=lim) (cnt:=cnt) hs hr hne hb'
 unfold DCalls
 rcases hk with rfl|rfl
 ·refine eD C_ok Try.func100 Try.results100 fun ok=> ?_
  have h:=YAN
  repeat' (first
   |(with_reducible first|apply bA|apply bB|apply bC|apply bD|apply bE|apply bF)<;>intro h
   |((first|apply bG|apply bH);simp only[yP,yQ,W2,W3,yH,yI,yJ,yK,yL,yM,hpR,bxR,arR,stP hs hr hne,zTh,zTg,yN,ze0,yO];first|refine zIB (i1) (.inl rfl) ?_|refine zIB (i2) (.inl rfl) ?_|refine zIA (q) (.inl rfl) (fun hb=>zeT (by first|exact hs|simp<;>omega) (by first|exact hr|simp<;>omega) hne hb) ?_)
   |refine zJ9 ?_ C_ok Try.f100.ntmps rfl (by decide)
   |skip)<;>simp only[h,↓zaL,↓zHC,WY,reduceIte,yA,yB,yC,yD,reduceCtorEq,yE,yF,W1,WS,W3,yH,yI,yJ,yK,yL,yM,hpR,bxR,arR,stP hs hr hne,zTh,zTg,yN,ze0,yO,zFY]
 ·refine eD C_ok Try.func100 Try.results100 fun ok=> ?_
  have h:=YAN
  repeat' (first
   |(with_reducible first|apply bA|apply bB|apply bC|apply bD|apply bE|apply bF)<;>intro h
   |((first|apply bG|apply bH);simp only[yP,yQ,W2,W3,yH,yI,yJ,yK,yL,yM,hpR,bxR,arR,stP hs hr hne,zTh,zTg,yN,ze0,yO];first|refine zIB (i1) (.inl rfl) ?_|refine zIB (i2) (.inl rfl) ?_|refine zIA (q) (.inl rfl) (fun hb=>zeT (by first|exact hs|simp<;>omega) (by first|exact hr|simp<;>omega) hne hb) ?_)
   |refine zJ9 ?_ C_ok Try.f100.ntmps rfl (by decide)
   |skip)<;>simp only[h,↓zaL,↓zHC,WY,reduceIte,yA,yB,yC,yD,reduceCtorEq,yE,yF,W1,WS,W3,yH,yI,yJ,yK,yL,yM,hpR,bxR,arR,stP hs hr hne,zTh,zTg,yN,ze0,yO,zFY]
theorem zf3(hs:s<F.length)(hr:r<F.length)(hne:r≠s)(a:Nat)(b:Int)(ha:a<S.length)(hl:¬cnt≥lim)(hL:S.length<=1000000)(hc':0<=cnt/\cnt<=1000000):
 DCalls Try.prog 100 [.bptr s 0,.int .i64 8,.int .i64 a,.int .i64 b] (hpR F s r v S lim cnt) (.tup [.int .i64 S.length,.int .i64 0]) (hpR F s r (v+1) (S++ [⟨8,0,none,[a]⟩]) lim (cnt+1)):=by
 have q:=zfS (v:=v) (S:=S) hs hr hne ⟨8,0,none,[a]⟩ rfl 0 hl hL hc'
 simp only[kA,kB,List.headD_cons,List.getD_cons_succ,List.getD_nil]at q
 have i1:=zfl (v:=v) (S:=S) (lim:=lim) (cnt:=cnt) hs hr hne ha
 unfold DCalls
 refine eD C_ok Try.func100 Try.results100 fun ok=> ?_
 have h:=YAN
 repeat' (first
  |(with_reducible first|apply bA|apply bB|apply bC|apply bD|apply bE|apply bF)<;>intro h
  |((first|apply bG|apply bH);simp only[yP,yQ,W2,W3,yH,yI,yJ,yK,yL,yM,hpR,bxR,arR,stP hs hr hne,zTh,zTg,yN,ze0,yO];first|refine zIB (i1) (.inl rfl) ?_|refine zIA (q) (.inl rfl) (fun hb=>zeT (by first|exact hs|simp<;>omega) (by first|exact hr|simp<;>omega) hne hb) ?_)
  |refine zJ9 ?_ C_ok Try.f100.ntmps rfl (by decide)
  |skip)<;>simp only[h,↓zaL,↓zHC,WY,reduceIte,yA,yB,yC,yD,reduceCtorEq,yE,yF,W1,WS,W3,yH,yI,yJ,yK,yL,yM,hpR,bxR,arR,stP hs hr hne,zTh,zTg,yN,ze0,yO,zFY]
theorem zf2(hs:s<F.length)(hr:r<F.length)(hne:r≠s)(kd:Int)(a b:Nat)(hk:kd=7\/kd=9)(ha:a<S.length)(hb':b<S.length)(hl:cnt≥lim):
 DCalls Try.prog 100 [.bptr s 0,.int .i64 kd,.int .i64 a,.int .i64 b] (hpR F s r v S lim cnt) (.tup [.int .i64 0,.int .i64 7]) (hpR F s r v S lim cnt):=by
 have q:=zfR (v:=v) (S:=S) hs hr hne kd a b 0 0 hl
 have i1:=zfl (v:=v) (S:=S) (lim:=lim) (cnt:=cnt) hs hr hne ha
 have i2:=zfl (v:=v) (S:=S) (lim:=lim) (cnt:=cnt) hs hr hne hb'
 unfold DCalls
 rcases hk with rfl|rfl
 ·refine eD C_ok Try.func100 Try.results100 fun ok=> ?_
  have h:=YAN
  repeat' (first
   |(with_reducible first|apply bA|apply bB|apply bC|apply bD|apply bE|apply bF)<;>intro h
   |((first|apply bG|apply bH);simp only[yP,yQ,W2,W3,yH,yI,yJ,yK,yL,yM,hpR,bxR,arR,stP hs hr hne,zTh,zTg,yN,ze0,yO];first|refine zIB (i1) (.inl rfl) ?_|refine zIB (i2) (.inl rfl) ?_|refine zIB (q) (.inl rfl) ?_)
   |refine zJ9 ?_ C_ok Try.f100.ntmps rfl (by decide)
   |skip)<;>simp only[h,↓zaL,↓zHC,WY,reduceIte,yA,yB,yC,yD,reduceCtorEq,yE,yF,W1,WS,W3,yH,yI,yJ,yK,yL,yM,hpR,bxR,arR,stP hs hr hne,zTh,zTg,yN,ze0,yO,zFY]
 ·refine eD C_ok Try.func100 Try.results100 fun ok=> ?_
  have h:=YAN
  repeat' (first
   |(with_reducible first|apply bA|apply bB|apply bC|apply bD|apply bE|apply bF)<;>intro h
   |((first|apply bG|apply bH);simp only[yP,yQ,W2,W3,yH,yI,yJ,yK,yL,yM,hpR,bxR,arR,stP hs hr hne,zTh,zTg,yN,ze0,yO];first|refine zIB (i1) (.inl rfl) ?_|refine zIB (i2) (.inl rfl) ?_|refine zIB (q) (.inl rfl) ?_)
   |refine zJ9 ?_ C_ok Try.f100.ntmps rfl (by decide)
   |skip)<;>simp only[h,↓zaL,↓zHC,WY,reduceIte,yA,yB,yC,yD,reduceCtorEq,yE,yF,W1,WS,W3,yH,yI,yJ,yK,yL,yM,hpR,bxR,arR,stP hs hr hne,zTh,zTg,yN,ze0,yO,zFY]
theorem zf4(hs:s<F.length)(hr:r<F.length)(hne:r≠s)(a:Nat)(b:Int)(ha:a<S.length)(hl:cnt≥lim):
 DCalls Try.prog 100 [.bptr s 0,.int .i64 8,.int .i64 a,.int .i64 b] (hpR F s r v S lim cnt) (.tup [.int .i64 0,.int .i64 7]) (hpR F s r v S lim cnt):=by
 have q:=zfR (v:=v) (S:=S) hs hr hne 8 a a 0 0 hl
 have i1:=zfl (v:=v) (S:=S) (lim:=lim) (cnt:=cnt) hs hr hne ha
 unfold DCalls
 refine eD C_ok Try.func100 Try.results100 fun ok=> ?_
 have h:=YAN
 repeat' (first
  |(with_reducible first|apply bA|apply bB|apply bC|apply bD|apply bE|apply bF)<;>intro h
  |((first|apply bG|apply bH);simp only[yP,yQ,W2,W3,yH,yI,yJ,yK,yL,yM,hpR,bxR,arR,stP hs hr hne,zTh,zTg,yN,ze0,yO];first|refine zIB (i1) (.inl rfl) ?_|refine zIB (q) (.inl rfl) ?_)
  |refine zJ9 ?_ C_ok Try.f100.ntmps rfl (by decide)
  |skip)<;>simp only[h,↓zaL,↓zHC,WY,reduceIte,yA,yB,yC,yD,reduceCtorEq,yE,yF,W1,WS,W3,yH,yI,yJ,yK,yL,yM,hpR,bxR,arR,stP hs hr hne,zTh,zTg,yN,ze0,yO,zFY]
end
end
section
def snB(S:St)(l:List Nat):List AV:=(List.range S.length).map fun i=> .bool (decide (i∈l))
def snO(S:St)(l:List Nat):AObj:= .arr 0 1 (snB S l)
theorem zgp(S:St)(l:List Nat):(snB S l).length=S.length:=by simp[snB]
theorem zgo{S:St}{l:List Nat}{i:Nat}(h:i<S.length):(snB S l).getD i .any= .bool (decide (i∈l)):=by simp[snB,h]
theorem zgr{S:St}{l:List Nat}{i:Nat}(h:i<S.length):(snB S l).set i (.bool true)=snB S (l++ [i]):=by
 apply List.ext_getElem (by simp[snB])
 intro j h1 h2
 have hj:j<S.length:=by simpa [snB]using h2
 rw[List.getElem_set]
 by_cases e:i=j
 ·subst e;simp[snB]
 ·have e':¬j=i:=fun h=>e h.symm
  simp[snB,e,e']
theorem zgq(S:St):snB S []=List.replicate S.length (.bool false):=by
 apply List.ext_getElem (by simp[snB])
 intro i h1 h2
 simp[snB]
theorem zgs(m:Nat)(S:St)(l:List Nat):(snO S l).bel m=true:=by
 simp only[snO,yR,snB]
 generalize List.range S.length=xs
 induction xs with
 |nil=>rfl
 |cons a xs ih=>simp only[List.map_cons,yO,yN,ih,Bool.and_self]
def tR(F:List AObj)(s r q v:Nat)(S:St)(lim cnt:Int)(l:List Nat):List AObj:=tri F s r q (bxR r v S.length lim cnt) (arR v S) (snO S l)
section
variable {s r q v : Nat} {S : St} {lim cnt : Int}
def RAll(s r q v:Nat)(S:St)(lim cnt:Int)(n:Nat):Prop:=∀(F:List AObj) (l:List Nat) (a:AV),zAw F s->zAw F r->zAw F q->zAC 1 F ((kidI l).map I64) a->(S.look n l).length<=1000000->
 zAA Try.prog 146 [.bptr s 0,.int .i64 n,.ms q 0 S.length,a] (tR F s r q v S lim cnt l) fun x G=>∃F',G=tR F' s r q v S lim cnt (S.look n l)/\AccR 1 F a ((kidI (S.look n l)).map I64) x F'
theorem zfT{F F':List AObj}{es es':List AV}{a a':AV}{b:Nat}{l l':List Nat}(h:zAC 1 F es a)(hr:AccR 1 F a es' a' F')(hs:zAw F s)(hr':zAw F r)(hq:zAw F q)(hD:TriD F s r q)(hb:b<=F.length)
 (hbel:∀x∈(tR F s r q v S lim cnt l).take b,x.bel b=true):∀x∈(tR F' s r q v S lim cnt l').take b,x.bel b=true:=by
 obtain⟨x,hx,hxt⟩:=hs
 obtain⟨y,hy,hyt⟩:=hr'
 obtain⟨z,hz,hzt⟩:=hq
 have hlen:=hr.len
 have h0:=h.setO (x:=snO S l) hz hzt
 have hx0:(F.set q (snO S l))[s]?=some x:=by rw[zVk (fun e=>hD.d2 e.symm)];exact hx
 have h1:=h0.setO (x:=bxR r v S.length lim cnt) hx0 hxt
 have hy1:((F.set q (snO S l)).set s (bxR r v S.length lim cnt))[r]?=some y:=by rw[zVk hD.d1,zVk (fun e=>hD.d3 e.symm)];exact hy
 have h2:=h1.setO (x:=arR v S) hy1 hyt
 have k0:=hr.setO h (x:=snO S l) hz hzt
 have k1:=k0.setO h0 (x:=bxR r v S.length lim cnt) hx0 hxt
 have k2:=k1.setO h1 (x:=arR v S) hy1 hyt
 have k3:=k2.bel h2 (b:=b) (by simpa using hb) hbel
 have hD':TriD F' s r q:=⟨by have:=hD.hp;omega,by have:=hD.hq;omega,by have:=hD.hm;omega,hD.d1,hD.d2,hD.d3⟩
 exact zc6 hD' (fun h=>zeB h) (zd4 _ _ _) (zgs _ _ _) k3
theorem zfX(hw:Wf S)(n:Nat)(hn:n<S.length)(ih:∀k∈S.kids (S.root n),RAll s r q v S lim cnt k)(hne:s≠r/\s≠q/\r≠q):RAll s r q v S lim cnt n:=by
 intro F l a hs0 hr0 hq0 hacc hbd
 have hD:TriD F s r q:=by
  obtain⟨_,h1,_⟩:=hs0
  obtain⟨_,h2,_⟩:=hr0
  obtain⟨_,h3,_⟩:=hq0
  exact⟨zIc h1,zIc h2,zIc h3,hne.1,hne.2.1,hne.2.2⟩
 have hrl:=hw.root_lt n hn
 have hlk:=hw.look_eq (n:=n) hn l
 have hrr:=hw.zUQ n
 have qr:=fun(G:List AObj) (hs:s<G.length) (hr:r<G.length)=>zgO (F:=G) (v:=v) (lim:=lim) (cnt:=cnt) hs hr (fun e=>hD.d1 e.symm) hw n hn
 have qk:=fun(G:List AObj) (hs:s<G.length) (hr:r<G.length)=>zfo (F:=G) (v:=v) (lim:=lim) (cnt:=cnt) hs hr (fun e=>hD.d1 e.symm) hw (S.root n) hrl
 rw[hrr]at qk
 have hg:=zgo (l:=l) hrl
 have hkm:(S.kids (S.root n)).length<=maxLen:=by
  have:(S.kids (S.root n)).length<=2:=by
   rcases hw.shape hrl (hw.zUK n)with ⟨_,_,hc⟩|⟨_,_,hc⟩|⟨i,j,_,hc⟩|⟨i,_,hc⟩<;>rw[hc]<;>simp
  rw[zPC];omega
 by_cases hin:S.root n∈l
 ·rw[if_pos hin]at hlk
  rw[hlk]
  rw[decide_eq_true hin]at hg
  have q1:DCalls Try.prog 102 [.bptr s 0,.int .i64 n] (tri F s r q (bxR r v S.length lim cnt) (arR v S) (snO S l)) (.int .i64 (S.root n)) (tri F s r q (bxR r v S.length lim cnt) (arR v S) (snO S l)):=qr (F.set q (snO S l)) (by simpa using hD.hp) (by simpa using hD.hq)
  refine eE C_ok Try.func146 Try.results146 fun ok=> ?_
  have h:=YAN
  repeat' (first
   |(with_reducible first|apply bA|apply bB|apply bC|apply bD|apply bE|apply bF)<;>intro h
   |((first|apply bG|apply bH);simp only[yP,yQ,W2,tR,bxR,arR,snO,triP hD,zTi,yN,zgp,hrl,hg];refine zIB (q1) (.inl rfl) ?_)
   |skip)<;>simp only[h,↓zaL,↓zHC,WY,reduceIte,yA,yB,yC,yD,reduceCtorEq,yE,yF,W1,WS,tR,bxR,arR,snO,triP hD,zTi,yN,zgp,hrl,hg]
  exact⟨F,rfl,AccR.refl hacc⟩
 ·rw[if_neg hin]at hlk
  rw[decide_eq_false hin]at hg
  have hset:=zgr (l:=l) hrl
  have hre:∀b,zTS (AV.bool b) [.bool true]= .bool true:=fun _=>rfl
  have q1:DCalls Try.prog 102 [.bptr s 0,.int .i64 n] (tri F s r q (bxR r v S.length lim cnt) (arR v S) (snO S l)) (.int .i64 (S.root n)) (tri F s r q (bxR r v S.length lim cnt) (arR v S) (snO S l)):=qr (F.set q (snO S l)) (by simpa using hD.hp) (by simpa using hD.hq)
  have q2:∀G:List AObj,TriD G s r q->DCalls Try.prog 107 [.bptr s 0,.int .i64 (S.root n)] (tri G s r q (bxR r v S.length lim cnt) (arR v S) (snO S (l++ [S.root n]))) (.sl ((kidI (S.kids (S.root n))).map I64) .no) (tri G s r q (bxR r v S.length lim cnt) (arR v S) (snO S (l++ [S.root n]))):=fun G hG=>qk (G.set q _) (by simpa using hG.hp) (by simpa using hG.hq)
  unfold bxR arR snO at q2
  rcases hacc with ⟨el,rfl⟩|⟨p,rfl,hp⟩
  ·obtain rfl:l=[]:=by simpa [kidI]using el
   have hacc:zAC 1 F ((kidI []).map I64) (.sl [] .full):= .inl ⟨rfl,rfl⟩
   simp only[List.nil_append]at hset hlk q2
   refine eE C_ok Try.func146 Try.results146 fun ok=> ?_
   have h:=YAN
   repeat' (first
    |(with_reducible first|apply bA|apply bB|apply bC|apply bD|apply bE|apply bF)<;>intro h
    |((first|apply bG|apply bH);simp only[yP,yQ,W2,tR,bxR,arR,snO,triP hD,zTi,yN,zgp,hrl,hg,hre,hset,zLz,zMZ,YAK];first|refine zIB (q1) (.inl rfl) ?_|refine zIB (q2 _ (hD.app _)) (.inl rfl) ?_)
    |skip)<;>simp only[h,↓zaL,↓zHC,WY,reduceIte,yA,yB,yC,yD,reduceCtorEq,yE,yF,W1,WS,tR,bxR,arR,snO,triP hD,zTi,yN,zgp,hrl,hg,hre,hset,zLz,zMZ,YAK]
   refine zCN [3,10,0,2,9] ?_
   simp only[List.map_cons,List.map_nil,↓zaL,↓zHC,WY,reduceIte,yA,yB,yC,yD,reduceCtorEq,yE,yF,W1,WS]
   refine zJ1 2 (fun x:Nat×AV×List Nat×List AObj=> [(3,x.2.1),(10,.int .i64 x.1)]) (fun x=>tR x.2.2.2 s r q v S lim cnt x.2.2.1) (fun x=>x.1<=(S.kids (S.root n)).length/\AccR 1 F (.sl [] .full) ((kidI x.2.2.1).map I64) x.2.1 x.2.2.2/\((S.kids (S.root n)).drop x.1).foldl (fun l k=>S.look k l) x.2.2.1=S.look n []) (fun x=>(S.kids (S.root n)).length-x.1) C_ok (0,.sl [.int .i64 (S.root n)] (.own F.length),[S.root n],F++ [.tok 1 1]) rfl (by simp only[tR,snO];first|rfl|simp[kidI,I64]) ⟨YAX _,by have:=AccR.app0 (sz:=1) (F:=F) (I64 (S.root n));simpa [kidI,I64]using this,by rw[List.drop_zero,hlk]⟩ (by decide) ?_
   rintro⟨i,a1,l1,F1⟩ ⟨hi,h1,h2⟩
   simp only at hi h1 h2
   have hacc1:=AccR.ok hacc h1
   have hb1:=h1.len
   have ns1:=zQO hacc h1 hs0
   have nr1:=zQO hacc h1 hr0
   have nq1:=zQO hacc h1 hq0
   have hD1:TriD F1 s r q:=⟨by have:=hD.hp;omega,by have:=hD.hq;omega,by have:=hD.hm;omega,hD.d1,hD.d2,hD.d3⟩
   simp only[List.drop_succ_cons,List.drop_zero,List.cons_append,List.nil_append]
   simp only[↓zaL,↓zHC,WY,reduceIte,yA,yB,yC,yD,reduceCtorEq,yE,yF,W1,WS,tR,bxR,arR,snO,triP hD1,zMZ,YAK]
   refine zJv (fun hlt=> ?_) (fun hlt=> ?_)
   ·simp only[↓zaL,↓zHC,WY,reduceIte,yA,yB,yC,yD,reduceCtorEq,yE,yF,W1,WS,tR,bxR,arR,snO,triP hD1,hlt,zMZ,zMY hlt,YAK]
    have hmem:(S.kids (S.root n)).getD i 0∈S.kids (S.root n):=by simp[hlt]
    have hbk:(S.look ((S.kids (S.root n)).getD i 0) l1).length<=1000000:=by
     have e:(S.kids (S.root n)).drop i=(S.kids (S.root n)).getD i 0::(S.kids (S.root n)).drop (i+1):=by rw[List.drop_eq_getElem_cons hlt];simp[hlt]
     rw[e,List.foldl_cons]at h2
     obtain⟨m,em⟩:=zHt (S:=S) ((S.kids (S.root n)).drop (i+1)) (S.look ((S.kids (S.root n)).getD i 0) l1) fun k hk l=>zNn hw k (hw.zMa (List.mem_of_mem_drop hk)) l
     rw[em]at h2
     have:=congrArg List.length h2
     rw[YAJ]at this
     omega
    refine fsCall (ih _ hmem F1 l1 a1 ns1 nr1 nq1 hacc1 hbk) (.inl rfl) fun x G hG hlen=> ?_
    obtain⟨F2,rfl,hx⟩:=hG
    refine⟨fun hbel=>zfT hacc1 hx ns1 nr1 nq1 hD1 hb1 hbel,?_⟩
    have hl2:=hx.len
    have hD2:TriD F2 s r q:=⟨by have:=hD1.hp;omega,by have:=hD1.hq;omega,by have:=hD1.hm;omega,hD.d1,hD.d2,hD.d3⟩
    simp only[↓zaL,↓zHC,WY,reduceIte,yA,yB,yC,yD,reduceCtorEq,yE,yF,W1,WS,tR,bxR,arR,snO,triP hD2]
    refine⟨(i+1,x,S.look ((S.kids (S.root n)).getD i 0) l1,F2),⟨hlt,h1.trans hacc hx,?_⟩,by simp only;omega,zap rfl ?_⟩
    ·rw[<-h2,List.drop_eq_getElem_cons hlt,List.foldl_cons];simp[hlt]
    ·simp only[WK,↓zaL,↓zHC,yA,reduceIte,yN,yO,yR,yP,yQ,yB,yC,zbX hlt hkm]
   ·simp only[↓zaL,↓zHC,WY,reduceIte,yA,yB,yC,yD,reduceCtorEq,yE,yF,W1,WS,tR,bxR,arR,snO,triP hD1,zMZ,YAK]
    have hi':i=(S.kids (S.root n)).length:=by omega
    subst hi'
    rw[List.drop_length]at h2
    simp only[List.foldl_nil]at h2
    subst h2
    exact⟨F1,rfl,h1⟩
  ·have hacc:zAC 1 F ((kidI l).map I64) (.sl ((kidI l).map I64) (.own p)):= .inr ⟨p,rfl,hp⟩
   have hpl:=zIc hp
   have np:∀x,zAw F x->x≠p:=by
    rintro x ⟨y,h1,h2⟩ rfl
    rw[hp]at h1;exact h2 _ (Option.some.inj h1).symm
   have ps:=np _ hs0
   have pr:=np _ hr0
   have pq:=np _ hq0
   rw[YAK,zMZ]at hp
   have f1:∀G x y z,(tri G s r q x y z)[p]?=G[p]?:=fun _ _ _ _=>zc9 ps pr pq
   have f2:∀G x y z u,(tri G s r q x y z).set p u=tri (G.set p u) s r q x y z:=fun _ _ _ _ _=>zc8 ps pr pq
   have hDp:TriD (F.set p (.tok (l.length+1) 1)) s r q:=⟨by simpa using hD.hp,by simpa using hD.hq,by simpa using hD.hm,hD.d1,hD.d2,hD.d3⟩
   have f3:=triP hDp
   have f4:=zCE (kidI l)
   refine eE C_ok Try.func146 Try.results146 fun ok=> ?_
   have h:=YAN
   repeat' (first
    |(with_reducible first|apply bA|apply bB|apply bC|apply bD|apply bE|apply bF)<;>intro h
    |((first|apply bG|apply bH);simp only[yP,yQ,W2,tR,bxR,arR,snO,triP hD,zTi,yN,zgp,hrl,hg,hre,hset,zMZ,YAK,zLz,f1,f2,f3,f4,hp];first|refine zIB (q1) (.inl rfl) ?_|refine zIB (q2 _ hDp) (.inl rfl) ?_)
    |skip)<;>simp only[h,↓zaL,↓zHC,WY,reduceIte,yA,yB,yC,yD,reduceCtorEq,yE,yF,W1,WS,tR,bxR,arR,snO,triP hD,zTi,yN,zgp,hrl,hg,hre,hset,zMZ,YAK,zLz,f1,f2,f3,f4,hp]
   have hll:l.length<=999999:=by
    obtain⟨m,em⟩:=zHt (S:=S) (S.kids (S.root n)) (l++ [S.root n]) fun k hk l=>zNn hw k (hw.zMa hk) l
    rw[hlk,em]at hbd
    simp only[YAJ,List.length_cons,List.length_nil]at hbd
    omega
   refine⟨⟨by omega,by omega⟩,?_⟩
   have h:=YAN
   repeat' (first
    |(with_reducible first|apply bA|apply bB|apply bC|apply bD|apply bE|apply bF)<;>intro h
    |((first|apply bG|apply bH);simp only[yP,yQ,W2,tR,bxR,arR,snO,triP hD,zTi,yN,zgp,hrl,hg,hre,hset,zMZ,YAK,zLz,f1,f2,f3,f4,hp];refine zIB (q2 _ hDp) (.inl rfl) ?_)
    |skip)<;>simp only[h,↓zaL,↓zHC,WY,reduceIte,yA,yB,yC,yD,reduceCtorEq,yE,yF,W1,WS,tR,bxR,arR,snO,triP hD,zTi,yN,zgp,hrl,hg,hre,hset,zMZ,YAK,zLz,f1,f2,f3,f4,hp]
   refine zCN [3,10,0,2,9] ?_
   simp only[List.map_cons,List.map_nil,↓zaL,↓zHC,WY,reduceIte,yA,yB,yC,yD,reduceCtorEq,yE,yF,W1,WS]
   refine zJ1 2 (fun x:Nat×AV×List Nat×List AObj=> [(3,x.2.1),(10,.int .i64 x.1)]) (fun x=>tR x.2.2.2 s r q v S lim cnt x.2.2.1) (fun x=>x.1<=(S.kids (S.root n)).length/\AccR 1 F (.sl ((kidI l).map I64) (.own p)) ((kidI x.2.2.1).map I64) x.2.1 x.2.2.2/\((S.kids (S.root n)).drop x.1).foldl (fun l k=>S.look k l) x.2.2.1=S.look n l) (fun x=>(S.kids (S.root n)).length-x.1) C_ok (0,.sl ((kidI l).map I64++ [.int .i64 (S.root n)]) (.own p),l++ [S.root n],F.set p (.tok (l.length+1) 1)) rfl (by simp only[tR,snO];first|rfl|simp[kidI,I64]) ⟨YAX _,by have:=AccR.app (sz:=1) (F:=F) (es:=(kidI l).map I64) (q:=p) (I64 (S.root n));simpa [kidI,I64]using this,by rw[List.drop_zero,hlk]⟩ (by decide) ?_
   rintro⟨i,a1,l1,F1⟩ ⟨hi,h1,h2⟩
   simp only at hi h1 h2
   have hacc1:=AccR.ok hacc h1
   have hb1:=h1.len
   have ns1:=zQO hacc h1 hs0
   have nr1:=zQO hacc h1 hr0
   have nq1:=zQO hacc h1 hq0
   have hD1:TriD F1 s r q:=⟨by have:=hD.hp;omega,by have:=hD.hq;omega,by have:=hD.hm;omega,hD.d1,hD.d2,hD.d3⟩
   simp only[List.drop_succ_cons,List.drop_zero,List.cons_append,List.nil_append]
   simp only[↓zaL,↓zHC,WY,reduceIte,yA,yB,yC,yD,reduceCtorEq,yE,yF,W1,WS,tR,bxR,arR,snO,triP hD1,zMZ,YAK]
   refine zJv (fun hlt=> ?_) (fun hlt=> ?_)
   ·simp only[↓zaL,↓zHC,WY,reduceIte,yA,yB,yC,yD,reduceCtorEq,yE,yF,W1,WS,tR,bxR,arR,snO,triP hD1,hlt,zMZ,zMY hlt,YAK]
    have hmem:(S.kids (S.root n)).getD i 0∈S.kids (S.root n):=by simp[hlt]
    have hbk:(S.look ((S.kids (S.root n)).getD i 0) l1).length<=1000000:=by
     have e:(S.kids (S.root n)).drop i=(S.kids (S.root n)).getD i 0::(S.kids (S.root n)).drop (i+1):=by rw[List.drop_eq_getElem_cons hlt];simp[hlt]
     rw[e,List.foldl_cons]at h2
     obtain⟨m,em⟩:=zHt (S:=S) ((S.kids (S.root n)).drop (i+1)) (S.look ((S.kids (S.root n)).getD i 0) l1) fun k hk l=>zNn hw k (hw.zMa (List.mem_of_mem_drop hk)) l
     rw[em]at h2
     have:=congrArg List.length h2
     rw[YAJ]at this
     omega
    refine fsCall (ih _ hmem F1 l1 a1 ns1 nr1 nq1 hacc1 hbk) (.inl rfl) fun x G hG hlen=> ?_
    obtain⟨F2,rfl,hx⟩:=hG
    refine⟨fun hbel=>zfT hacc1 hx ns1 nr1 nq1 hD1 hb1 hbel,?_⟩
    have hl2:=hx.len
    have hD2:TriD F2 s r q:=⟨by have:=hD1.hp;omega,by have:=hD1.hq;omega,by have:=hD1.hm;omega,hD.d1,hD.d2,hD.d3⟩
    simp only[↓zaL,↓zHC,WY,reduceIte,yA,yB,yC,yD,reduceCtorEq,yE,yF,W1,WS,tR,bxR,arR,snO,triP hD2]
    refine⟨(i+1,x,S.look ((S.kids (S.root n)).getD i 0) l1,F2),⟨hlt,h1.trans hacc hx,?_⟩,by simp only;omega,zap rfl ?_⟩
    ·rw[<-h2,List.drop_eq_getElem_cons hlt,List.foldl_cons];simp[hlt]
    ·simp only[WK,↓zaL,↓zHC,yA,reduceIte,yN,yO,yR,yP,yQ,yB,yC,zbX hlt hkm]
   ·simp only[↓zaL,↓zHC,WY,reduceIte,yA,yB,yC,yD,reduceCtorEq,yE,yF,W1,WS,tR,bxR,arR,snO,triP hD1,zMZ,YAK]
    have hi':i=(S.kids (S.root n)).length:=by omega
    subst hi'
    rw[List.drop_length]at h2
    simp only[List.foldl_nil]at h2
    subst h2
    exact⟨F1,rfl,h1⟩
theorem zfV(hw:Wf S)(hne:s≠r/\s≠q/\r≠q):∀n,n<S.length->RAll s r q v S lim cnt n:=by
 refine hw.ind (p:=fun n=>n<S.length->RAll s r q v S lim cnt n) fun n ih hn=>zfX hw n hn (fun k hk=>ih k hk (hw.zMa hk)) hne
end
end
section
theorem zd2{S:St}(hw:Wf S){n:Nat}(hn:n<S.length):(S.all n).length<=S.length:=by
 have h:=hw.zQc (n:=n) hn
 have hsub:S.all n ⊆ List.range S.length:=fun x hx=>by
  rw[List.mem_range]
  exact((hw.zPE hn).1 hx).lt hw hn
 have:=h.length_le_of_subset hsub
 simpa using this
def CRl:Cfg:= {C with inpl:=fun d=>d==16,rdr:=fun f=>CR.rdr f||f==118}
theorem zdl:zAb Try.prog CRl:=C_ok
theorem zdm(t:Nat):CRl.ty t=C.ty t:=rfl
theorem zdk(t:Nat):CRl.inpl t=(t==16):=rfl
section
variable {F : List AObj} {s r v : Nat} {S : St} {lim cnt : Int}
theorem zg2(hs:s<F.length)(hr:r<F.length)(hne:r≠s)(X y bx ar:AObj)(J:List AObj):tri (stF (F++ [X]) s r bx ar++J) s r F.length bx ar y=stF (F++(y::J)) s r bx ar:=by
 unfold tri
 rw[zW9 (zN3 hs) (zN3 hr),zXG (by omega) (by omega),List.append_assoc,zCX rfl,zXD hne]
 rfl
theorem zfU(hs:s<F.length)(hr:r<F.length)(hne:r≠s)(hw:Wf S)(hL:S.length<=1000000)(n:Nat)(hn:n<S.length):
 DCalls Try.prog 118 [.bptr s 0,.int .i64 n] (hpR F s r v S lim cnt) (.sl ((kidI (S.all n)).map I64) .no) (hpR F s r v S lim cnt):=by
 have hi:=zfl (v:=v) (S:=S) (lim:=lim) (cnt:=cnt) hs hr hne hn
 have hlk:=zfV (s:=s) (r:=r) (q:=F.length) (v:=v) (lim:=lim) (cnt:=cnt) hw ⟨fun e=>hne e.symm,by omega,by omega⟩ n hn (stF (F++ [snO S []]) s r (bxR r v S.length lim cnt) (arR v S)) [] (.sl [] .full)
  ⟨_,zXF (zN3 hs) hne,fun m=>by simp[bxR]⟩ ⟨_,zXE (zN3 hr),fun m=>by simp[arR]⟩ ⟨snO S [],by rw[zXC (by omega) (by omega),zCT rfl];rfl,fun m=>by simp[snO]⟩ (.inl ⟨rfl,rfl⟩) (Nat.le_trans (zd2 hw hn) hL)
 have hB:tR (stF (F++ [snO S []]) s r (bxR r v S.length lim cnt) (arR v S)) s r F.length v S lim cnt []=stF (F++ [snO S []]) s r (bxR r v S.length lim cnt) (arR v S):=by
  have:=zg2 hs hr hne (snO S []) (snO S []) (bxR r v S.length lim cnt) (arR v S) []
  rw[List.append_nil]at this
  exact this
 rw[hB]at hlk
 have e0:snO S []= .arr 0 1 (List.replicate S.length (.bool false)):=by rw[snO,zgq]
 have b1:((S.length:Int)<=140737488355328)=True:=by simp only[YAb,iff_true];omega
 have b2:((0:Int)<=(S.length:Int))=True:=by simp
 unfold DCalls
 refine eD zdl Try.func118 Try.results118 fun ok=> ?_
 have h:=YAN
 repeat' (first
  |(with_reducible first|apply bA|apply bB|apply bC|apply bD|apply bE|apply bF)<;>intro h
  |((first|apply bG|apply bH);simp only[yP,yQ,W2,zdm,zdk,yG,hpR,bxR,arR,stP hs hr hne,zTh,zTg,yN,ze0,b1,b2,Int.mul_one,Int.toNat_natCast];refine zIB (hi) (.inl rfl) ?_)
  |skip)<;>simp only[h,↓zaL,↓zHC,WY,reduceIte,yA,yB,yC,yD,reduceCtorEq,yE,yF,W1,WS,zdm,zdk,yG,hpR,bxR,arR,stP hs hr hne,zTh,zTg,yN,ze0,b1,b2,Int.mul_one,Int.toNat_natCast]
 refine⟨by omega,?_⟩
 rw[e0]at hlk
 unfold bxR arR at hlk
 refine fsCall hlk (.inl rfl) fun x G hG hlen=> ?_
 obtain⟨F',rfl,hx⟩:=hG
 obtain⟨hxn,J,rfl⟩:=hx.out
 rw[zLz]at hxn
 have hG:tR (stF (F++ [.arr 0 1 (List.replicate S.length (.bool false))]) s r (.box [.int .i64 lim,.int .i64 cnt,.ms r v S.length]) (.arr v 5 (S.map embW))++J) s r F.length v S lim cnt (S.look n [])=stF (F++(snO S (S.look n [])::J)) s r (.box [.int .i64 lim,.int .i64 cnt,.ms r v S.length]) (.arr v 5 (S.map embW)):=
  zg2 hs hr hne _ _ _ _ J
 rw[hG]
 refine⟨fun hbel=> ?_,?_⟩
 ·rw[zXK hs hr]at hbel⊢
  exact hbel
 ·simp only[↓zaL,↓zHC,WY,reduceIte,yA,yB,yC,yD,reduceCtorEq,yE,yF,W1,WS,zdm,zdk,hpR,bxR,arR,stP hs hr hne,zTh,zTg,yN,ze0,hxn,zLy]
  rfl
theorem zfW(hs:s<F.length)(hr:r<F.length)(hne:r≠s)(n:Int)(hn:n<0\/(S.length:Int)<=n):DCalls Try.prog 118 [.bptr s 0,.int .i64 n] (hpR F s r v S lim cnt) (.sl [] .no) (hpR F s r v S lim cnt):=by
 have hi:=zfj (v:=v) (S:=S) (lim:=lim) (cnt:=cnt) hs hr hne hn
 unfold DCalls
 refine eD zdl Try.func118 Try.results118 fun ok=> ?_
 have h:=YAN
 repeat' (first
  |(with_reducible first|apply bA|apply bB|apply bC|apply bD|apply bE|apply bF)<;>intro h
  |((first|apply bG|apply bH);simp only[yP,yQ,W2,zdm,zdk,yG,hpR,bxR,arR,stP hs hr hne,zTh,zTg,yN,ze0,yO];refine zIB (hi) (.inl rfl) ?_)
  |skip)<;>simp only[h,↓zaL,↓zHC,WY,reduceIte,yA,yB,yC,yD,reduceCtorEq,yE,yF,W1,WS,zdm,zdk,yG,hpR,bxR,arR,stP hs hr hne,zTh,zTg,yN,ze0,yO]
theorem zge(hs:s<F.length)(hr:r<F.length)(hne:r≠s)(hw:Wf S)(hL:S.length<=1000000)(a n:Nat)(ha:a<S.length)(hn:n<S.length):
 DCalls Try.prog 55 [.bptr s 0,.int .i64 a,.int .i64 n] (hpR F s r v S lim cnt) (.bool (decide (S.root a∈S.all n))) (hpR F s r v S lim cnt):=by
 have q1:=zfl (v:=v) (S:=S) (lim:=lim) (cnt:=cnt) hs hr hne ha
 have q3:=zfU (v:=v) (lim:=lim) (cnt:=cnt) hs hr hne hw hL n hn
 have q4:=zgO (v:=v) (lim:=lim) (cnt:=cnt) hs hr hne hw a ha
 have q5:=zLc (kidI (S.all n)) (S.root a)
 rw[show decide ((S.root a:Int)∈kidI (S.all n))=decide (S.root a∈S.all n)by rw[decide_eq_decide];exact zPF]at q5
 unfold DCalls
 refine eD C_ok Try.func55 Try.results55 fun ok=> ?_
 have h:=YAN
 repeat' (first
  |(with_reducible first|apply bA|apply bB|apply bC|apply bD|apply bE|apply bF)<;>intro h
  |((first|apply bG|apply bH);simp only[yP,yQ,W2,hpR,bxR,arR,stP hs hr hne,zTh,zTg,yN,ze0,zLz];first|refine zIf (q5) (.inl rfl) ?_|refine zIj (q5) (.inl rfl) ?_|refine zIB (q1) (.inl rfl) ?_|refine zIB (q3) (.inl rfl) ?_|refine zIB (q4) (.inl rfl) ?_)
  |skip)<;>simp only[h,↓zaL,↓zHC,WY,reduceIte,yA,yB,yC,yD,reduceCtorEq,yE,yF,W1,WS,hpR,bxR,arR,stP hs hr hne,zTh,zTg,yN,ze0,zLz]
theorem zpn(hs:s<F.length)(hr:r<F.length)(hne:r≠s)(hw:Wf S)(a n:Int)(h:(a<0\/(S.length:Int)<=a)\/(n<0\/(S.length:Int)<=n)):
 DCalls Try.prog 55 [.bptr s 0,.int .i64 a,.int .i64 n] (hpR F s r v S lim cnt) (.bool false) (hpR F s r v S lim cnt):=by
 by_cases ha:a<0\/(S.length:Int)<=a
 ·have q1:=zfj (v:=v) (S:=S) (lim:=lim) (cnt:=cnt) hs hr hne ha
  unfold DCalls
  refine eD C_ok Try.func55 Try.results55 fun ok=> ?_
  have h:=YAN
  repeat' (first
   |(with_reducible first|apply bA|apply bB|apply bC|apply bD|apply bE|apply bF)<;>intro h
   |((first|apply bG|apply bH);simp only[yP,yQ,W2,hpR,bxR,arR,stP hs hr hne,zTh,zTg,yN,ze0];refine zIB (q1) (.inl rfl) ?_)
   |skip)<;>simp only[h,↓zaL,↓zHC,WY,reduceIte,yA,yB,yC,yD,reduceCtorEq,yE,yF,W1,WS,hpR,bxR,arR,stP hs hr hne,zTh,zTg,yN,ze0]
 ·obtain⟨m,rfl⟩:∃m:Nat,a=m:=⟨a.toNat,by omega⟩
  have hm:m<S.length:=by omega
  have q1:=zfl (v:=v) (S:=S) (lim:=lim) (cnt:=cnt) hs hr hne hm
  have q3:=zfW (v:=v) (S:=S) (lim:=lim) (cnt:=cnt) hs hr hne n (h.resolve_left ha)
  have q4:=zgO (v:=v) (lim:=lim) (cnt:=cnt) hs hr hne hw m hm
  have q5:=zLc [] (S.root m)
  simp only[List.map_nil,List.not_mem_nil,decide_false]at q5
  unfold DCalls
  refine eD C_ok Try.func55 Try.results55 fun ok=> ?_
  have h:=YAN
  repeat' (first
   |(with_reducible first|apply bA|apply bB|apply bC|apply bD|apply bE|apply bF)<;>intro h
   |((first|apply bG|apply bH);simp only[yP,yQ,W2,hpR,bxR,arR,stP hs hr hne,zTh,zTg,yN,ze0,yQ];first|refine zIf (q5) (.inl rfl) ?_|refine zIj (q5) (.inl rfl) ?_|refine zIB (q1) (.inl rfl) ?_|refine zIB (q3) (.inl rfl) ?_|refine zIB (q4) (.inl rfl) ?_)
   |skip)<;>simp only[h,↓zaL,↓zHC,WY,reduceIte,yA,yB,yC,yD,reduceCtorEq,yE,yF,W1,WS,hpR,bxR,arR,stP hs hr hne,zTh,zTg,yN,ze0,yQ]
theorem zgU(hs:s<F.length)(hr:r<F.length)(hne:r≠s)(hw:Wf S)(hL:S.length<=1000000)(n:Nat)(hn:n<S.length):
 DCalls Try.prog 111 [.bptr s 0,.int .i64 n] (hpR F s r v S lim cnt) (.bool (decide (4 ∉ S.all n))) (hpR F s r v S lim cnt):=by
 have q1:=zfl (v:=v) (S:=S) (lim:=lim) (cnt:=cnt) hs hr hne hn
 have q3:=zfU (v:=v) (lim:=lim) (cnt:=cnt) hs hr hne hw hL n hn
 have q5:=zLc (kidI (S.all n)) 4
 rw[show decide ((4:Int)∈kidI (S.all n))=decide (4∈S.all n)by rw[decide_eq_decide];exact zPF (n:=4)]at q5
 have e:(!decide (4∈S.all n))=decide (4 ∉ S.all n):=by simp
 unfold DCalls
 refine eD C_ok Try.func111 Try.results111 fun ok=> ?_
 have h:=YAN
 repeat' (first
  |(with_reducible first|apply bA|apply bB|apply bC|apply bD|apply bE|apply bF)<;>intro h
  |((first|apply bG|apply bH);simp only[yP,yQ,W2,hpR,bxR,arR,stP hs hr hne,zTh,zTg,yN,ze0,zLz,e];first|refine zIf (q5) (.inl rfl) ?_|refine zIj (q5) (.inl rfl) ?_|refine zIB (q1) (.inl rfl) ?_|refine zIB (q3) (.inl rfl) ?_)
  |skip)<;>simp only[h,↓zaL,↓zHC,WY,reduceIte,yA,yB,yC,yD,reduceCtorEq,yE,yF,W1,WS,hpR,bxR,arR,stP hs hr hne,zTh,zTg,yN,ze0,zLz,e]
theorem zgV(hs:s<F.length)(hr:r<F.length)(hne:r≠s)(n:Int)(hn:n<0\/(S.length:Int)<=n):DCalls Try.prog 111 [.bptr s 0,.int .i64 n] (hpR F s r v S lim cnt) (.bool false) (hpR F s r v S lim cnt):=by
 have hi:=zfj (v:=v) (S:=S) (lim:=lim) (cnt:=cnt) hs hr hne hn
 unfold DCalls
 refine eD C_ok Try.func111 Try.results111 fun ok=> ?_
 have h:=YAN
 repeat' (first
  |(with_reducible first|apply bA|apply bB|apply bC|apply bD|apply bE|apply bF)<;>intro h
  |((first|apply bG|apply bH);simp only[yP,yQ,W2,hpR,bxR,arR,stP hs hr hne,zTh,zTg,yN,ze0];refine zIB (hi) (.inl rfl) ?_)
  |skip)<;>simp only[h,↓zaL,↓zHC,WY,reduceIte,yA,yB,yC,yD,reduceCtorEq,yE,yF,W1,WS,hpR,bxR,arR,stP hs hr hne,zTh,zTg,yN,ze0]
theorem zgd(hs:s<F.length)(hr:r<F.length)(hne:r≠s)(n:Int)(hn:n<0\/(S.length:Int)<=n):DCalls Try.prog 110 [.bptr s 0,.int .i64 n] (hpR F s r v S lim cnt) (.sl [] .no) (hpR F s r v S lim cnt):=by
 have hi:=zfW (v:=v) (S:=S) (lim:=lim) (cnt:=cnt) hs hr hne n hn
 unfold DCalls
 refine eD C_ok Try.func110 Try.results110 fun ok=> ?_
 have h:=YAN
 repeat' (first
  |(with_reducible first|apply bA|apply bB|apply bC|apply bD|apply bE|apply bF)<;>intro h
  |((first|apply bG|apply bH);simp only[yP,yQ,W2,W3,yH,yI,yJ,yK,yL,yM,hpR,bxR,arR,stP hs hr hne,zTh,zTg,yN,ze0,yO,List.length_nil];refine zIB (hi) (.inl rfl) ?_)
  |refine drA C_ok 6 0 ?_
  |refine zJ9 ?_ C_ok Try.f110.ntmps rfl (by decide)
  |skip)<;>simp only[h,↓zaL,↓zHC,WY,reduceIte,yA,yB,yC,yD,reduceCtorEq,yE,yF,W1,WS,W3,yH,yI,yJ,yK,yL,yM,hpR,bxR,arR,stP hs hr hne,zTh,zTg,yN,ze0,yO,List.length_nil,zFY]
end
end
section
def zei(S:St)(lv:Int)(x:Nat):St:=S.lv x (if lv<(S.nd x).level then lv else(S.nd x).level)
def lowS(S:St)(lv:Int)(vs:List Nat):St:=vs.foldl (fun S x=>zei S lv x) S
theorem zej(lv:Int):∀(vs:List Nat) (S:St),(lowS S lv vs).length=S.length
 | [],S=>rfl
 |x::vs,S=>by show(lowS (zei S lv x) lv vs).length=_;rw[zej,zei,St.zN7]
theorem zel{S:St}{lv:Int}{vs:List Nat}{i:Nat}(h:i<vs.length):zei (lowS S lv (vs.take i)) lv (vs.getD i 0)=lowS S lv (vs.take (i+1)):=by
 rw[List.take_add_one,YAI h,Option.toList_some]
 simp only[lowS,List.foldl_append,List.foldl_cons,List.foldl_nil]
 simp[h]
theorem zeh(lv:Int):∀(vs:List Nat) (L:Mem),(lowL L lv vs).st=lowS L.st lv vs
 | [],L=>rfl
 |x::vs,L=>by
  show(lowL (low1 L lv x) lv vs).st=lowS (zei L.st lv x) lv vs
  rw[zeh lv vs]
  congr 1
  rw[low1,zei,St.lv,Mem.st,List.map_set,<-Mem.st,L.nd]
theorem zg5{S:St}(hw:Wf S){n:Nat}(hn:n<S.length):∀x∈S.vars n,x<S.length:=fun x hx=>((hw.zPJ hn).1 hx).1.lt hw hn
section
variable {F : List AObj} {s r v : Nat} {S : St} {lim cnt : Int}
theorem zgc(hs:s<F.length)(hr:r<F.length)(hne:r≠s)(hw:Wf S)(hL:S.length<=1000000)(n:Nat)(hn:n<S.length):
 DCalls Try.prog 110 [.bptr s 0,.int .i64 n] (hpR F s r v S lim cnt) (.sl ((kidI (S.vars n)).map I64) .no) (hpR F s r v S lim cnt):=by
 have q3:=zfU (v:=v) (lim:=lim) (cnt:=cnt) hs hr hne hw hL n hn
 have hal:(S.all n).length<=1000000:=Nat.le_trans (zd2 hw hn) hL
 have hmem:∀x∈S.all n,x<S.length:=fun x hx=>((hw.zPE hn).1 hx).lt hw hn
 have hkd:∀x,(S.nd x).kind=S.kind x:=fun x=>rfl
 have hvars:S.vars n=(S.all n).filter fun m=>decide (S.kind m=6):=rfl
 rw[hvars]
 generalize S.all n=al at*
 have hmax:al.length<=maxLen:=by rw[zPC];omega
 unfold DCalls
 refine eD C_ok Try.func110 Try.results110 fun ok=> ?_
 have h:=YAN
 repeat' (first
  |(with_reducible first|apply bA|apply bB|apply bC|apply bD|apply bE|apply bF)<;>intro h
  |((first|apply bG|apply bH);simp only[yP,yQ,W2,hpR,bxR,arR,stP hs hr hne,zTh,zTg,yN,ze0,zLz,zMZ,YAK];refine zIB (q3) (.inl rfl) ?_)
  |refine drA C_ok 6 0 ?_
  |skip)<;>simp only[h,↓zaL,↓zHC,WY,reduceIte,yA,yB,yC,yD,reduceCtorEq,yE,yF,W1,WS,hpR,bxR,arR,stP hs hr hne,zTh,zTg,yN,ze0,zLz,zMZ,YAK]
 refine zCN [6,7,0,5] ?_
 simp only[List.map_cons,List.map_nil,↓zaL,↓zHC,WY,reduceIte,yA,yB,yC,yD,reduceCtorEq,yE,yF,W1,WS]
 refine zJ1 2 (fun x:Nat×List Nat=> [(6,accV F.length x.2),(7,.int .i64 x.1)]) (fun x=>hpR (F++tokV x.2) s r v S lim cnt) (fun x=>x.1<=al.length/\x.2=(al.take x.1).filter fun m=>decide (S.kind m=6)) (fun x=>al.length-x.1) C_ok (0,[]) rfl (by simp[tokV,hpR,bxR,arR]) ⟨YAX _,rfl⟩ (by decide) ?_
 rintro⟨i,l1⟩ ⟨hi,h1⟩
 simp only at hi h1
 simp only[List.drop_succ_cons,List.drop_zero,List.cons_append,List.nil_append]
 by_cases hlt:i<al.length
 ·have hmm:al.getD i 0∈al:=by simp[hlt]
  have hml:=hmem _ hmm
  have hk:=hkd (al.getD i 0)
  have htf:=zYP hlt fun m=>decide (S.kind m=6)
  rw[<-h1]at htf
  by_cases h6:S.kind (al.getD i 0)=6
  ·have e6:(S.kind (al.getD i 0)==6)=true:=by rw[beq_iff_eq];exact h6
   simp only[h6,decide_true,if_true]at htf
   by_cases hl:l1=[]
   ·subst hl
    simp only[accV,tokV,if_true,List.append_nil]
    have h:=YAN
    repeat' (first
     |(with_reducible first|apply bA|apply bB|apply bC|apply bD|apply bE|apply bF)<;>intro h
     |refine drA C_ok 6 0 ?_
     |skip)<;>simp only[h,↓zaL,↓zHC,WY,reduceIte,yA,yB,yC,yD,reduceCtorEq,yE,yF,W1,WS,hpR,bxR,arR,stP hs hr hne,zTh,zTg,yN,ze0,hlt,zMZ,YAK,zMY hlt,hml,zez hml,zeI,hk,e6]
    refine⟨(i+1,[al.getD i 0]),⟨hlt,by rw[htf];rfl⟩,by simp only;omega,zap ?_ ?_⟩
    ·simp[tokV]
    ·simp only[WK,↓zaL,↓zHC,yA,reduceIte,yN,yO,yR,yP,yQ,yB,yC,zbX hlt hmax]
     exact .inl (by rw[if_neg (by simp)];rfl)
   ·rw[zBW hl,zYZ hl]
    have b1:l1.length<=999999:=by
     have k1:l1.length<=(al.take i).length:=by rw[h1];exact List.length_filter_le _ _
     rw[List.length_take]at k1
     omega
    have b2:(l1.length+1<=9223372036854775807)=True:=by simp only[YAb,iff_true];omega
    have b3:((l1.length+1)*8<=140737488355328)=True:=by simp only[YAb,iff_true];omega
    have h:=YAN
    repeat' (first
     |(with_reducible first|apply bA|apply bB|apply bC|apply bD|apply bE|apply bF)<;>intro h
     |refine drA C_ok 6 0 ?_
     |skip)<;>simp only[h,↓zaL,↓zHC,WY,reduceIte,yA,yB,yC,yD,reduceCtorEq,yE,yF,W1,WS,hpR,bxR,arR,stP hs hr hne,zTh,zTg,yN,ze0,hlt,zMZ,YAK,zMY hlt,hml,zez hml,zeI,hk,e6,b2,b3,zCE (kidI l1),List.getElem?_cons_zero,List.set_cons_zero]
    refine⟨(i+1,l1++ [al.getD i 0]),⟨hlt,by rw[htf]⟩,by simp only;omega,zap ?_ ?_⟩
    ·simp only[zYZ (l:=l1++ [al.getD i 0]) (by simp),YAJ,List.length_cons,List.length_nil]
    ·simp only[WK,↓zaL,↓zHC,yA,reduceIte,yN,yO,yR,yP,yQ,yB,yC,zbX hlt hmax]
     exact .inl (by rw[zBW (by simp),zMX])
  ·have e6:(S.kind (al.getD i 0)==6)=false:=by rw[YAZ];exact h6
   simp only[h6,decide_false,YAB,if_false,List.append_nil]at htf
   by_cases hl:l1=[]
   ·subst hl
    simp only[accV,tokV,if_true,List.append_nil]
    have h:=YAN
    repeat' (first
     |(with_reducible first|apply bA|apply bB|apply bC|apply bD|apply bE|apply bF)<;>intro h
     |refine drA C_ok 6 0 ?_
     |skip)<;>simp only[h,↓zaL,↓zHC,WY,reduceIte,yA,yB,yC,yD,reduceCtorEq,yE,yF,W1,WS,hpR,bxR,arR,stP hs hr hne,zTh,zTg,yN,ze0,hlt,zMZ,YAK,zMY hlt,hml,zez hml,zeI,hk,e6]
    refine⟨(i+1,[]),⟨hlt,by rw[htf]⟩,by simp only;omega,zap ?_ ?_⟩
    ·simp[tokV]
    ·simp only[WK,↓zaL,↓zHC,yA,reduceIte,yN,yO,yR,yP,yQ,yB,yC,zbX hlt hmax]
   ·rw[zBW hl,zYZ hl]
    have h:=YAN
    repeat' (first
     |(with_reducible first|apply bA|apply bB|apply bC|apply bD|apply bE|apply bF)<;>intro h
     |refine drA C_ok 6 0 ?_
     |skip)<;>simp only[h,↓zaL,↓zHC,WY,reduceIte,yA,yB,yC,yD,reduceCtorEq,yE,yF,W1,WS,hpR,bxR,arR,stP hs hr hne,zTh,zTg,yN,ze0,hlt,zMZ,YAK,zMY hlt,hml,zez hml,zeI,hk,e6]
    refine⟨(i+1,l1),⟨hlt,by rw[htf]⟩,by simp only;omega,zap ?_ ?_⟩
    ·simp only[zYZ hl]
    ·simp only[WK,↓zaL,↓zHC,yA,reduceIte,yN,yO,yR,yP,yQ,yB,yC,zbX hlt hmax]
     exact .inl (by rw[zBW hl])
 ·have hi':i=al.length:=by omega
  subst hi'
  rw[List.take_length]at h1
  rw[<-h1]
  by_cases hl:l1=[]
  ·subst hl
   simp only[accV,tokV,if_true,List.append_nil]
   have h:=YAN
   repeat' (first
    |(with_reducible first|apply bA|apply bB|apply bC|apply bD|apply bE|apply bF)<;>intro h
    |refine drA C_ok 6 0 ?_
    |skip)<;>simp only[h,↓zaL,↓zHC,WY,reduceIte,yA,yB,yC,yD,reduceCtorEq,yE,yF,W1,WS,hpR,bxR,arR,stP hs hr hne,zTh,zTg,yN,ze0,zMZ,YAK,Nat.lt_irrefl,Int.lt_irrefl]
   all_goals exact⟨rfl,rfl⟩
  ·rw[zBW hl,zYZ hl]
   have h:=YAN
   repeat' (first
    |(with_reducible first|apply bA|apply bB|apply bC|apply bD|apply bE|apply bF)<;>intro h
    |refine drA C_ok 6 0 ?_
    |skip)<;>simp only[h,↓zaL,↓zHC,WY,reduceIte,yA,yB,yC,yD,reduceCtorEq,yE,yF,W1,WS,hpR,bxR,arR,stP hs hr hne,zTh,zTg,yN,ze0,zMZ,YAK,Nat.lt_irrefl,Int.lt_irrefl,zLz,zLy]
theorem zf0(hs:s<F.length)(hr:r<F.length)(hne:r≠s)(hw:Wf S)(hL:S.length<=1000000)(n:Nat)(hn:n<S.length)(lv:Int):
 DCalls Try.prog 138 [.bptr s 0,.int .i64 n,.int .i64 lv] (hpR F s r v S lim cnt) (.tup []) (hpR F s r v (lowS S lv (S.vars n)) lim cnt):=by
 have q:=zgc (v:=v) (lim:=lim) (cnt:=cnt) hs hr hne hw hL n hn
 have hvl:(S.vars n).length<=1000000:=Nat.le_trans (List.length_filter_le _ _) (Nat.le_trans (zd2 hw hn) hL)
 have hlt':=zg5 hw hn
 generalize S.vars n=vs at*
 have hmax:vs.length<=maxLen:=by rw[zPC];omega
 unfold DCalls
 refine eD C_ok Try.func138 Try.results138 fun ok=> ?_
 have h:=YAN
 repeat' (first
  |(with_reducible first|apply bA|apply bB|apply bC|apply bD|apply bE|apply bF)<;>intro h
  |((first|apply bG|apply bH);simp only[yP,yQ,W2,hpR,bxR,arR,stP hs hr hne,zTh,zTg,yN,ze0,zLz,zMZ,YAK];refine zIB (q) (.inl rfl) ?_)
  |refine drA C_ok 4 0 ?_
  |skip)<;>simp only[h,↓zaL,↓zHC,WY,reduceIte,yA,yB,yC,yD,reduceCtorEq,yE,yF,W1,WS,hpR,bxR,arR,stP hs hr hne,zTh,zTg,yN,ze0,zLz,zMZ,YAK]
 refine zCN [7,0,2,6] ?_
 simp only[List.map_cons,List.map_nil,↓zaL,↓zHC,WY,reduceIte,yA,yB,yC,yD,reduceCtorEq,yE,yF,W1,WS]
 refine zJ1 1 (fun i:Nat=> [(7,.int .i64 i)]) (fun i=>hpR F s r v (lowS S lv (vs.take i)) lim cnt) (fun i=>i<=vs.length) (fun i=>vs.length-i) C_ok 0 rfl rfl (YAX _) (by decide) ?_
 rintro i hi
 simp only[List.drop_succ_cons,List.drop_zero,List.cons_append,List.nil_append]
 by_cases hlt:i<vs.length
 ·have hml:vs.getD i 0<(lowS S lv (vs.take i)).length:=by rw[zej];exact hlt' _ (by simp[hlt])
  have ht:=zel (S:=S) (lv:=lv) hlt
  have hset:((lowS S lv (vs.take i)).map embW).set (vs.getD i 0) (.agg [.int .i64 ((lowS S lv (vs.take i)).nd (vs.getD i 0)).kind,.int .i64 (kA ((lowS S lv (vs.take i)).nd (vs.getD i 0))),.int .i64 (kB ((lowS S lv (vs.take i)).nd (vs.getD i 0))),.int .i64 (if lv<((lowS S lv (vs.take i)).nd (vs.getD i 0)).level then lv else((lowS S lv (vs.take i)).nd (vs.getD i 0)).level),.int .i64 (lnk ((lowS S lv (vs.take i)).nd (vs.getD i 0)).link)])=(lowS S lv (vs.take (i+1))).map embW:=by
   rw[<-ht,zei,St.lv,List.map_set];rfl
  have hl2:(lowS S lv (vs.take (i+1))).length=(lowS S lv (vs.take i)).length:=by rw[zej,zej]
  generalize hX':lowS S lv (vs.take (i+1))=X' at*
  generalize hX:lowS S lv (vs.take i)=X at*
  have h:=YAN
  repeat' (first
   |(with_reducible first|apply bA|apply bB|apply bC|apply bD|apply bE|apply bF)<;>intro h
   |refine drA C_ok 4 0 ?_
   |skip)<;>simp only[h,↓zaL,↓zHC,WY,reduceIte,yA,yB,yC,yD,reduceCtorEq,yE,yF,W1,WS,hpR,bxR,arR,stP hs hr hne,zTh,zTg,yN,ze0,hlt,zMZ,YAK,zMY hlt,hml,zez hml,zeI,reW,hset]
  all_goals trace_state
  refine⟨i+1,hlt,by omega,zap ?_ ?_⟩
  ·rw[hX',hl2]
  ·simp only[WK,↓zaL,↓zHC,yA,reduceIte,yN,yO,yR,yP,yQ,yB,yC,zbX hlt hmax]
 ·have hi':i=vs.length:=by omega
  subst hi'
  have h:=YAN
  repeat' (first
   |(with_reducible first|apply bA|apply bB|apply bC|apply bD|apply bE|apply bF)<;>intro h
   |refine drA C_ok 4 0 ?_
   |skip)<;>simp only[h,↓zaL,↓zHC,WY,reduceIte,yA,yB,yC,yD,reduceCtorEq,yE,yF,W1,WS,hpR,bxR,arR,stP hs hr hne,zTh,zTg,yN,ze0,zMZ,YAK,Nat.lt_irrefl,Int.lt_irrefl,List.take_length,yO]
  all_goals exact⟨rfl,rfl⟩
end
end
section
theorem zem(lv:Int):∀(vs:List Nat) (S:St),Wf S->(∀x∈vs,5<=x/\x<S.length)->Wf (lowS S lv vs)/\Lv S (lowS S lv vs)
 | [],S,h,_=>⟨h,Lv.refl _⟩
 |x::vs,S,h,hv=>by
  obtain⟨h5,hx⟩:=hv x YAU
  obtain⟨h2,h3⟩:=zem lv vs (zei S lv x) (h.lv h5 hx) fun y hy=>by rw[zei,St.zN7];exact hv y (YAT _ hy)
  exact⟨h2,Lv.trans (Lv.lv hx) h3⟩
theorem zek(lv:Int){x y:Nat}:∀(vs:List Nat) (S:St),x<S.length->x ∉ vs->(∀z∈vs,z<S.length)->lowS (S.lk x y) lv vs=(lowS S lv vs).lk x y
 | [],S,_,_,_=>rfl
 |z::vs,S,hx,hn,hv=>by
  have hz:=hv z YAU
  have hne:z≠x:=fun e=>hn (by rw[e];exact YAU)
  have e1:zei (S.lk x y) lv z=(zei S lv z).lk x y:=by
   have e2:(S.lk x y).nd z=S.nd z:=by rw[St.zPy hx,if_neg hne]
   have e3:(zei S lv z).nd x=S.nd x:=by rw[zei,St.zPz hz,if_neg fun e=>hne e.symm]
   unfold zei at e3⊢
   rw[e2]
   generalize (if lv<(S.nd z).level then lv else(S.nd z).level)=V at*
   show(S.set x {S.nd x with link:=some y}).set z {(S.lk x y).nd z with level:=V}=(S.set z {S.nd z with level:=V}).set x {(S.lv z V).nd x with link:=some y}
   rw[e2,e3,List.set_comm _ _ (fun e=>hne e.symm)]
  show lowS (zei (S.lk x y) lv z) lv vs=(lowS (zei S lv z) lv vs).lk x y
  rw[e1,zek lv vs _ (by rw[zei,St.zN7];exact hx) (fun h=>hn (YAT _ h)) fun w hw=>by rw[zei,St.zN7];exact hv w (YAT _ hw)]
theorem zeg{S:St}(h:Wf S){x y:Nat}(h':Wf (S.lk x y))(hx:x<S.length)(hlx:S.link x=none)(hly:S.link y=none)(hne:y≠x):∀n,n<S.length->¬Rch S n x->∀l,(S.lk x y).look n l=S.look n l:=by
 refine h.ind (p:=fun n=>n<S.length->¬Rch S n x->∀l,(S.lk x y).look n l=S.look n l) fun n ih hn hr l=> ?_
 have hrn:S.root n≠x:=fun e=>hr (zTP.2 (.inl e.symm))
 have er:(S.lk x y).root n=S.root n:=by rw[Wf.zUL h h' hx hlx hly hne,if_neg hrn]
 have e2:(S.lk x y).kids (S.root n)=S.kids (S.root n):=by simp only[St.kids,St.zPy hx];rw[if_neg hrn]
 rw[h'.look_eq (by rw[St.zNZ];exact hn),h.look_eq hn,er,e2]
 split
 ·rfl
 ·have key:∀(ks:List Nat) (l:List Nat),(∀k∈ks,k∈S.kids (S.root n))->ks.foldl (fun l k=>(S.lk x y).look k l) l=ks.foldl (fun l k=>S.look k l) l:=by
   intro ks
   induction ks with
   |nil=>intro l _;rfl
   |cons k ks ihk=>
    intro l hk
    have hk1:=hk k YAU
    rw[List.foldl_cons,List.foldl_cons,ih k hk1 (h.zMa hk1) fun hk'=>hr (zTP.2 (.inr ⟨k,hk1,hk'⟩))]
    exact ihk _ fun j hj=>hk j (YAT _ hj)
  exact key _ _ fun k hk=>hk
def rlkS(S:St)(x y:Nat):St:=(lowS S (S.nd x).level (S.vars y)).lk x y
theorem zef{L:Mem}{rd:Int}(h:SI L rd){x y:Nat}(hx:x<L.length)(hy:y<L.length)(hlx:L.st.link x=none)(hk:L.st.kind x=6)(hly:L.st.link y=none)(hn:x ∉ L.st.all y):(zNL L rd x y).st=rlkS L.st x y:=by
 have hx':x<L.st.length:=by rw[Mem.zXR];exact hx
 have hy':y<L.st.length:=by rw[Mem.zXR];exact hy
 have hw:Wf (L.st.lk x y):=h.wf.lk hx' hy' hlx hk hly hn
 have hne:y≠x:=by
  rintro rfl
  exact hn ((h.wf.zPE hy').2 (zTP.2 (.inl (zUO hlx).symm)))
 have ev:(L.st.lk x y).vars y=L.st.vars y:=by
  have ea:(L.st.lk x y).all y=L.st.all y:=zeg h.wf hw hx' hlx hly hne y hy' (fun hr=>hn ((h.wf.zPE hy').2 hr)) []
  show((L.st.lk x y).all y).filter _=(L.st.all y).filter _
  rw[ea]
  refine List.filter_congr fun z hz=> ?_
  have:(L.st.lk x y).kind z=L.st.kind z:=by
   rw[St.kind,St.zPy hx'];split
   ·rename_i e;subst e;rfl
   ·rfl
  rw[this]
 have hv:x ∉ L.st.vars y:=fun hv=>hn (List.mem_filter.1 hv).1
 rw[zNL,zeh,zPY,zVV,zPY,ev,rlkS,zek _ _ _ hx' hv (zg5 h.wf hy')]
section
variable {F : List AObj} {s r v : Nat} {S : St} {lim cnt : Int}
theorem zpS(hs:s<F.length)(hr:r<F.length)(hne:r≠s)(n lv:Int)(h:(n<0\/(S.length:Int)<=n)\/lv<0):
 DCalls Try.prog 103 [.bptr s 0,.int .i64 n,.int .i64 lv] (hpR F s r v S lim cnt) (.int .i64 1) (hpR F s r v S lim cnt):=by
 have q:=zfk (v:=v) (S:=S) (lim:=lim) (cnt:=cnt) hs hr hne n
 unfold DCalls
 cases hi:(decide (0<=n)&&decide (n<S.length))with
 |false=>
  rw[hi]at q
  refine eD C_ok Try.func103 Try.results103 fun ok=> ?_
  have h:=YAN
  repeat' (first
   |(with_reducible first|apply bA|apply bB|apply bC|apply bD|apply bE|apply bF)<;>intro h
   |((first|apply bG|apply bH);simp only[yP,yQ,W2,hpR,bxR,arR,stP hs hr hne,zTh,zTg,yN,ze0];refine zIB (q) (.inl rfl) ?_)
   |skip)<;>simp only[h,↓zaL,↓zHC,WY,reduceIte,yA,yB,yC,yD,reduceCtorEq,yE,yF,W1,WS,hpR,bxR,arR,stP hs hr hne,zTh,zTg,yN,ze0]
 |true=>
  rw[hi]at q
  have hl:lv<0:=by
   rw[YAA,YAa,YAa]at hi
   rcases h with h|h
   ·omega
   ·exact h
  refine eD C_ok Try.func103 Try.results103 fun ok=> ?_
  have h:=YAN
  repeat' (first
   |(with_reducible first|apply bA|apply bB|apply bC|apply bD|apply bE|apply bF)<;>intro h
   |((first|apply bG|apply bH);simp only[yP,yQ,W2,hpR,bxR,arR,stP hs hr hne,zTh,zTg,yN,ze0,hl];refine zIB (q) (.inl rfl) ?_)
   |skip)<;>simp only[h,↓zaL,↓zHC,WY,reduceIte,yA,yB,yC,yD,reduceCtorEq,yE,yF,W1,WS,hpR,bxR,arR,stP hs hr hne,zTh,zTg,yN,ze0,hl]
theorem zf1(hs:s<F.length)(hr:r<F.length)(hne:r≠s)(hw:Wf S)(hL:S.length<=1000000)(n:Nat)(hn:n<S.length)(lv:Int)(hl:¬lv<0):
 DCalls Try.prog 103 [.bptr s 0,.int .i64 n,.int .i64 lv] (hpR F s r v S lim cnt) (.int .i64 0) (hpR F s r v (lowS S lv (S.vars n)) lim cnt):=by
 have q:=zfl (v:=v) (S:=S) (lim:=lim) (cnt:=cnt) hs hr hne hn
 have q2:=zf0 (v:=v) (lim:=lim) (cnt:=cnt) hs hr hne hw hL n hn lv
 unfold DCalls
 refine eD C_ok Try.func103 Try.results103 fun ok=> ?_
 have h:=YAN
 repeat' (first
  |(with_reducible first|apply bA|apply bB|apply bC|apply bD|apply bE|apply bF)<;>intro h
  |((first|apply bG|apply bH);simp only[yP,yQ,W2,hpR,bxR,arR,stP hs hr hne,zTh,zTg,yN,ze0,hl,zej];first|refine zIB (q) (.inl rfl) ?_|refine zIA (q2) (.inl rfl) (fun hb=>zeT (by first|exact hs|simp<;>omega) (by first|exact hr|simp<;>omega) hne hb) ?_)
  |skip)<;>simp only[h,↓zaL,↓zHC,WY,reduceIte,yA,yB,yC,yD,reduceCtorEq,yE,yF,W1,WS,hpR,bxR,arR,stP hs hr hne,zTh,zTg,yN,ze0,hl,zej]
theorem zpP(hs:s<F.length)(hr:r<F.length)(hne:r≠s)(hw:Wf S)(a n:Int)(h:(a<0\/(S.length:Int)<=a)\/(0<=a/\a<S.length/\S.kind (S.root a.toNat)≠6)):
 DCalls Try.prog 114 [.bptr s 0,.int .i64 a,.int .i64 n] (hpR F s r v S lim cnt) (.int .i64 1) (hpR F s r v S lim cnt):=by
 have q:∃k:Int,k≠6/\DCalls Try.prog 104 [.bptr s 0,.int .i64 a] (hpR F s r v S lim cnt) (.int .i64 k) (hpR F s r v S lim cnt):=by
  rcases h with h|⟨h0,h1,h6⟩
  ·exact⟨0,by decide,zfs hs hr hne a h⟩
  ·have e:((a.toNat:Nat):Int)=a:=by omega
   have:=zfq (v:=v) (S:=S) (lim:=lim) (cnt:=cnt) hs hr hne hw a.toNat (by omega)
   rw[e]at this
   exact⟨_,h6,this⟩
 obtain⟨k,hk,q⟩:=q
 have e:(k !=6)=true:=by rw[bne_iff_ne];exact hk
 unfold DCalls
 refine eD C_ok Try.func114 Try.results114 fun ok=> ?_
 have h:=YAN
 repeat' (first
  |(with_reducible first|apply bA|apply bB|apply bC|apply bD|apply bE|apply bF)<;>intro h
  |((first|apply bG|apply bH);simp only[yP,yQ,W2,hpR,bxR,arR,stP hs hr hne,zTh,zTg,yN,ze0,e];refine zIB (q) (.inl rfl) ?_)
  |refine drA C_ok 6 0 ?_
  |skip)<;>simp only[h,↓zaL,↓zHC,WY,reduceIte,yA,yB,yC,yD,reduceCtorEq,yE,yF,W1,WS,hpR,bxR,arR,stP hs hr hne,zTh,zTg,yN,ze0,e]
theorem zpQ(hs:s<F.length)(hr:r<F.length)(hne:r≠s)(hw:Wf S)(a:Nat)(ha:a<S.length)(n:Int)(h6:S.kind (S.root a)=6)(h:n<0\/(S.length:Int)<=n):
 DCalls Try.prog 114 [.bptr s 0,.int .i64 a,.int .i64 n] (hpR F s r v S lim cnt) (.int .i64 1) (hpR F s r v S lim cnt):=by
 have q1:=zfq (v:=v) (lim:=lim) (cnt:=cnt) hs hr hne hw a ha
 have q2:=zfj (v:=v) (S:=S) (lim:=lim) (cnt:=cnt) hs hr hne h
 have e:(S.kind (S.root a) !=6)=false:=by simp[h6]
 unfold DCalls
 refine eD C_ok Try.func114 Try.results114 fun ok=> ?_
 have h:=YAN
 repeat' (first
  |(with_reducible first|apply bA|apply bB|apply bC|apply bD|apply bE|apply bF)<;>intro h
  |((first|apply bG|apply bH);simp only[yP,yQ,W2,hpR,bxR,arR,stP hs hr hne,zTh,zTg,yN,ze0,e];first|refine zIB (q1) (.inl rfl) ?_|refine zIB (q2) (.inl rfl) ?_)
  |refine drA C_ok 6 0 ?_
  |skip)<;>simp only[h,↓zaL,↓zHC,WY,reduceIte,yA,yB,yC,yD,reduceCtorEq,yE,yF,W1,WS,hpR,bxR,arR,stP hs hr hne,zTh,zTg,yN,ze0,e]
theorem zpR(hs:s<F.length)(hr:r<F.length)(hne:r≠s)(hw:Wf S)(a n:Nat)(ha:a<S.length)(hn:n<S.length)(h6:S.kind (S.root a)=6)(h:S.root a=S.root n):
 DCalls Try.prog 114 [.bptr s 0,.int .i64 a,.int .i64 n] (hpR F s r v S lim cnt) (.int .i64 1) (hpR F s r v S lim cnt):=by
 have q1:=zfq (v:=v) (lim:=lim) (cnt:=cnt) hs hr hne hw a ha
 have q2:=zfl (v:=v) (S:=S) (lim:=lim) (cnt:=cnt) hs hr hne hn
 have q3:=zgO (v:=v) (lim:=lim) (cnt:=cnt) hs hr hne hw a ha
 have q4:=zgO (v:=v) (lim:=lim) (cnt:=cnt) hs hr hne hw n hn
 have e:(S.kind (S.root a) !=6)=false:=by simp[h6]
 rw[<-h]at q4
 unfold DCalls
 refine eD C_ok Try.func114 Try.results114 fun ok=> ?_
 have h:=YAN
 repeat' (first
  |(with_reducible first|apply bA|apply bB|apply bC|apply bD|apply bE|apply bF)<;>intro h
  |((first|apply bG|apply bH);simp only[yP,yQ,W2,hpR,bxR,arR,stP hs hr hne,zTh,zTg,yN,ze0,e,beq_self_eq_true];first|refine zIB (q1) (.inl rfl) ?_|refine zIB (q2) (.inl rfl) ?_|refine zIB (q3) (.inl rfl) ?_|refine zIB (q4) (.inl rfl) ?_)
  |refine drA C_ok 6 0 ?_
  |skip)<;>simp only[h,↓zaL,↓zHC,WY,reduceIte,yA,yB,yC,yD,reduceCtorEq,yE,yF,W1,WS,hpR,bxR,arR,stP hs hr hne,zTh,zTg,yN,ze0,e,beq_self_eq_true]
theorem zfx(hs:s<F.length)(hr:r<F.length)(hne:r≠s)(hw:Wf S)(hL:S.length<=1000000)(a n:Nat)(ha:a<S.length)(hn:n<S.length)(h6:S.kind (S.root a)=6)(h:S.root a≠S.root n)(hin:S.root a∈S.all n):
 DCalls Try.prog 114 [.bptr s 0,.int .i64 a,.int .i64 n] (hpR F s r v S lim cnt) (.int .i64 5) (hpR F s r v S lim cnt):=by
 have q1:=zfq (v:=v) (lim:=lim) (cnt:=cnt) hs hr hne hw a ha
 have q2:=zfl (v:=v) (S:=S) (lim:=lim) (cnt:=cnt) hs hr hne hn
 have q3:=zgO (v:=v) (lim:=lim) (cnt:=cnt) hs hr hne hw a ha
 have q4:=zgO (v:=v) (lim:=lim) (cnt:=cnt) hs hr hne hw n hn
 have q5:=zge (v:=v) (lim:=lim) (cnt:=cnt) hs hr hne hw hL a n ha hn
 rw[decide_eq_true hin]at q5
 have e:(S.kind (S.root a) !=6)=false:=by simp[h6]
 have e2:((S.root a:Int)==(S.root n:Int))=false:=by rw[YAZ];omega
 unfold DCalls
 refine eD C_ok Try.func114 Try.results114 fun ok=> ?_
 have h:=YAN
 repeat' (first
  |(with_reducible first|apply bA|apply bB|apply bC|apply bD|apply bE|apply bF)<;>intro h
  |((first|apply bG|apply bH);simp only[yP,yQ,W2,hpR,bxR,arR,stP hs hr hne,zTh,zTg,yN,ze0,e,e2];first|refine zIB (q1) (.inl rfl) ?_|refine zIB (q2) (.inl rfl) ?_|refine zIB (q3) (.inl rfl) ?_|refine zIB (q4) (.inl rfl) ?_|refine zIB (q5) (.inl rfl) ?_)
  |refine drA C_ok 6 0 ?_
  |skip)<;>simp only[h,↓zaL,↓zHC,WY,reduceIte,yA,yB,yC,yD,reduceCtorEq,yE,yF,W1,WS,hpR,bxR,arR,stP hs hr hne,zTh,zTg,yN,ze0,e,e2]
theorem zfy(hs:s<F.length)(hr:r<F.length)(hne:r≠s)(hw:Wf S)(hL:S.length<=1000000)(a n:Nat)(ha:a<S.length)(hn:n<S.length)(h6:S.kind (S.root a)=6)(h:S.root a≠S.root n)(hin:S.root a ∉ S.all n):
 DCalls Try.prog 114 [.bptr s 0,.int .i64 a,.int .i64 n] (hpR F s r v S lim cnt) (.int .i64 0) (hpR F s r v ((lowS S (S.nd (S.root a)).level (S.vars n)).lk (S.root a) (S.root n)) lim cnt):=by
 have q1:=zfq (v:=v) (lim:=lim) (cnt:=cnt) hs hr hne hw a ha
 have q2:=zfl (v:=v) (S:=S) (lim:=lim) (cnt:=cnt) hs hr hne hn
 have q3:=zgO (v:=v) (lim:=lim) (cnt:=cnt) hs hr hne hw a ha
 have q4:=zgO (v:=v) (lim:=lim) (cnt:=cnt) hs hr hne hw n hn
 have q5:=zge (v:=v) (lim:=lim) (cnt:=cnt) hs hr hne hw hL a n ha hn
 rw[decide_eq_false hin]at q5
 have q6:=zfu (v:=v) (lim:=lim) (cnt:=cnt) hs hr hne hw a ha
 rw[if_pos h6]at q6
 have q7:=zf0 (v:=v) (lim:=lim) (cnt:=cnt) hs hr hne hw hL n hn (S.nd (S.root a)).level
 obtain⟨hwX,hlX⟩:=zem (S.nd (S.root a)).level (S.vars n) S hw (zad hw hn)
 have hXl:=zej (S.nd (S.root a)).level (S.vars n) S
 have hrl:=hw.root_lt a ha
 have e:(S.kind (S.root a) !=6)=false:=by simp[h6]
 have e2:((S.root a:Int)==(S.root n:Int))=false:=by rw[YAZ];omega
 have era:=hlX.root a
 have ern:=hlX.root n
 generalize lowS S (S.nd (S.root a)).level (S.vars n)=X at*
 have hset:(X.map embW).set (S.root a) (.agg [.int .i64 (X.nd (S.root a)).kind,.int .i64 (kA (X.nd (S.root a))),.int .i64 (kB (X.nd (S.root a))),.int .i64 (X.nd (S.root a)).level,.int .i64 (S.root n:Nat)])=(X.lk (S.root a) (S.root n)).map embW:=by
  rw[St.lk,List.map_set];rfl
 have hX2:(X.lk (S.root a) (S.root n)).length=X.length:=St.zNZ
 have hrX:S.root a<X.length:=by omega
 unfold DCalls
 refine eD zdf Try.func114 Try.results114 fun ok=> ?_
 have h:=YAN
 repeat' (first
  |(with_reducible first|apply bA|apply bB|apply bC|apply bD|apply bE|apply bF)<;>intro h
  |((first|apply bG|apply bH);simp only[yP,yQ,W2,zdg,zde,hpR,bxR,arR,stP hs hr hne,zTh,zTg,yN,ze0,e,e2,hrX,zez hrX,zeI,reW,hset,hX2,yO];first|refine zIB (q1) (.inl rfl) ?_|refine zIB (q2) (.inl rfl) ?_|refine zIB (q3) (.inl rfl) ?_|refine zIB (q4) (.inl rfl) ?_|refine zIB (q5) (.inl rfl) ?_|refine zIB (q6) (.inl rfl) ?_|refine zIA (q7) (.inl rfl) (fun hb=>zeT (by first|exact hs|simp<;>omega) (by first|exact hr|simp<;>omega) hne hb) ?_|refine zIk rfl (era▸zgR (v:=v) (S:=X) (lim:=lim) (cnt:=cnt) hs hr hne hwX a (by omega) (by simp[stP hs hr hne,bxR,arR])) (.inl rfl) ?_|refine zIk rfl (ern▸zgR (v:=v) (S:=X) (lim:=lim) (cnt:=cnt) hs hr hne hwX n (by omega) (by simp[stP hs hr hne,bxR,arR])) (.inl rfl) ?_)
  |refine drA zdf 6 0 ?_
  |skip)<;>simp only[h,↓zaL,↓zHC,WY,reduceIte,yA,yB,yC,yD,reduceCtorEq,yE,yF,W1,WS,zdg,zde,hpR,bxR,arR,stP hs hr hne,zTh,zTg,yN,ze0,e,e2,hrX,zez hrX,zeI,reW,hset,hX2,yO]
 all_goals trace_state
end
end
section
def CRn:Cfg:= {C with inpl:=fun d=>d==22}
theorem zdo:zAb Try.prog CRn:=C_ok
theorem zdp(t:Nat):CRn.ty t=C.ty t:=rfl
theorem zdn(t:Nat):CRn.inpl t=(t==22):=rfl
theorem zgI(F:List AObj)(n:Int):zAA Try.prog 47 [.int .i64 n] F fun x G=>x= .bptr F.length 0/\G=F++ [bxR (F.length+1) 4 5 (zNK n) 0,arR 4 mem0.st]:=by
 have hb:F.length<=F.length:=YAV _
 have w1:IntKind.wrap .i64 1=1:=by decide
 have w2:IntKind.wrap .i64 2=2:=by decide
 have w3:IntKind.wrap .i64 3=3:=by decide
 have w4:IntKind.wrap .i64 4=4:=by decide
 have w5:IntKind.wrap .i64 5=5:=by decide
 have w6:IntKind.wrap .i64 6=6:=by decide
 refine eE zdo Try.func47 Try.results47 fun ok=> ?_
 have h:=YAN
 repeat' (first
  |(with_reducible first|apply bA|apply bB|apply bC|apply bD|apply bE|apply bF)<;>intro h
  |refine zJ9 ?_ zdo Try.f47.ntmps rfl (by decide)
  |skip)<;>simp only[h,↓zaL,↓zHC,WY,reduceIte,yA,yB,yC,yD,reduceCtorEq,yE,yF,W1,WS,W3,yH,yI,yJ,yK,yL,yM,zdp,zdn,yG,hb,w1,w2,w3,w4,w5,w6,zFY]
 all_goals rfl
def qua(F:List AObj)(s r p q:Nat)(x1 x2 x3 x4:AObj):List AObj:=stF ((F.set p x3).set q x4) s r x1 x2
structure QuaD (F:List AObj) (s r p q:Nat):Prop where
 hs:s<F.length
 hr:r<F.length
 hp:p<F.length
 hq:q<F.length
 d1:s≠r/\s≠p/\s≠q
 d2:r≠p/\r≠q/\p≠q
section
variable {F : List AObj} {s r p q : Nat}
theorem QuaD.app(h:QuaD F s r p q)(J:List AObj):QuaD (F++J) s r p q:=by
 obtain⟨h1,h2,h3,h4,d1,d2⟩:=h
 exact⟨by simp;omega,by simp;omega,by simp;omega,by simp;omega,d1,d2⟩
@[simp] theorem zfN {x1 x2 x3 x4:AObj}:(qua F s r p q x1 x2 x3 x4).length=F.length:=by simp[qua]
theorem zfK(h:QuaD F s r p q)(J:List AObj){x1 x2 x3 x4:AObj}:qua F s r p q x1 x2 x3 x4++J=qua (F++J) s r p q x1 x2 x3 x4:=by
 obtain⟨h1,h2,h3,h4,_⟩:=h
 unfold qua stF
 rw[zCW (F:=F) h3,zCW (by simpa using h4),zCW (by simpa using h1),zCW (by simpa using h2)]
theorem zfM(h:QuaD F s r p q){x1 x2 x3 x4:AObj}:
 (qua F s r p q x1 x2 x3 x4)[s]?=some x1/\(qua F s r p q x1 x2 x3 x4)[r]?=some x2/\(qua F s r p q x1 x2 x3 x4)[p]?=some x3/\(qua F s r p q x1 x2 x3 x4)[q]?=some x4:=by
 obtain⟨h1,h2,h3,h4,⟨a1,a2,a3⟩,b1,b2,b3⟩:=h
 unfold qua stF
 refine⟨?_,?_,?_,?_⟩
 ·rw[zVk (by omega),zVl (by simpa using h1)]
 ·rw[zVl (by simpa using h2)]
 ·rw[zVk (by omega),zVk (by omega),zVk (by omega),zVl h3]
 ·rw[zVk (by omega),zVk (by omega),zVl (by simpa using h4)]
theorem zfQ(h:QuaD F s r p q){G:List AObj}{x1 x2 x3 x4 y:AObj}:
 (qua G s r p q x1 x2 x3 x4).set s y=qua G s r p q y x2 x3 x4/\(qua G s r p q x1 x2 x3 x4).set r y=qua G s r p q x1 y x3 x4/\(qua G s r p q x1 x2 x3 x4).set p y=qua G s r p q x1 x2 y x4/\(qua G s r p q x1 x2 x3 x4).set q y=qua G s r p q x1 x2 x3 y:=by
 obtain⟨h1,h2,h3,h4,⟨a1,a2,a3⟩,b1,b2,b3⟩:=h
 unfold qua
 refine⟨zXI (fun e=>a1 e.symm),zXH,?_,?_⟩
 ·unfold stF
  rw[List.set_comm _ _ b1,List.set_comm _ _ a2,List.set_comm (i:=q) (j:=p) _ _ (fun e=>b3 e.symm),List.set_set]
 ·unfold stF
  rw[List.set_comm _ _ b2,List.set_comm _ _ a3,List.set_set]
theorem zfP{i:Nat}(h1:s≠i)(h2:r≠i)(h3:p≠i)(h4:q≠i){x1 x2 x3 x4:AObj}:(qua F s r p q x1 x2 x3 x4)[i]?=F[i]?:=by
 unfold qua stF
 rw[zVk h2,zVk h1,zVk h4,zVk h3]
theorem zfO{i:Nat}(h1:s≠i)(h2:r≠i)(h3:p≠i)(h4:q≠i){x1 x2 x3 x4 y:AObj}:(qua F s r p q x1 x2 x3 x4).set i y=qua (F.set i y) s r p q x1 x2 x3 x4:=by
 unfold qua stF
 rw[List.set_comm _ _ h2,List.set_comm _ _ h1,List.set_comm _ _ h4,List.set_comm _ _ h3]
theorem quaP(h:QuaD F s r p q):
 (∀x1 x2 x3 x4,(qua F s r p q x1 x2 x3 x4).length=F.length)/\(∀L x1 x2 x3 x4,(qua (F++L) s r p q x1 x2 x3 x4).length=F.length+L.length)/\
 (∀L x1 x2 x3 x4,qua F s r p q x1 x2 x3 x4++L=qua (F++L) s r p q x1 x2 x3 x4)/\(∀L M x1 x2 x3 x4,qua (F++L) s r p q x1 x2 x3 x4++M=qua (F++(L++M)) s r p q x1 x2 x3 x4)/\
 (∀x1 x2 x3 x4,(qua F s r p q x1 x2 x3 x4)[s]?=some x1)/\(∀L x1 x2 x3 x4,(qua (F++L) s r p q x1 x2 x3 x4)[s]?=some x1)/\
 (∀x1 x2 x3 x4,(qua F s r p q x1 x2 x3 x4)[r]?=some x2)/\(∀L x1 x2 x3 x4,(qua (F++L) s r p q x1 x2 x3 x4)[r]?=some x2)/\
 (∀x1 x2 x3 x4,(qua F s r p q x1 x2 x3 x4)[p]?=some x3)/\(∀L x1 x2 x3 x4,(qua (F++L) s r p q x1 x2 x3 x4)[p]?=some x3)/\
 (∀x1 x2 x3 x4,(qua F s r p q x1 x2 x3 x4)[q]?=some x4)/\(∀L x1 x2 x3 x4,(qua (F++L) s r p q x1 x2 x3 x4)[q]?=some x4)/\
 (∀G x1 x2 x3 x4 y,(qua G s r p q x1 x2 x3 x4).set s y=qua G s r p q y x2 x3 x4)/\(∀G x1 x2 x3 x4 y,(qua G s r p q x1 x2 x3 x4).set r y=qua G s r p q x1 y x3 x4)/\
 (∀G x1 x2 x3 x4 y,(qua G s r p q x1 x2 x3 x4).set p y=qua G s r p q x1 x2 y x4)/\(∀G x1 x2 x3 x4 y,(qua G s r p q x1 x2 x3 x4).set q y=qua G s r p q x1 x2 x3 y)/\
 (∀L x1 x2 x3 x4,(qua (F++L) s r p q x1 x2 x3 x4)[F.length]?=L[0]?)/\(∀L j x1 x2 x3 x4,(qua (F++L) s r p q x1 x2 x3 x4)[F.length+j]?=L[j]?)/\
 (∀L x1 x2 x3 x4 y,(qua (F++L) s r p q x1 x2 x3 x4).set F.length y=qua (F++L.set 0 y) s r p q x1 x2 x3 x4)/\(∀L j x1 x2 x3 x4 y,(qua (F++L) s r p q x1 x2 x3 x4).set (F.length+j) y=qua (F++L.set j y) s r p q x1 x2 x3 x4)/\
 (∀x1 x2 x3 x4,(qua F s r p q x1 x2 x3 x4).take F.length=qua F s r p q x1 x2 x3 x4)/\(∀L x1 x2 x3 x4,(qua (F++L) s r p q x1 x2 x3 x4).take F.length=qua F s r p q x1 x2 x3 x4)/\
 (∀x1 x2 x3 x4,((F.length<=(qua F s r p q x1 x2 x3 x4).length)=True))/\(∀L x1 x2 x3 x4,((F.length<=(qua (F++L) s r p q x1 x2 x3 x4).length)=True)):=by
 have h1:=h.hs
 have h2:=h.hr
 have h3:=h.hp
 have h4:=h.hq
 refine⟨fun _ _ _ _=>zfN,fun L _ _ _ _=>by rw[zfN,YAJ],fun J _ _ _ _=>zfK h J,fun J M _ _ _ _=>by rw[zfK (h.app J),List.append_assoc],
  fun _ _ _ _=>(zfM h).1,fun J _ _ _ _=>(zfM (h.app J)).1,fun _ _ _ _=>(zfM h).2.1,fun J _ _ _ _=>(zfM (h.app J)).2.1,fun _ _ _ _=>(zfM h).2.2.1,fun J _ _ _ _=>(zfM (h.app J)).2.2.1,
  fun _ _ _ _=>(zfM h).2.2.2,fun J _ _ _ _=>(zfM (h.app J)).2.2.2,
  fun _ _ _ _ _ _=>(zfQ h).1,fun _ _ _ _ _ _=>(zfQ h).2.1,fun _ _ _ _ _ _=>(zfQ h).2.2.1,fun _ _ _ _ _ _=>(zfQ h).2.2.2,fun J _ _ _ _=> ?_,fun J j _ _ _ _=> ?_,fun J _ _ _ _ y=> ?_,fun J j _ _ _ _ y=> ?_,
  fun _ _ _ _=> ?_,fun J _ _ _ _=> ?_,fun _ _ _ _=>by simp,fun J _ _ _ _=>by simp⟩
 ·rw[zfP (by omega) (by omega) (by omega) (by omega),zCT rfl]
 ·rw[zfP (by omega) (by omega) (by omega) (by omega),zCU rfl]
 ·rw[zfO (by omega) (by omega) (by omega) (by omega),zCX rfl]
 ·rw[zfO (by omega) (by omega) (by omega) (by omega),zCY rfl]
 ·rw[List.take_of_length_le];rw[zfN];exact YAV _
 ·rw[<-zfK h J,List.take_left' zfN]
def dH(F:List AObj)(s r p q v:Nat)(L:Mem)(lim cnt rd:Int)(u:Nat)(S:St)(lim2 cnt2:Int):List AObj:=qua F s r p q (bxS r v L.length lim cnt rd) (arS v L) (bxR q u S.length lim2 cnt2) (arR u S)
theorem dH_R(hD:QuaD F s r p q)(v:Nat)(L:Mem)(lim cnt rd:Int)(u:Nat)(S:St)(lim2 cnt2:Int):dH F s r p q v L lim cnt rd u S lim2 cnt2=hpR ((F.set s (bxS r v L.length lim cnt rd)).set r (arS v L)) p q u S lim2 cnt2:=by
 obtain⟨_,_,_,_,⟨a1,a2,a3⟩,b1,b2,b3⟩:=hD
 unfold dH hpR qua stF
 rw[List.set_comm (i:=q) (j:=s) _ _ (fun e=>a3 e.symm),List.set_comm (i:=p) (j:=s) _ _ (fun e=>a2 e.symm),List.set_comm (i:=q) (j:=r) _ _ (fun e=>b2 e.symm),List.set_comm (i:=p) (j:=r) _ _ (fun e=>b1 e.symm)]
theorem dS{f:Nat}{args:List AV}{res:AV}{v v':Nat}{L L':Mem}{lim cnt rd lim' cnt' rd':Int}(h:∀G:List AObj,s<G.length->r<G.length->DCalls Try.prog f args (hpS G s r v L lim cnt rd) res (hpS G s r v' L' lim' cnt' rd'))
 (hD:QuaD F s r p q) (u:Nat) (S:St) (lim2 cnt2:Int):DCalls Try.prog f args (dH F s r p q v L lim cnt rd u S lim2 cnt2) res (dH F s r p q v' L' lim' cnt' rd' u S lim2 cnt2):=
 h _ (by simpa using hD.hs) (by simpa using hD.hr)
theorem dR{f:Nat}{args:List AV}{res:AV}{u u':Nat}{S S':St}{lim2 cnt2 lim' cnt':Int}(h:∀G:List AObj,p<G.length->q<G.length->DCalls Try.prog f args (hpR G p q u S lim2 cnt2) res (hpR G p q u' S' lim' cnt'))
 (hD:QuaD F s r p q) (v:Nat) (L:Mem) (lim cnt rd:Int):DCalls Try.prog f args (dH F s r p q v L lim cnt rd u S lim2 cnt2) res (dH F s r p q v L lim cnt rd u' S' lim' cnt'):=by
 rw[dH_R hD,dH_R hD]
 exact h _ (by simpa using hD.hp) (by simpa using hD.hq)
theorem zfL(hD:QuaD F s r p q){b:Nat}{x1 x2 x3 x4 y1 y2 y3 y4:AObj}(h1:x1.bel b=true->y1.bel b=true)(h2:y2.bel b=true)(h3:x3.bel b=true->y3.bel b=true)(h4:y4.bel b=true)
 (hb:∀x∈(qua F s r p q x1 x2 x3 x4).take b,x.bel b=true):∀x∈(qua F s r p q y1 y2 y3 y4).take b,x.bel b=true:=by
 have hs:=hD.hs
 have hr:=hD.hr
 have hp:=hD.hp
 have hq:=hD.hq
 have k1:=zXA (F:=(F.set p x3).set q x4) (s:=s) (r:=r) (by simpa using hs) (by simpa using hr) (fun e=>hD.d1.1 e.symm) (fun _ h=>h1 h) h2 hb
 have e1:∀y3 y4,qua F s r p q y1 y2 y3 y4=stF ((F.set s y1).set r y2) p q y3 y4:=fun y3 y4=>by
  obtain⟨_,_,_,_,⟨a1,a2,a3⟩,b1,b2,b3⟩:=hD
  unfold qua stF
  rw[List.set_comm (i:=q) (j:=s) _ _ (fun e=>a3 e.symm),List.set_comm (i:=p) (j:=s) _ _ (fun e=>a2 e.symm),List.set_comm (i:=q) (j:=r) _ _ (fun e=>b2 e.symm),List.set_comm (i:=p) (j:=r) _ _ (fun e=>b1 e.symm)]
 change∀x∈(qua F s r p q y1 y2 x3 x4).take b,x.bel b=true at k1
 rw[e1]at k1⊢
 exact zXA (by simpa using hp) (by simpa using hq) (fun e=>hD.d2.2.2 e.symm) (fun _ h=>h3 h) h4 k1
theorem dB(hD:QuaD F s r p q){b v v' v2 v2' u u' u2 u2' n n' m m':Nat}{L L':Mem}{S S':St}{lim cnt rd lim2 cnt2 lim' cnt' rd' lim2' cnt2':Int}(hb:∀x∈(qua F s r p q (bxS r v n lim cnt rd) (arS v2 L) (bxR q u m lim2 cnt2) (arR u2 S)).take b,x.bel b=true):
 ∀x∈(qua F s r p q (bxS r v' n' lim' cnt' rd') (arS v2' L') (bxR q u' m' lim2' cnt2') (arR u2' S')).take b,x.bel b=true:=
 zfL hD (fun h=>zD1 h) (zCa _ _ _) (fun h=>zeB h) (zd4 _ _ _) hb
end
end
end Go.Proofs.Ytdngjamjccjlmaa
