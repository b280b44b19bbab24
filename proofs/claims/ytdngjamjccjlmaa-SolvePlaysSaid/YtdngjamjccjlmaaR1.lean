/- The document's store, walked: what is a node, its root, its kind, its kids, its level. No condition. -/
import Derived.Test.YtdngjamjccjlmaaPSb
import Derived.Test.YtdngjamjccjlmaaPWa
set_option linter.unusedSimpArgs false
set_option linter.unusedVariables false
set_option maxHeartbeats 4000000
set_option maxRecDepth 100000
namespace Go.Proofs.Ytdngjamjccjlmaa
open Go Go.Ab
open Nat renaming reduceEqDiff -> yA, reduceAdd -> yB, reduceLT -> yC, reduceLeDiff -> yD, reduceMul -> yE, reducePow -> yF, reduceBEq -> yG
open Int renaming reduceAdd -> yH, reduceLT -> yI, reduceToNat -> yJ, reduceBEq -> yK, reduceBNe -> yL, reduceLE -> yM
attribute [local irreducible] zA0 zAA zAa zAi zAj GoIf GoGb zAk GoO GoD GoX GoDX GoG GoDG GoGv zAl Go zAB
def kA(d:Nd):Nat:=d.kids.headD 0
def kB(d:Nd):Nat:=d.kids.getD 1 (kA d)
def embW(d:Nd):AV:= .agg [.int .i64 d.kind,.int .i64 (kA d),.int .i64 (kB d),.int .i64 d.level,.int .i64 (lnk d.link)]
theorem zeI(d:Nd):cellsOf (embW d)=[.int .i64 d.kind,.int .i64 (kA d),.int .i64 (kB d),.int .i64 d.level,.int .i64 (lnk d.link)]:=rfl
theorem zeJ(d:Nd):(embW d).solid=true:=rfl
theorem zeH(m:Nat)(d:Nd):(embW d).bel m=true:=by simp only[embW,AV.bel,AV.belL,Bool.and_self]
theorem zey(m:Nat)(S:St):AV.belL m (S.map embW)=true:=by
 induction S with
 |nil=>rfl
 |cons a l ih=>simp only[List.map_cons,AV.belL,zeH,ih,Bool.and_self]
theorem ze0(S:St):(S.map embW).length=S.length:=by simp
theorem zez{S:St}{i:Nat}(h:i<S.length):(S.map embW).getD i .any=embW (S.nd i):=by simp[h,St.nd]
theorem reW(d:Nd)(cs:List AV):zTS (embW d) cs= .agg cs:=rfl
def bxR(r v n:Nat)(lim cnt:Int):AObj:= .box [.int .i64 lim,.int .i64 cnt,.ms r v n]
def arR(v:Nat)(S:St):AObj:= .arr v 5 (S.map embW)
theorem zd4(m v:Nat)(S:St):(arR v S).bel m=true:=by simp only[arR,AObj.bel,zey]
theorem zeB{m r v n v' n':Nat}{lim cnt lim' cnt':Int}(h:(bxR r v n lim cnt).bel m=true):(bxR r v' n' lim' cnt').bel m=true:=by
 simp only[bxR,AObj.bel,AV.belL,AV.bel,YAA,YAa]at h⊢
 exact h
def hpR(F:List AObj)(s r v:Nat)(S:St)(lim cnt:Int):List AObj:=stF F s r (bxR r v S.length lim cnt) (arR v S)
theorem zeT{F:List AObj}{s r v v' b:Nat}{S S':St}{lim cnt lim' cnt':Int}(hs:s<F.length)(hr:r<F.length)(hne:r≠s)
 (h:∀x∈(hpR F s r v S lim cnt).take b,x.bel b=true):∀x∈(hpR F s r v' S' lim' cnt').take b,x.bel b=true:=
 zXA hs hr hne (fun _ h=>zeB h) (zd4 _ _ _) h
def CR:Cfg:= {C with rdr:=fun f=>f==102||f==104||f==107||f==109||f==101}
theorem zdf:zAb Try.prog CR:=C_ok
theorem zdg(t:Nat):CR.ty t=C.ty t:=rfl
theorem zde(t:Nat):CR.inpl t=false:=rfl
section
variable {F : List AObj} {s r v : Nat} {S : St} {lim cnt : Int}
theorem zfk(hs:s<F.length)(hr:r<F.length)(hne:r≠s)(n:Int):zAd Try.prog 101 [.bptr s 0,.int .i64 n] (hpR F s r v S lim cnt) (.bool (decide (0<=n)&&decide (n<S.length))) (hpR F s r v S lim cnt):=by
 unfold zAd
 refine zBN C_ok Try.func101 rfl (by decide) (YAL rfl) (by decide) fun ok=> ?_
 rw[Try.results101]
 have h:=YAN
 repeat' (first
  |(with_reducible first|apply bA|apply bB|apply bC|apply bD|apply bE|apply bF)<;>intro h
  |skip)<;>simp only[h,↓zaL,↓zHC,WY,reduceIte,yA,yB,yC,yD,reduceCtorEq,yE,yF,W1,WS,hpR,bxR,arR,stP hs hr hne,zTh,zTg,AV.bel,ze0]
theorem zfl(hs:s<F.length)(hr:r<F.length)(hne:r≠s){n:Nat}(hn:n<S.length):zAd Try.prog 101 [.bptr s 0,.int .i64 n] (hpR F s r v S lim cnt) (.bool true) (hpR F s r v S lim cnt):=by
 have:=zfk (v:=v) (S:=S) (lim:=lim) (cnt:=cnt) hs hr hne (n:Int)
 rwa[show(decide (0<=(n:Int))&&decide ((n:Int)<S.length))=true by simp;omega]at this
theorem zfj(hs:s<F.length)(hr:r<F.length)(hne:r≠s){n:Int}(hn:n<0\/(S.length:Int)<=n):zAd Try.prog 101 [.bptr s 0,.int .i64 n] (hpR F s r v S lim cnt) (.bool false) (hpR F s r v S lim cnt):=by
 have:=zfk (v:=v) (S:=S) (lim:=lim) (cnt:=cnt) hs hr hne n
 rwa[show(decide (0<=n)&&decide (n<S.length))=false by rw[Bool.and_eq_false_iff,decide_eq_false_iff_not,decide_eq_false_iff_not];omega]at this
theorem zgO(hs:s<F.length)(hr:r<F.length)(hne:r≠s)(hw:Wf S)(n:Nat)(hn:n<S.length):zAd Try.prog 102 [.bptr s 0,.int .i64 n] (hpR F s r v S lim cnt) (.int .i64 (S.root n)) (hpR F s r v S lim cnt):=by
 have hi:=zfl (v:=v) (S:=S) (lim:=lim) (cnt:=cnt) hs hr hne hn
 obtain⟨ρ,hρ⟩:=hw.rk
 unfold zAd
 refine zBN C_ok Try.func102 rfl (by decide) (YAL rfl) (by decide) fun ok=> ?_
 rw[Try.results102]
 have h:=YAN
 repeat' (first
  |(with_reducible first|apply bA|apply bB|apply bC|apply bD|apply bE|apply bF)<;>intro h
  |((first|apply bG|apply bH);simp only[AV.norm,AV.zQg,W2,hpR,bxR,arR,stP hs hr hne,zTh,zTg,AV.bel,ze0];first|refine zIB (hi) (.inl rfl) ?_)
  |skip)<;>simp only[h,↓zaL,↓zHC,WY,reduceIte,yA,yB,yC,yD,reduceCtorEq,yE,yF,W1,WS,hpR,bxR,arR,stP hs hr hne,zTh,zTg,AV.bel,ze0]
 refine zCN [1,0] ?_
 simp only[List.map_cons,List.map_nil,↓zaL,↓zHC,WY,reduceIte,yA,yB,yC,yD,reduceCtorEq,yE,yF,W1,WS]
 refine zJ1 1 (fun m:Nat=> [(1,.int .i64 m)]) (fun _=>_) (fun m=>m<S.length/\S.root m=S.root n) ρ C_ok n rfl rfl ⟨hn,rfl⟩ (by decide) ?_
 rintro m ⟨hm,hroot⟩
 simp only[List.drop_succ_cons,List.drop_zero,List.cons_append,List.nil_append]
 cases hl:S.link m with
 |none=>
  have e:lnk (S.nd m).link= -1:=by show lnk (S.link m)= -1;rw[hl];rfl
  have e0:((-1:Int)≥0)=False:=by simp
  rw[<-hroot,zUO hl]
  have h:=YAN
  repeat' (first
   |(with_reducible first|apply bA|apply bB|apply bC|apply bD|apply bE|apply bF)<;>intro h
   |skip)<;>simp only[h,↓zaL,↓zHC,WY,reduceIte,yA,yB,yC,yD,reduceCtorEq,yE,yF,W1,WS,hpR,bxR,arR,stP hs hr hne,zTh,zTg,AV.bel,ze0,hm,zez hm,zeI,e,e0]
 |some j=>
  have e:lnk (S.nd m).link=(j:Int):=by show lnk (S.link m)=_;rw[hl];rfl
  have e0:((j:Int)≥0)=True:=by simp
  have hj:=hw.link_lt m j hl
  have h:=YAN
  repeat' (first
   |(with_reducible first|apply bA|apply bB|apply bC|apply bD|apply bE|apply bF)<;>intro h
   |skip)<;>simp only[h,↓zaL,↓zHC,WY,reduceIte,yA,yB,yC,yD,reduceCtorEq,yE,yF,W1,WS,hpR,bxR,arR,stP hs hr hne,zTh,zTg,AV.bel,ze0,hm,zez hm,zeI,e,e0]
  refine⟨j,⟨hj,by rw[<-hroot,hw.zUR hl]⟩,hρ.link m j hl,zap rfl ?_⟩
  simp only[WK,↓zaL,↓zHC,yA,reduceIte,AV.bel,AV.belL,AObj.bel,AV.norm,AV.zQg,yB,yC]
theorem zgQ(hs:s<F.length)(hr:r<F.length)(hne:r≠s)(n:Int)(hn:n<0\/(S.length:Int)<=n):zAd Try.prog 102 [.bptr s 0,.int .i64 n] (hpR F s r v S lim cnt) (.int .i64 (-1)) (hpR F s r v S lim cnt):=by
 have hi:=zfj (v:=v) (S:=S) (lim:=lim) (cnt:=cnt) hs hr hne hn
 unfold zAd
 refine zBN C_ok Try.func102 rfl (by decide) (YAL rfl) (by decide) fun ok=> ?_
 rw[Try.results102]
 have h:=YAN
 repeat' (first
  |(with_reducible first|apply bA|apply bB|apply bC|apply bD|apply bE|apply bF)<;>intro h
  |((first|apply bG|apply bH);simp only[AV.norm,AV.zQg,W2,hpR,bxR,arR,stP hs hr hne,zTh,zTg,AV.bel,ze0];first|refine zIB (hi) (.inl rfl) ?_)
  |skip)<;>simp only[h,↓zaL,↓zHC,WY,reduceIte,yA,yB,yC,yD,reduceCtorEq,yE,yF,W1,WS,hpR,bxR,arR,stP hs hr hne,zTh,zTg,AV.bel,ze0]
theorem zgR{e:Nat->AV}{b m:Nat}{G:List AObj}(hs:s<F.length)(hr:r<F.length)(hne:r≠s)(hw:Wf S)(n:Nat)(hn:n<S.length)(hG:G[s]?=some (bxR r v S.length lim cnt)/\G[r]?=some (arR v S)):zA5 Try.prog 102 [.bptr s 0,.int .i64 n] (.int .i64 (S.root n)) (FS e G b m).obj:=
 qcalls_st (s:=s) (r:=r) (bx:=bxR r v S.length lim cnt) (ar:=arR v S) (fun F' h1 h2=>zgO h1 h2 hne hw n hn) (by rw[zIP];exact hG.1) (by rw[zIP];exact hG.2) rfl rfl
theorem zfq(hs:s<F.length)(hr:r<F.length)(hne:r≠s)(hw:Wf S)(n:Nat)(hn:n<S.length):zAd Try.prog 104 [.bptr s 0,.int .i64 n] (hpR F s r v S lim cnt) (.int .i64 (S.kind (S.root n))) (hpR F s r v S lim cnt):=by
 have hi:=zfl (v:=v) (S:=S) (lim:=lim) (cnt:=cnt) hs hr hne hn
 have hrl:=hw.root_lt n hn
 have hk:(S.nd (S.root n)).kind=S.kind (S.root n):=rfl
 unfold zAd
 refine zBN zdf Try.func104 rfl (by decide) (YAL rfl) (by decide) fun ok=> ?_
 rw[Try.results104]
 have h:=YAN
 repeat' (first
  |(with_reducible first|apply bA|apply bB|apply bC|apply bD|apply bE|apply bF)<;>intro h
  |((first|apply bG|apply bH);simp only[AV.norm,AV.zQg,W2,zdg,zde,hpR,bxR,arR,stP hs hr hne,zTh,zTg,AV.bel,ze0,hrl,zez hrl,zeI,hk];first|refine zIB (hi) (.inl rfl) ?_|refine zIk rfl (zgR (v:=v) (S:=S) (lim:=lim) (cnt:=cnt) hs hr hne hw n hn (by simp[stP hs hr hne,bxR,arR])) (.inl rfl) ?_)
  |refine zKh (id:=3) zdf (fun _=>trivial) mixed 0 Try.f104.ntmps (by first|(simp;done)|(simp;omega)) rfl (by kernel_rfl) (by decide) ?_
  |skip)<;>simp only[h,↓zaL,↓zHC,WY,reduceIte,yA,yB,yC,yD,reduceCtorEq,yE,yF,W1,WS,zdg,zde,hpR,bxR,arR,stP hs hr hne,zTh,zTg,AV.bel,ze0,hrl,zez hrl,zeI,hk]
theorem zfs(hs:s<F.length)(hr:r<F.length)(hne:r≠s)(n:Int)(hn:n<0\/(S.length:Int)<=n):zAd Try.prog 104 [.bptr s 0,.int .i64 n] (hpR F s r v S lim cnt) (.int .i64 0) (hpR F s r v S lim cnt):=by
 have hi:=zfj (v:=v) (S:=S) (lim:=lim) (cnt:=cnt) hs hr hne hn
 unfold zAd
 refine zBN zdf Try.func104 rfl (by decide) (YAL rfl) (by decide) fun ok=> ?_
 rw[Try.results104]
 have h:=YAN
 repeat' (first
  |(with_reducible first|apply bA|apply bB|apply bC|apply bD|apply bE|apply bF)<;>intro h
  |((first|apply bG|apply bH);simp only[AV.norm,AV.zQg,W2,zdg,zde,hpR,bxR,arR,stP hs hr hne,zTh,zTg,AV.bel,ze0];first|refine zIB (hi) (.inl rfl) ?_)
  |refine zKh (id:=3) zdf (fun _=>trivial) mixed 0 Try.f104.ntmps (by first|(simp;done)|(simp;omega)) rfl (by kernel_rfl) (by decide) ?_
  |skip)<;>simp only[h,↓zaL,↓zHC,WY,reduceIte,yA,yB,yC,yD,reduceCtorEq,yE,yF,W1,WS,zdg,zde,hpR,bxR,arR,stP hs hr hne,zTh,zTg,AV.bel,ze0]
theorem zfu(hs:s<F.length)(hr:r<F.length)(hne:r≠s)(hw:Wf S)(n:Nat)(hn:n<S.length):zAd Try.prog 109 [.bptr s 0,.int .i64 n] (hpR F s r v S lim cnt) (.int .i64 (if S.kind (S.root n)=6 then(S.nd (S.root n)).level else-1)) (hpR F s r v S lim cnt):=by
 have hk:=zfq (v:=v) (lim:=lim) (cnt:=cnt) hs hr hne hw n hn
 have hrl:=hw.root_lt n hn
 unfold zAd
 by_cases h6:S.kind (S.root n)=6
 ·rw[if_pos h6]
  have e:(S.kind (S.root n) !=6)=false:=by simp[h6]
  refine zBN zdf Try.func109 rfl (by decide) (YAL rfl) (by decide) fun ok=> ?_
  rw[Try.results109]
  have h:=YAN
  repeat' (first
   |(with_reducible first|apply bA|apply bB|apply bC|apply bD|apply bE|apply bF)<;>intro h
   |((first|apply bG|apply bH);simp only[AV.norm,AV.zQg,W2,zdg,zde,hpR,bxR,arR,stP hs hr hne,zTh,zTg,AV.bel,ze0,hrl,zez hrl,zeI,e];first|refine zIB (hk) (.inl rfl) ?_|refine zIk rfl (zgR (v:=v) (S:=S) (lim:=lim) (cnt:=cnt) hs hr hne hw n hn (by simp[stP hs hr hne,bxR,arR])) (.inl rfl) ?_)
   |refine zKh (id:=3) zdf (fun _=>trivial) mixed 0 Try.f109.ntmps (by first|(simp;done)|(simp;omega)) rfl (by kernel_rfl) (by decide) ?_
   |skip)<;>simp only[h,↓zaL,↓zHC,WY,reduceIte,yA,yB,yC,yD,reduceCtorEq,yE,yF,W1,WS,zdg,zde,hpR,bxR,arR,stP hs hr hne,zTh,zTg,AV.bel,ze0,hrl,zez hrl,zeI,e]
 ·rw[if_neg h6]
  have e:(S.kind (S.root n) !=6)=true:=by simp[h6]
  refine zBN zdf Try.func109 rfl (by decide) (YAL rfl) (by decide) fun ok=> ?_
  rw[Try.results109]
  have h:=YAN
  repeat' (first
   |(with_reducible first|apply bA|apply bB|apply bC|apply bD|apply bE|apply bF)<;>intro h
   |((first|apply bG|apply bH);simp only[AV.norm,AV.zQg,W2,zdg,zde,hpR,bxR,arR,stP hs hr hne,zTh,zTg,AV.bel,ze0,e];first|refine zIB (hk) (.inl rfl) ?_)
   |refine zKh (id:=3) zdf (fun _=>trivial) mixed 0 Try.f109.ntmps (by first|(simp;done)|(simp;omega)) rfl (by kernel_rfl) (by decide) ?_
   |skip)<;>simp only[h,↓zaL,↓zHC,WY,reduceIte,yA,yB,yC,yD,reduceCtorEq,yE,yF,W1,WS,zdg,zde,hpR,bxR,arR,stP hs hr hne,zTh,zTg,AV.bel,ze0,e]
theorem zfv(hs:s<F.length)(hr:r<F.length)(hne:r≠s)(n:Int)(hn:n<0\/(S.length:Int)<=n):zAd Try.prog 109 [.bptr s 0,.int .i64 n] (hpR F s r v S lim cnt) (.int .i64 (-1)) (hpR F s r v S lim cnt):=by
 have hk:=zfs (v:=v) (S:=S) (lim:=lim) (cnt:=cnt) hs hr hne n hn
 have e:((0:Int) !=6)=true:=by decide
 unfold zAd
 refine zBN zdf Try.func109 rfl (by decide) (YAL rfl) (by decide) fun ok=> ?_
 rw[Try.results109]
 have h:=YAN
 repeat' (first
  |(with_reducible first|apply bA|apply bB|apply bC|apply bD|apply bE|apply bF)<;>intro h
  |((first|apply bG|apply bH);simp only[AV.norm,AV.zQg,W2,zdg,zde,hpR,bxR,arR,stP hs hr hne,zTh,zTg,AV.bel,ze0,e];first|refine zIB (hk) (.inl rfl) ?_)
  |refine zKh (id:=3) zdf (fun _=>trivial) mixed 0 Try.f109.ntmps (by first|(simp;done)|(simp;omega)) rfl (by kernel_rfl) (by decide) ?_
  |skip)<;>simp only[h,↓zaL,↓zHC,WY,reduceIte,yA,yB,yC,yD,reduceCtorEq,yE,yF,W1,WS,zdg,zde,hpR,bxR,arR,stP hs hr hne,zTh,zTg,AV.bel,ze0,e]
theorem zfo(hs:s<F.length)(hr:r<F.length)(hne:r≠s)(hw:Wf S)(n:Nat)(hn:n<S.length):zAd Try.prog 107 [.bptr s 0,.int .i64 n] (hpR F s r v S lim cnt) (.sl ((kidI (S.kids (S.root n))).map I64) .no) (hpR F s r v S lim cnt):=by
 have hk:=zfq (v:=v) (lim:=lim) (cnt:=cnt) hs hr hne hw n hn
 have hrl:=hw.root_lt n hn
 have hsh:=hw.shape hrl (hw.zUK n)
 have eA:kA (S.nd (S.root n))=(S.kids (S.root n)).headD 0:=rfl
 have eB:kB (S.nd (S.root n))=(S.kids (S.root n)).getD 1 ((S.kids (S.root n)).headD 0):=rfl
 have none0:S.kind (S.root n)≠7->S.kind (S.root n)≠8->S.kind (S.root n)≠9->S.kids (S.root n)=[]->zAd Try.prog 107 [.bptr s 0,.int .i64 n] (hpR F s r v S lim cnt) (.sl ((kidI (S.kids (S.root n))).map I64) .no) (hpR F s r v S lim cnt):=fun h7 h8 h9 hc=>by
  have e7:(S.kind (S.root n)==7)=false:=by rw[YAZ];exact h7
  have e8:(S.kind (S.root n)==8)=false:=by rw[YAZ];exact h8
  have e9:(S.kind (S.root n)==9)=false:=by rw[YAZ];exact h9
  rw[hc]
  unfold zAd
  refine zBN zdf Try.func107 rfl (by decide) (YAL rfl) (by decide) fun ok=> ?_
  rw[Try.results107]
  have h:=YAN
  repeat' (first
   |(with_reducible first|apply bA|apply bB|apply bC|apply bD|apply bE|apply bF)<;>intro h
   |((first|apply bG|apply bH);simp only[AV.norm,AV.zQg,W2,zdg,zde,AV.belL,zLy,hpR,bxR,arR,stP hs hr hne,zTh,zTg,AV.bel,ze0,e7,e8,e9];first|refine zIB (hk) (.inl rfl) ?_)
   |refine zKh (id:=3) zdf (fun _=>trivial) mixed 0 Try.f107.ntmps (by first|(simp;done)|(simp;omega)) rfl (by kernel_rfl) (by decide) ?_
   |refine zKh (id:=6) zdf (fun _=>trivial) mixed 0 Try.f107.ntmps (by first|(simp;done)|(simp;omega)) rfl (by kernel_rfl) (by decide) ?_
   |skip)<;>simp only[h,↓zaL,↓zHC,WY,reduceIte,yA,yB,yC,yD,reduceCtorEq,yE,yF,W1,WS,zdg,zde,AV.belL,zLy,hpR,bxR,arR,stP hs hr hne,zTh,zTg,AV.bel,ze0,e7,e8,e9]
  rfl
 rcases hsh with ⟨h5,h6,hc⟩|⟨_,h6,hc⟩|⟨i,j,h6,hc⟩|⟨i,h6,hc⟩
 ·exact none0 (by omega) (by omega) (by omega) hc
 ·exact none0 (by omega) (by omega) (by omega) hc
 ·rw[hc]at eA eB⊢
  simp only[List.headD_cons,List.getD_cons_succ,List.getD_cons_zero]at eA eB
  have e8:(S.kind (S.root n)==8)=false:=by rw[YAZ];omega
  unfold zAd
  rcases h6 with h6|h6
  ·have e7:(S.kind (S.root n)==7)=true:=by rw[beq_iff_eq];exact h6
   refine zBN zdf Try.func107 rfl (by decide) (YAL rfl) (by decide) fun ok=> ?_
   rw[Try.results107]
   have h:=YAN
   repeat' (first
    |(with_reducible first|apply bA|apply bB|apply bC|apply bD|apply bE|apply bF)<;>intro h
    |((first|apply bG|apply bH);simp only[AV.norm,AV.zQg,W2,zdg,zde,AV.belL,zLy,hpR,bxR,arR,stP hs hr hne,zTh,zTg,AV.bel,ze0,hrl,zez hrl,zeI,e7,e8,eA,eB];first|refine zIB (hk) (.inl rfl) ?_|refine zIk rfl (zgR (v:=v) (S:=S) (lim:=lim) (cnt:=cnt) hs hr hne hw n hn (by simp[stP hs hr hne,bxR,arR])) (.inl rfl) ?_)
    |refine zKh (id:=3) zdf (fun _=>trivial) mixed 0 Try.f107.ntmps (by first|(simp;done)|(simp;omega)) rfl (by kernel_rfl) (by decide) ?_
    |refine zKh (id:=6) zdf (fun _=>trivial) mixed 0 Try.f107.ntmps (by first|(simp;done)|(simp;omega)) rfl (by kernel_rfl) (by decide) ?_
    |skip)<;>simp only[h,↓zaL,↓zHC,WY,reduceIte,yA,yB,yC,yD,reduceCtorEq,yE,yF,W1,WS,zdg,zde,AV.belL,zLy,hpR,bxR,arR,stP hs hr hne,zTh,zTg,AV.bel,ze0,hrl,zez hrl,zeI,e7,e8,eA,eB]
   rfl
  ·have e7:(S.kind (S.root n)==7)=false:=by rw[YAZ];omega
   have e9:(S.kind (S.root n)==9)=true:=by rw[beq_iff_eq];exact h6
   refine zBN zdf Try.func107 rfl (by decide) (YAL rfl) (by decide) fun ok=> ?_
   rw[Try.results107]
   have h:=YAN
   repeat' (first
    |(with_reducible first|apply bA|apply bB|apply bC|apply bD|apply bE|apply bF)<;>intro h
    |((first|apply bG|apply bH);simp only[AV.norm,AV.zQg,W2,zdg,zde,AV.belL,zLy,hpR,bxR,arR,stP hs hr hne,zTh,zTg,AV.bel,ze0,hrl,zez hrl,zeI,e7,e8,e9,eA,eB];first|refine zIB (hk) (.inl rfl) ?_|refine zIk rfl (zgR (v:=v) (S:=S) (lim:=lim) (cnt:=cnt) hs hr hne hw n hn (by simp[stP hs hr hne,bxR,arR])) (.inl rfl) ?_)
    |refine zKh (id:=3) zdf (fun _=>trivial) mixed 0 Try.f107.ntmps (by first|(simp;done)|(simp;omega)) rfl (by kernel_rfl) (by decide) ?_
    |refine zKh (id:=6) zdf (fun _=>trivial) mixed 0 Try.f107.ntmps (by first|(simp;done)|(simp;omega)) rfl (by kernel_rfl) (by decide) ?_
    |skip)<;>simp only[h,↓zaL,↓zHC,WY,reduceIte,yA,yB,yC,yD,reduceCtorEq,yE,yF,W1,WS,zdg,zde,AV.belL,zLy,hpR,bxR,arR,stP hs hr hne,zTh,zTg,AV.bel,ze0,hrl,zez hrl,zeI,e7,e8,e9,eA,eB]
   rfl
 ·rw[hc]at eA eB⊢
  simp only[List.headD_cons,List.getD_cons_succ,List.getD_nil]at eA eB
  have e8:(S.kind (S.root n)==8)=true:=by rw[beq_iff_eq];exact h6
  unfold zAd
  refine zBN zdf Try.func107 rfl (by decide) (YAL rfl) (by decide) fun ok=> ?_
  rw[Try.results107]
  have h:=YAN
  repeat' (first
   |(with_reducible first|apply bA|apply bB|apply bC|apply bD|apply bE|apply bF)<;>intro h
   |((first|apply bG|apply bH);simp only[AV.norm,AV.zQg,W2,zdg,zde,AV.belL,zLy,hpR,bxR,arR,stP hs hr hne,zTh,zTg,AV.bel,ze0,hrl,zez hrl,zeI,e8,eA,eB];first|refine zIB (hk) (.inl rfl) ?_|refine zIk rfl (zgR (v:=v) (S:=S) (lim:=lim) (cnt:=cnt) hs hr hne hw n hn (by simp[stP hs hr hne,bxR,arR])) (.inl rfl) ?_)
   |refine zKh (id:=3) zdf (fun _=>trivial) mixed 0 Try.f107.ntmps (by first|(simp;done)|(simp;omega)) rfl (by kernel_rfl) (by decide) ?_
   |refine zKh (id:=6) zdf (fun _=>trivial) mixed 0 Try.f107.ntmps (by first|(simp;done)|(simp;omega)) rfl (by kernel_rfl) (by decide) ?_
   |skip)<;>simp only[h,↓zaL,↓zHC,WY,reduceIte,yA,yB,yC,yD,reduceCtorEq,yE,yF,W1,WS,zdg,zde,AV.belL,zLy,hpR,bxR,arR,stP hs hr hne,zTh,zTg,AV.bel,ze0,hrl,zez hrl,zeI,e8,eA,eB]
  rfl
theorem zfp(hs:s<F.length)(hr:r<F.length)(hne:r≠s)(n:Int)(hn:n<0\/(S.length:Int)<=n):zAd Try.prog 107 [.bptr s 0,.int .i64 n] (hpR F s r v S lim cnt) (.sl [] .no) (hpR F s r v S lim cnt):=by
 have hk:=zfs (v:=v) (S:=S) (lim:=lim) (cnt:=cnt) hs hr hne n hn
 have e7:((0:Int)==7)=false:=by decide
 have e8:((0:Int)==8)=false:=by decide
 have e9:((0:Int)==9)=false:=by decide
 unfold zAd
 refine zBN zdf Try.func107 rfl (by decide) (YAL rfl) (by decide) fun ok=> ?_
 rw[Try.results107]
 have h:=YAN
 repeat' (first
  |(with_reducible first|apply bA|apply bB|apply bC|apply bD|apply bE|apply bF)<;>intro h
  |((first|apply bG|apply bH);simp only[AV.norm,AV.zQg,W2,zdg,zde,AV.belL,zLy,hpR,bxR,arR,stP hs hr hne,zTh,zTg,AV.bel,ze0,e7,e8,e9];first|refine zIB (hk) (.inl rfl) ?_)
  |refine zKh (id:=3) zdf (fun _=>trivial) mixed 0 Try.f107.ntmps (by first|(simp;done)|(simp;omega)) rfl (by kernel_rfl) (by decide) ?_
  |refine zKh (id:=6) zdf (fun _=>trivial) mixed 0 Try.f107.ntmps (by first|(simp;done)|(simp;omega)) rfl (by kernel_rfl) (by decide) ?_
  |skip)<;>simp only[h,↓zaL,↓zHC,WY,reduceIte,yA,yB,yC,yD,reduceCtorEq,yE,yF,W1,WS,zdg,zde,AV.belL,zLy,hpR,bxR,arR,stP hs hr hne,zTh,zTg,AV.bel,ze0,e7,e8,e9]
end
end Go.Proofs.Ytdngjamjccjlmaa
