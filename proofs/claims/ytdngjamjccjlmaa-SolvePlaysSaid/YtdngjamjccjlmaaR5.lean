/- The document's store, walked: variables within, lowering, links. No condition. -/
import Derived.Test.YtdngjamjccjlmaaR4
set_option linter.unusedSimpArgs false
set_option linter.unusedVariables false
set_option maxHeartbeats 4000000
set_option maxRecDepth 100000
namespace Go.Proofs.Ytdngjamjccjlmaa
open Go Go.Ab
open Nat renaming reduceEqDiff -> yA, reduceAdd -> yB, reduceLT -> yC, reduceLeDiff -> yD, reduceMul -> yE, reducePow -> yF, reduceBEq -> yG
open Int renaming reduceAdd -> yH, reduceLT -> yI, reduceToNat -> yJ, reduceBEq -> yK, reduceBNe -> yL, reduceLE -> yM
attribute [local irreducible] zA0 zAA zAa zAi zAj GoIf GoGb zAk GoO GoD GoX GoDX GoG GoDG GoGv zAl Go zAB
def zei(S:St)(lv:Int)(x:Nat):St:=S.lv x (if lv<(S.nd x).level then lv else(S.nd x).level)
def lowS(S:St)(lv:Int)(vs:List Nat):St:=vs.foldl (fun S x=>zei S lv x) S
theorem zej(lv:Int):∀(vs:List Nat) (S:St),(lowS S lv vs).length=S.length
 | [],S=>rfl
 |x::vs,S=>by show(lowS (zei S lv x) lv vs).length=_;rw[zej,zei,St.zN7]
theorem zel{S:St}{lv:Int}{vs:List Nat}{i:Nat}(h:i<vs.length):zei (lowS S lv (vs.take i)) lv (vs.getD i 0)=lowS S lv (vs.take (i+1)):=by
 rw[List.take_add_one,YAI h,Option.toList_some]
 simp only[lowS,List.foldl_append,List.foldl_cons,List.foldl_nil]
 simp[h]
theorem zeh(lv:Int):∀(vs:List Nat) (L:Mem),(lowL L lv vs).st=lowS L.st lv vs
 | [],L=>rfl
 |x::vs,L=>by
  show(lowL (low1 L lv x) lv vs).st=lowS (zei L.st lv x) lv vs
  rw[zeh lv vs]
  congr 1
  rw[low1,zei,St.lv,Mem.st,List.map_set,<-Mem.st,L.nd]
theorem zg5{S:St}(hw:Wf S){n:Nat}(hn:n<S.length):∀x∈S.vars n,x<S.length:=fun x hx=>((hw.zPJ hn).1 hx).1.lt hw hn
section
variable {F : List AObj} {s r v : Nat} {S : St} {lim cnt : Int}
theorem zgc(hs:s<F.length)(hr:r<F.length)(hne:r≠s)(hw:Wf S)(hL:S.length<=1000000)(n:Nat)(hn:n<S.length):
 zAd Try.prog 110 [.bptr s 0,.int .i64 n] (hpR F s r v S lim cnt) (.sl ((kidI (S.vars n)).map I64) .no) (hpR F s r v S lim cnt):=by
 have q3:=zfU (v:=v) (lim:=lim) (cnt:=cnt) hs hr hne hw hL n hn
 have hal:(S.all n).length<=1000000:=Nat.le_trans (zd2 hw hn) hL
 have hmem:∀x∈S.all n,x<S.length:=fun x hx=>((hw.zPE hn).1 hx).lt hw hn
 have hkd:∀x,(S.nd x).kind=S.kind x:=fun x=>rfl
 have hvars:S.vars n=(S.all n).filter fun m=>decide (S.kind m=6):=rfl
 rw[hvars]
 generalize S.all n=al at*
 have hmax:al.length<=maxLen:=by rw[zPC];omega
 unfold zAd
 refine zBN C_ok Try.func110 rfl (by decide) (YAL rfl) (by decide) fun ok=> ?_
 rw[Try.results110]
 have h:=YAN
 repeat' (first
  |(with_reducible first|apply bA|apply bB|apply bC|apply bD|apply bE|apply bF)<;>intro h
  |((first|apply bG|apply bH);simp only[AV.norm,AV.zQg,W2,hpR,bxR,arR,stP hs hr hne,zTh,zTg,AV.bel,ze0,zLz,zMZ,YAK];first|refine zIB (q3) (.inl rfl) ?_)
  |refine zKh (id:=6) C_ok (fun _=>trivial) mixed 0 Try.f110.ntmps (by first|(simp;done)|(simp;omega)) rfl (by kernel_rfl) (by decide) ?_
  |skip)<;>simp only[h,↓zaL,↓zHC,WY,reduceIte,yA,yB,yC,yD,reduceCtorEq,yE,yF,W1,WS,hpR,bxR,arR,stP hs hr hne,zTh,zTg,AV.bel,ze0,zLz,zMZ,YAK]
 refine zCN [6,7,0,5] ?_
 simp only[List.map_cons,List.map_nil,↓zaL,↓zHC,WY,reduceIte,yA,yB,yC,yD,reduceCtorEq,yE,yF,W1,WS]
 refine zJ1 2 (fun x:Nat×List Nat=> [(6,accV F.length x.2),(7,.int .i64 x.1)]) (fun x=>hpR (F++tokV x.2) s r v S lim cnt) (fun x=>x.1<=al.length/\x.2=(al.take x.1).filter fun m=>decide (S.kind m=6)) (fun x=>al.length-x.1) C_ok (0,[]) rfl (by simp[tokV,hpR,bxR,arR]) ⟨YAX _,rfl⟩ (by decide) ?_
 rintro⟨i,l1⟩ ⟨hi,h1⟩
 simp only at hi h1
 simp only[List.drop_succ_cons,List.drop_zero,List.cons_append,List.nil_append]
 by_cases hlt:i<al.length
 ·have hmm:al.getD i 0∈al:=by simp[hlt]
  have hml:=hmem _ hmm
  have hk:=hkd (al.getD i 0)
  have htf:=zYP hlt fun m=>decide (S.kind m=6)
  rw[<-h1]at htf
  by_cases h6:S.kind (al.getD i 0)=6
  ·have e6:(S.kind (al.getD i 0)==6)=true:=by rw[beq_iff_eq];exact h6
   simp only[h6,decide_true,if_true]at htf
   by_cases hl:l1=[]
   ·subst hl
    simp only[accV,tokV,if_true,List.append_nil]
    have h:=YAN
    repeat' (first
     |(with_reducible first|apply bA|apply bB|apply bC|apply bD|apply bE|apply bF)<;>intro h
     |refine zKh (id:=6) C_ok (fun _=>trivial) mixed 0 Try.f110.ntmps (by first|(simp;done)|(simp;omega)) rfl (by kernel_rfl) (by decide) ?_
     |skip)<;>simp only[h,↓zaL,↓zHC,WY,reduceIte,yA,yB,yC,yD,reduceCtorEq,yE,yF,W1,WS,hpR,bxR,arR,stP hs hr hne,zTh,zTg,AV.bel,ze0,hlt,zMZ,YAK,zMY hlt,hml,zez hml,zeI,hk,e6]
    refine⟨(i+1,[al.getD i 0]),⟨hlt,by rw[htf];rfl⟩,by simp only;omega,zap ?_ ?_⟩
    ·simp[tokV]
    ·simp only[WK,↓zaL,↓zHC,yA,reduceIte,AV.bel,AV.belL,AObj.bel,AV.norm,AV.zQg,yB,yC,zbX hlt hmax]
     exact .inl (by rw[if_neg (by simp)];rfl)
   ·rw[zBW hl,zYZ hl]
    have b1:l1.length<=999999:=by
     have k1:l1.length<=(al.take i).length:=by rw[h1];exact List.length_filter_le _ _
     rw[List.length_take]at k1
     omega
    have b2:(l1.length+1<=9223372036854775807)=True:=by simp only[YAb,iff_true];omega
    have b3:((l1.length+1)*8<=140737488355328)=True:=by simp only[YAb,iff_true];omega
    have h:=YAN
    repeat' (first
     |(with_reducible first|apply bA|apply bB|apply bC|apply bD|apply bE|apply bF)<;>intro h
     |refine zKh (id:=6) C_ok (fun _=>trivial) mixed 0 Try.f110.ntmps (by first|(simp;done)|(simp;omega)) rfl (by kernel_rfl) (by decide) ?_
     |skip)<;>simp only[h,↓zaL,↓zHC,WY,reduceIte,yA,yB,yC,yD,reduceCtorEq,yE,yF,W1,WS,hpR,bxR,arR,stP hs hr hne,zTh,zTg,AV.bel,ze0,hlt,zMZ,YAK,zMY hlt,hml,zez hml,zeI,hk,e6,b2,b3,zCE (kidI l1),List.getElem?_cons_zero,List.set_cons_zero]
    refine⟨(i+1,l1++ [al.getD i 0]),⟨hlt,by rw[htf]⟩,by simp only;omega,zap ?_ ?_⟩
    ·simp only[zYZ (l:=l1++ [al.getD i 0]) (by simp),YAJ,List.length_cons,List.length_nil]
    ·simp only[WK,↓zaL,↓zHC,yA,reduceIte,AV.bel,AV.belL,AObj.bel,AV.norm,AV.zQg,yB,yC,zbX hlt hmax]
     exact .inl (by rw[zBW (by simp),zMX])
  ·have e6:(S.kind (al.getD i 0)==6)=false:=by rw[YAZ];exact h6
   simp only[h6,decide_false,YAB,if_false,List.append_nil]at htf
   by_cases hl:l1=[]
   ·subst hl
    simp only[accV,tokV,if_true,List.append_nil]
    have h:=YAN
    repeat' (first
     |(with_reducible first|apply bA|apply bB|apply bC|apply bD|apply bE|apply bF)<;>intro h
     |refine zKh (id:=6) C_ok (fun _=>trivial) mixed 0 Try.f110.ntmps (by first|(simp;done)|(simp;omega)) rfl (by kernel_rfl) (by decide) ?_
     |skip)<;>simp only[h,↓zaL,↓zHC,WY,reduceIte,yA,yB,yC,yD,reduceCtorEq,yE,yF,W1,WS,hpR,bxR,arR,stP hs hr hne,zTh,zTg,AV.bel,ze0,hlt,zMZ,YAK,zMY hlt,hml,zez hml,zeI,hk,e6]
    refine⟨(i+1,[]),⟨hlt,by rw[htf]⟩,by simp only;omega,zap ?_ ?_⟩
    ·simp[tokV]
    ·simp only[WK,↓zaL,↓zHC,yA,reduceIte,AV.bel,AV.belL,AObj.bel,AV.norm,AV.zQg,yB,yC,zbX hlt hmax]
   ·rw[zBW hl,zYZ hl]
    have h:=YAN
    repeat' (first
     |(with_reducible first|apply bA|apply bB|apply bC|apply bD|apply bE|apply bF)<;>intro h
     |refine zKh (id:=6) C_ok (fun _=>trivial) mixed 0 Try.f110.ntmps (by first|(simp;done)|(simp;omega)) rfl (by kernel_rfl) (by decide) ?_
     |skip)<;>simp only[h,↓zaL,↓zHC,WY,reduceIte,yA,yB,yC,yD,reduceCtorEq,yE,yF,W1,WS,hpR,bxR,arR,stP hs hr hne,zTh,zTg,AV.bel,ze0,hlt,zMZ,YAK,zMY hlt,hml,zez hml,zeI,hk,e6]
    refine⟨(i+1,l1),⟨hlt,by rw[htf]⟩,by simp only;omega,zap ?_ ?_⟩
    ·simp only[zYZ hl]
    ·simp only[WK,↓zaL,↓zHC,yA,reduceIte,AV.bel,AV.belL,AObj.bel,AV.norm,AV.zQg,yB,yC,zbX hlt hmax]
     exact .inl (by rw[zBW hl])
 ·have hi':i=al.length:=by omega
  subst hi'
  rw[List.take_length]at h1
  rw[<-h1]
  by_cases hl:l1=[]
  ·subst hl
   simp only[accV,tokV,if_true,List.append_nil]
   have h:=YAN
   repeat' (first
    |(with_reducible first|apply bA|apply bB|apply bC|apply bD|apply bE|apply bF)<;>intro h
    |refine zKh (id:=6) C_ok (fun _=>trivial) mixed 0 Try.f110.ntmps (by first|(simp;done)|(simp;omega)) rfl (by kernel_rfl) (by decide) ?_
    |skip)<;>simp only[h,↓zaL,↓zHC,WY,reduceIte,yA,yB,yC,yD,reduceCtorEq,yE,yF,W1,WS,hpR,bxR,arR,stP hs hr hne,zTh,zTg,AV.bel,ze0,zMZ,YAK,Nat.lt_irrefl,Int.lt_irrefl]
   all_goals exact⟨rfl,rfl⟩
  ·rw[zBW hl,zYZ hl]
   have h:=YAN
   repeat' (first
    |(with_reducible first|apply bA|apply bB|apply bC|apply bD|apply bE|apply bF)<;>intro h
    |refine zKh (id:=6) C_ok (fun _=>trivial) mixed 0 Try.f110.ntmps (by first|(simp;done)|(simp;omega)) rfl (by kernel_rfl) (by decide) ?_
    |skip)<;>simp only[h,↓zaL,↓zHC,WY,reduceIte,yA,yB,yC,yD,reduceCtorEq,yE,yF,W1,WS,hpR,bxR,arR,stP hs hr hne,zTh,zTg,AV.bel,ze0,zMZ,YAK,Nat.lt_irrefl,Int.lt_irrefl,zLz,zLy]
theorem zf0(hs:s<F.length)(hr:r<F.length)(hne:r≠s)(hw:Wf S)(hL:S.length<=1000000)(n:Nat)(hn:n<S.length)(lv:Int):
 zAd Try.prog 138 [.bptr s 0,.int .i64 n,.int .i64 lv] (hpR F s r v S lim cnt) (.tup []) (hpR F s r v (lowS S lv (S.vars n)) lim cnt):=by
 have q:=zgc (v:=v) (lim:=lim) (cnt:=cnt) hs hr hne hw hL n hn
 have hvl:(S.vars n).length<=1000000:=Nat.le_trans (List.length_filter_le _ _) (Nat.le_trans (zd2 hw hn) hL)
 have hlt':=zg5 hw hn
 generalize S.vars n=vs at*
 have hmax:vs.length<=maxLen:=by rw[zPC];omega
 unfold zAd
 refine zBN C_ok Try.func138 rfl (by decide) (YAL rfl) (by decide) fun ok=> ?_
 rw[Try.results138]
 have h:=YAN
 repeat' (first
  |(with_reducible first|apply bA|apply bB|apply bC|apply bD|apply bE|apply bF)<;>intro h
  |((first|apply bG|apply bH);simp only[AV.norm,AV.zQg,W2,hpR,bxR,arR,stP hs hr hne,zTh,zTg,AV.bel,ze0,zLz,zMZ,YAK];first|refine zIB (q) (.inl rfl) ?_)
  |refine zKh (id:=4) C_ok (fun _=>trivial) mixed 0 Try.f138.ntmps (by first|(simp;done)|(simp;omega)) rfl (by kernel_rfl) (by decide) ?_
  |skip)<;>simp only[h,↓zaL,↓zHC,WY,reduceIte,yA,yB,yC,yD,reduceCtorEq,yE,yF,W1,WS,hpR,bxR,arR,stP hs hr hne,zTh,zTg,AV.bel,ze0,zLz,zMZ,YAK]
 refine zCN [7,0,2,6] ?_
 simp only[List.map_cons,List.map_nil,↓zaL,↓zHC,WY,reduceIte,yA,yB,yC,yD,reduceCtorEq,yE,yF,W1,WS]
 refine zJ1 1 (fun i:Nat=> [(7,.int .i64 i)]) (fun i=>hpR F s r v (lowS S lv (vs.take i)) lim cnt) (fun i=>i<=vs.length) (fun i=>vs.length-i) C_ok 0 rfl rfl (YAX _) (by decide) ?_
 rintro i hi
 simp only[List.drop_succ_cons,List.drop_zero,List.cons_append,List.nil_append]
 by_cases hlt:i<vs.length
 ·have hml:vs.getD i 0<(lowS S lv (vs.take i)).length:=by rw[zej];exact hlt' _ (by simp[hlt])
  have ht:=zel (S:=S) (lv:=lv) hlt
  have hset:((lowS S lv (vs.take i)).map embW).set (vs.getD i 0) (.agg [.int .i64 ((lowS S lv (vs.take i)).nd (vs.getD i 0)).kind,.int .i64 (kA ((lowS S lv (vs.take i)).nd (vs.getD i 0))),.int .i64 (kB ((lowS S lv (vs.take i)).nd (vs.getD i 0))),.int .i64 (if lv<((lowS S lv (vs.take i)).nd (vs.getD i 0)).level then lv else((lowS S lv (vs.take i)).nd (vs.getD i 0)).level),.int .i64 (lnk ((lowS S lv (vs.take i)).nd (vs.getD i 0)).link)])=(lowS S lv (vs.take (i+1))).map embW:=by
   rw[<-ht,zei,St.lv,List.map_set];rfl
  have hl2:(lowS S lv (vs.take (i+1))).length=(lowS S lv (vs.take i)).length:=by rw[zej,zej]
  generalize hX':lowS S lv (vs.take (i+1))=X' at*
  generalize hX:lowS S lv (vs.take i)=X at*
  have h:=YAN
  repeat' (first
   |(with_reducible first|apply bA|apply bB|apply bC|apply bD|apply bE|apply bF)<;>intro h
   |refine zKh (id:=4) C_ok (fun _=>trivial) mixed 0 Try.f138.ntmps (by first|(simp;done)|(simp;omega)) rfl (by kernel_rfl) (by decide) ?_
   |skip)<;>simp only[h,↓zaL,↓zHC,WY,reduceIte,yA,yB,yC,yD,reduceCtorEq,yE,yF,W1,WS,hpR,bxR,arR,stP hs hr hne,zTh,zTg,AV.bel,ze0,hlt,zMZ,YAK,zMY hlt,hml,zez hml,zeI,reW,hset]
  all_goals trace_state
  refine⟨i+1,hlt,by omega,zap ?_ ?_⟩
  ·rw[hX',hl2]
  ·simp only[WK,↓zaL,↓zHC,yA,reduceIte,AV.bel,AV.belL,AObj.bel,AV.norm,AV.zQg,yB,yC,zbX hlt hmax]
 ·have hi':i=vs.length:=by omega
  subst hi'
  have h:=YAN
  repeat' (first
   |(with_reducible first|apply bA|apply bB|apply bC|apply bD|apply bE|apply bF)<;>intro h
   |refine zKh (id:=4) C_ok (fun _=>trivial) mixed 0 Try.f138.ntmps (by first|(simp;done)|(simp;omega)) rfl (by kernel_rfl) (by decide) ?_
   |skip)<;>simp only[h,↓zaL,↓zHC,WY,reduceIte,yA,yB,yC,yD,reduceCtorEq,yE,yF,W1,WS,hpR,bxR,arR,stP hs hr hne,zTh,zTg,AV.bel,ze0,zMZ,YAK,Nat.lt_irrefl,Int.lt_irrefl,List.take_length,AV.belL]
  all_goals exact⟨rfl,rfl⟩
end
end Go.Proofs.Ytdngjamjccjlmaa
