/- Lemmas: the functions of stores, first part. No condition. -/
import Derived.Test.YtdngjamjccjlmaaPSa
import Derived.Test.YtdngjamjccjlmaaPAc
import Derived.Test.YtdngjamjccjlmaaPVa
import Derived.Test.YtdngjamjccjlmaaPFa
import Derived.Test.YtdngjamjccjlmaaPMa
set_option linter.defProp false
set_option linter.unusedSimpArgs false
set_option linter.unusedVariables false
set_option maxHeartbeats 4000000
set_option maxRecDepth 100000
namespace Go.Proofs.Ytdngjamjccjlmaa
open Go Go.Ab
open AV renaming belL -> yO, bel -> yN, normL -> yQ, norm -> yP
open AObj renaming bel -> yR
open Nat renaming reduceEqDiff -> yA, reduceAdd -> yB, reduceLT -> yC, reduceLeDiff -> yD, reduceMul -> yE, reducePow -> yF, reduceBEq -> yG
open Int renaming reduceAdd -> yH, reduceLT -> yI, reduceToNat -> yJ, reduceBEq -> yK, reduceBNe -> yL, reduceLE -> yM
attribute [local irreducible] zA0 zAA zAa zAi zAj GoIf GoGb zAk GoO GoD GoX GoDX GoG GoDG GoGv zAl Go zAB
section
abbrev Mem:=List (Nd×Int)
def Mem.st(L:Mem):St:=L.map Prod.fst
theorem Mem.zXR(L:Mem):L.st.length=L.length:=by simp[Mem.st]
def lnk:Option Nat->Int
 |none=> -1
 |some j=>j
def kidI(l:List Nat):List Int:=l.map fun k:Nat=>(k:Int)
def embN(p:Nd×Int):AV:= .agg [.int .i64 p.1.kind,.int .i64 p.1.level,.int .i64 (lnk p.1.link),.sl ((kidI p.1.kids).map I64) .no,.int .i64 p.2]
theorem zGZ(p:Nd×Int):cellsOf (embN p)=[.int .i64 p.1.kind,.int .i64 p.1.level,.int .i64 (lnk p.1.link),.sl ((kidI p.1.kids).map I64) .no,.int .i64 p.2]:=rfl
theorem zGa(p:Nd×Int):(embN p).solid=true:=rfl
theorem zGY(m:Nat)(p:Nd×Int):(embN p).bel m=true:=by simp only[embN,yN,yO,zLy,Bool.and_self]
theorem zOe(m:Nat)(L:Mem):AV.belL m (L.map embN)=true:=by
 induction L with
 |nil=>rfl
 |cons a L ih=>simp only[List.map_cons,yO,zGY,ih,Bool.and_self]
theorem zOg(L:Mem):(L.map embN).length=L.length:=by simp
theorem zOf{L:Mem}{i:Nat}(h:i<L.length):(L.map embN).getD i .any=embN (L.getD i default):=by simp[h]
theorem Mem.nd(L:Mem)(i:Nat):L.st.nd i=(L.getD i default).1:=by
 simp only[Mem.st,St.nd,YAF,List.getElem?_map]
 cases L[i]?<;>rfl
def bxS(r v n:Nat)(lim cnt rd:Int):AObj:= .box [.ms r v n,.int .i64 lim,.int .i64 cnt,.int .i64 rd]
def arS(v:Nat)(L:Mem):AObj:= .arr v 5 (L.map embN)
theorem zCa(m v:Nat)(L:Mem):(arS v L).bel m=true:=by simp only[arS,yR,zOe]
theorem zD1{m r v n v' n':Nat}{lim cnt rd lim' cnt' rd':Int}(h:(bxS r v n lim cnt rd).bel m=true):(bxS r v' n' lim' cnt' rd').bel m=true:=by
 simp only[bxS,yR,yO,yN,YAA,YAa]at h⊢
 exact h
def hpS(F:List AObj)(s r v:Nat)(L:Mem)(lim cnt rd:Int):List AObj:=stF F s r (bxS r v L.length lim cnt rd) (arS v L)
theorem zLV{F:List AObj}{s r v v' b:Nat}{L L':Mem}{lim cnt rd lim' cnt' rd':Int}(hs:s<F.length)(hr:r<F.length)(hne:r≠s)
 (h:∀x∈(hpS F s r v L lim cnt rd).take b,x.bel b=true):∀x∈(hpS F s r v' L' lim' cnt' rd').take b,x.bel b=true:=
 zXA hs hr hne (fun _ h=>zD1 h) (zCa _ _ _) h
end
section
section
variable {F : List AObj} {s r v : Nat} {L : Mem} {lim cnt rd : Int}
theorem zMH(hs:s<F.length)(hr:r<F.length)(hne:r≠s)(n:Int):DCalls Try.prog 83 [.bptr s 0,.int .i64 n] (hpS F s r v L lim cnt rd) (.bool (decide (0<=n)&&decide (n<L.length))) (hpS F s r v L lim cnt rd):=by
 unfold DCalls
 refine eD C_ok Try.func83 Try.results83 fun ok=> ?_
 have h:=YAN
 repeat' (first
  |(with_reducible first|apply bA|apply bB|apply bC|apply bD|apply bE|apply bF)<;>intro h
  |skip)<;>simp only[h,↓zaL,↓zHC,WY,reduceIte,yA,yB,yC,yD,reduceCtorEq,yE,yF,W1,WS,hpS,bxS,arS,stP hs hr hne,zTh,zTg,yN,zOg]
theorem zgf(hs:s<F.length)(hr:r<F.length)(hne:r≠s):DCalls Try.prog 36 [.bptr s 0] (hpS F s r v L lim cnt rd) (.int .i64 cnt) (hpS F s r v L lim cnt rd):=by
 unfold DCalls
 refine eD C_ok Try.func36 Try.results36 fun ok=> ?_
 have h:=YAN
 repeat' (first
  |(with_reducible first|apply bA|apply bB|apply bC|apply bD|apply bE|apply bF)<;>intro h
  |skip)<;>simp only[h,↓zaL,↓zHC,WY,reduceIte,yA,yB,yC,yD,reduceCtorEq,yE,yF,W1,WS,hpS,bxS,arS,stP hs hr hne,zTh,zTg,yN,zOg]
theorem zUI(hs:s<F.length)(hr:r<F.length)(hne:r≠s)(hw:Wf L.st)(n:Nat)(hn:n<L.length):DCalls Try.prog 29 [.bptr s 0,.int .i64 n] (hpS F s r v L lim cnt rd) (.int .i64 (L.st.root n)) (hpS F s r v L lim cnt rd):=by
 have hi:=zMH (v:=v) (L:=L) (lim:=lim) (cnt:=cnt) (rd:=rd) hs hr hne (n:Int)
 have hin:(decide (0<=(n:Int))&&decide ((n:Int)<L.length))=true:=by simp;omega
 rw[hin]at hi
 obtain⟨ρ,hρ⟩:=hw.rk
 unfold DCalls
 refine eD C_ok Try.func29 Try.results29 fun ok=> ?_
 have h:=YAN
 repeat' (first
  |(with_reducible first|apply bA|apply bB|apply bC|apply bD|apply bE|apply bF)<;>intro h
  |((first|apply bG|apply bH);simp only[yP,yQ,W2,hpS,bxS,arS,stP hs hr hne,zTh,zTg,yN,zOg];refine zIB (hi) (.inl rfl) ?_)
  |skip)<;>simp only[h,↓zaL,↓zHC,WY,reduceIte,yA,yB,yC,yD,reduceCtorEq,yE,yF,W1,WS,hpS,bxS,arS,stP hs hr hne,zTh,zTg,yN,zOg]
 refine zCN [1,0] ?_
 simp only[List.map_cons,List.map_nil,↓zaL,↓zHC,WY,reduceIte,yA,yB,yC,yD,reduceCtorEq,yE,yF,W1,WS]
 refine zJ1 1 (fun m:Nat=> [(1,.int .i64 m)]) (fun _=>_) (fun m=>m<L.length/\L.st.root m=L.st.root n) ρ C_ok n rfl rfl ⟨hn,rfl⟩ (by decide) ?_
 rintro m ⟨hm,hroot⟩
 simp only[List.drop_succ_cons,List.drop_zero,List.cons_append,List.nil_append]
 have hnd:L.st.nd m=(L.getD m default).1:=L.nd m
 cases hl:L.st.link m with
 |none=>
  have e:lnk (L.getD m default).1.link= -1:=by rw[<-hnd];show lnk (L.st.link m)= -1;rw[hl];rfl
  have e0:((-1:Int)≥0)=False:=by simp
  rw[<-hroot,zUO hl]
  have h:=YAN
  repeat' (first
   |(with_reducible first|apply bA|apply bB|apply bC|apply bD|apply bE|apply bF)<;>intro h
   |skip)<;>simp only[h,↓zaL,↓zHC,WY,reduceIte,yA,yB,yC,yD,reduceCtorEq,yE,yF,W1,WS,hpS,bxS,arS,stP hs hr hne,zTh,zTg,yN,zOg,hm,zOf hm,zGZ,e,e0]
 |some j=>
  have e:lnk (L.getD m default).1.link=(j:Int):=by rw[<-hnd];show lnk (L.st.link m)=_;rw[hl];rfl
  have e0:((j:Int)≥0)=True:=by simp
  have hj:=hw.link_lt m j hl
  have hj':j<L.length:=by rw[Mem.zXR]at hj;exact hj
  have h:=YAN
  repeat' (first
   |(with_reducible first|apply bA|apply bB|apply bC|apply bD|apply bE|apply bF)<;>intro h
   |skip)<;>simp only[h,↓zaL,↓zHC,WY,reduceIte,yA,yB,yC,yD,reduceCtorEq,yE,yF,W1,WS,hpS,bxS,arS,stP hs hr hne,zTh,zTg,yN,zOg,hm,zOf hm,zGZ,e,e0]
  refine⟨j,⟨hj',by rw[<-hroot,hw.zUR hl]⟩,hρ.link m j hl,zap rfl ?_⟩
  simp only[WK,↓zaL,↓zHC,yA,reduceIte,yN,yO,yR,yP,yQ,yB,yC]
theorem zgJ(hs:s<F.length)(hr:r<F.length)(hne:r≠s)(n:Int)(hn:n<0\/(L.length:Int)<=n):DCalls Try.prog 29 [.bptr s 0,.int .i64 n] (hpS F s r v L lim cnt rd) (.int .i64 (-1)) (hpS F s r v L lim cnt rd):=by
 have hi:=zMH (v:=v) (L:=L) (lim:=lim) (cnt:=cnt) (rd:=rd) hs hr hne n
 have hin:(decide (0<=n)&&decide (n<L.length))=false:=by
  rw[Bool.and_eq_false_iff,decide_eq_false_iff_not,decide_eq_false_iff_not];omega
 rw[hin]at hi
 unfold DCalls
 refine eD C_ok Try.func29 Try.results29 fun ok=> ?_
 have h:=YAN
 repeat' (first
  |(with_reducible first|apply bA|apply bB|apply bC|apply bD|apply bE|apply bF)<;>intro h
  |((first|apply bG|apply bH);simp only[yP,yQ,W2,hpS,bxS,arS,stP hs hr hne,zTh,zTg,yN,zOg];refine zIB (hi) (.inl rfl) ?_)
  |skip)<;>simp only[h,↓zaL,↓zHC,WY,reduceIte,yA,yB,yC,yD,reduceCtorEq,yE,yF,W1,WS,hpS,bxS,arS,stP hs hr hne,zTh,zTg,yN,zOg]
theorem zUP{e:Nat->AV}{b m:Nat}{G:List AObj}(hs:s<F.length)(hr:r<F.length)(hne:r≠s)(hw:Wf L.st)(n:Nat)(hn:n<L.length)(hG:G[s]?=some (bxS r v L.length lim cnt rd)/\G[r]?=some (arS v L)):zA5 Try.prog 29 [.bptr s 0,.int .i64 n] (.int .i64 (L.st.root n)) (FS e G b m).obj:=
 qcalls_st (s:=s) (r:=r) (bx:=bxS r v L.length lim cnt rd) (ar:=arS v L) (fun F' h1 h2=>zUI h1 h2 hne hw n hn) (by rw[zIP];exact hG.1) (by rw[zIP];exact hG.2) rfl rfl
theorem zMi(hs:s<F.length)(hr:r<F.length)(hne:r≠s)(hw:Wf L.st)(n:Nat)(hn:n<L.length):DCalls Try.prog 32 [.bptr s 0,.int .i64 n] (hpS F s r v L lim cnt rd) (.int .i64 (L.st.kind (L.st.root n))) (hpS F s r v L lim cnt rd):=by
 have hi:=zMH (v:=v) (L:=L) (lim:=lim) (cnt:=cnt) (rd:=rd) hs hr hne (n:Int)
 have hin:(decide (0<=(n:Int))&&decide ((n:Int)<L.length))=true:=by simp;omega
 rw[hin]at hi
 have hrl:L.st.root n<L.length:=by have:=hw.root_lt n (by rw[Mem.zXR];exact hn);rwa[Mem.zXR]at this
 have hk:(L.getD (L.st.root n) default).1.kind=L.st.kind (L.st.root n):=by rw[<-L.nd];rfl
 unfold DCalls
 refine eD C_ok Try.func32 Try.results32 fun ok=> ?_
 have h:=YAN
 repeat' (first
  |(with_reducible first|apply bA|apply bB|apply bC|apply bD|apply bE|apply bF)<;>intro h
  |((first|apply bG|apply bH);simp only[yP,yQ,W2,hpS,bxS,arS,stP hs hr hne,zTh,zTg,yN,zOg,hrl,zOf hrl,zGZ,hk];first|refine zIB (hi) (.inl rfl) ?_|refine zIk rfl (zUP (v:=v) (L:=L) (lim:=lim) (cnt:=cnt) (rd:=rd) hs hr hne hw n hn (by simp[stP hs hr hne,bxS,arS])) (.inl rfl) ?_)
  |refine drA C_ok 3 0 ?_
  |skip)<;>simp only[h,↓zaL,↓zHC,WY,reduceIte,yA,yB,yC,yD,reduceCtorEq,yE,yF,W1,WS,hpS,bxS,arS,stP hs hr hne,zTh,zTg,yN,zOg,hrl,zOf hrl,zGZ,hk]
end
end
section
section
variable {F : List AObj} {s r v : Nat} {L : Mem} {lim cnt rd : Int}
theorem zNI(hs:s<F.length)(hr:r<F.length)(hne:r≠s)(hw:Wf L.st)(n:Nat)(hn:n<L.length):DCalls Try.prog 35 [.bptr s 0,.int .i64 n] (hpS F s r v L lim cnt rd) (.int .i64 (if L.st.kind (L.st.root n)=6 then(L.st.nd (L.st.root n)).level else-1)) (hpS F s r v L lim cnt rd):=by
 have hk:=zMi (v:=v) (lim:=lim) (cnt:=cnt) (rd:=rd) hs hr hne hw n hn
 have hrl:L.st.root n<L.length:=by have:=hw.root_lt n (by rw[Mem.zXR];exact hn);rwa[Mem.zXR]at this
 have hlv:(L.getD (L.st.root n) default).1.level=(L.st.nd (L.st.root n)).level:=by rw[<-L.nd]
 unfold DCalls
 by_cases h6:L.st.kind (L.st.root n)=6
 ·rw[if_pos h6]
  have e:(L.st.kind (L.st.root n) !=6)=false:=by simp[h6]
  refine eD C_ok Try.func35 Try.results35 fun ok=> ?_
  have h:=YAN
  repeat' (first
   |(with_reducible first|apply bA|apply bB|apply bC|apply bD|apply bE|apply bF)<;>intro h
   |((first|apply bG|apply bH);simp only[yP,yQ,W2,hpS,bxS,arS,stP hs hr hne,zTh,zTg,yN,zOg,hrl,zOf hrl,zGZ,hlv,e];first|refine zIB (hk) (.inl rfl) ?_|refine zIk rfl (zUP (v:=v) (L:=L) (lim:=lim) (cnt:=cnt) (rd:=rd) hs hr hne hw n hn (by simp[stP hs hr hne,bxS,arS])) (.inl rfl) ?_)
   |refine drA C_ok 3 0 ?_
   |skip)<;>simp only[h,↓zaL,↓zHC,WY,reduceIte,yA,yB,yC,yD,reduceCtorEq,yE,yF,W1,WS,hpS,bxS,arS,stP hs hr hne,zTh,zTg,yN,zOg,hrl,zOf hrl,zGZ,hlv,e]
 ·rw[if_neg h6]
  have e:(L.st.kind (L.st.root n) !=6)=true:=by simp[h6]
  refine eD C_ok Try.func35 Try.results35 fun ok=> ?_
  have h:=YAN
  repeat' (first
   |(with_reducible first|apply bA|apply bB|apply bC|apply bD|apply bE|apply bF)<;>intro h
   |((first|apply bG|apply bH);simp only[yP,yQ,W2,hpS,bxS,arS,stP hs hr hne,zTh,zTg,yN,zOg,e];refine zIB (hk) (.inl rfl) ?_)
   |refine drA C_ok 3 0 ?_
   |skip)<;>simp only[h,↓zaL,↓zHC,WY,reduceIte,yA,yB,yC,yD,reduceCtorEq,yE,yF,W1,WS,hpS,bxS,arS,stP hs hr hne,zTh,zTg,yN,zOg,e]
theorem takeN(L:Mem):(L.map embN).take L.length=L.map embN:=by rw[List.take_of_length_le (by simp)]
def CA:Cfg:= {C with inpl:=fun d=>d==13}
theorem zAG:zAb Try.prog CA:=C_ok
theorem zAH(t:Nat):CA.ty t=C.ty t:=rfl
theorem zAF(t:Nat):CA.inpl t=(t==13):=rfl
theorem zBk(hs:s<F.length)(hr:r<F.length)(hne:r≠s)(kd lv lk mk:Int)(ks:List Nat)(hL:L.length<=1000000)(hc:0<=cnt/\cnt<=1000000):
 DCalls Try.prog 91 [.bptr s 0,.agg [.int .i64 kd,.int .i64 lv,.int .i64 lk,.sl ((kidI ks).map I64) .no,.int .i64 mk]] (hpS F s r v L lim cnt rd) (.int .i64 L.length) (hpS F s r (v+1) (L++ [(⟨kd,lv,none,ks⟩,mk)]) lim (cnt+1) rd):=by
 have w1:IntKind.wrap .i64 (cnt+1)=cnt+1:=zbT (by omega) (by omega)
 have w2:IntKind.wrap .i64 (((L.length+1:Nat):Int)-1)=(L.length:Int):=by rw[zbT (by omega) (by omega)];omega
 have b1:(L.length+1<=9223372036854775807)=True:=by simp only[YAb,iff_true];omega
 have b2:((L.length+1)*56<=140737488355328)=True:=by simp only[YAb,iff_true];omega
 unfold DCalls
 refine eD zAG Try.func91 Try.results91 fun ok=> ?_
 have h:=YAN
 repeat' (first
  |(with_reducible first|apply bA|apply bB|apply bC|apply bD|apply bE|apply bF)<;>intro h
  |refine drA zAG 2 0 ?_
  |skip)<;>simp only[h,↓zaL,↓zHC,WY,reduceIte,yA,yB,yC,yD,reduceCtorEq,yE,yF,W1,WS,hpS,bxS,arS,stP hs hr hne,zTh,zTg,yN,zOg,zAH,zAF,yG,zGZ,zGa,takeN,w1,w2,b1,b2]
 exact⟨fun _=>by simp[yO,yN,zLy],fun _=>by simpa using hr,by simp[embN,lnk]⟩
def varN(lv:Int):Nd×Int:=(⟨6,lv,none,[]⟩,0)
theorem zqH(hs:s<F.length)(hr:r<F.length)(hne:r≠s)(lv:Int)(h:lv<0):DCalls Try.prog 34 [.bptr s 0,.int .i64 lv] (hpS F s r v L lim cnt rd) (.tup [.int .i64 0,.int .i64 1]) (hpS F s r v L lim cnt rd):=by
 unfold DCalls
 refine eD C_ok Try.func34 Try.results34 fun ok=> ?_
 repeat' first
  |(with_reducible first|apply bA|apply bB|apply bC|apply bD|apply bE|apply bF)<;>intro h<;>try simp only[h,↓zaL,↓zHC,WY,reduceIte,yA,yB,yC,yD,reduceCtorEq,yE,yF,W1,WS,hpS,bxS,arS,stP hs hr hne,zTh,zTg,yN,zOg,h,yO]
  |refine drA C_ok 3 0 ?_
  |simp only[↓zaL,↓zHC,WY,reduceIte,yA,yB,yC,yD,reduceCtorEq,yE,yF,W1,WS,hpS,bxS,arS,stP hs hr hne,zTh,zTg,yN,zOg,h,yO]
theorem zg3(hs:s<F.length)(hr:r<F.length)(hne:r≠s)(lv:Int)(h:¬lv<0)(hc:(cnt==lim)=true):DCalls Try.prog 34 [.bptr s 0,.int .i64 lv] (hpS F s r v L lim cnt rd) (.tup [.int .i64 0,.int .i64 7]) (hpS F s r v L lim cnt rd):=by
 unfold DCalls
 refine eD C_ok Try.func34 Try.results34 fun ok=> ?_
 repeat' first
  |(with_reducible first|apply bA|apply bB|apply bC|apply bD|apply bE|apply bF)<;>intro h<;>try simp only[h,↓zaL,↓zHC,WY,reduceIte,yA,yB,yC,yD,reduceCtorEq,yE,yF,W1,WS,hpS,bxS,arS,stP hs hr hne,zTh,zTg,yN,zOg,h,hc,yO]
  |refine drA C_ok 3 0 ?_
  |simp only[↓zaL,↓zHC,WY,reduceIte,yA,yB,yC,yD,reduceCtorEq,yE,yF,W1,WS,hpS,bxS,arS,stP hs hr hne,zTh,zTg,yN,zOg,h,hc,yO]
theorem zg4(hs:s<F.length)(hr:r<F.length)(hne:r≠s)(lv:Int)(h:¬lv<0)(hc:(cnt==lim)=false)(hL:L.length<=1000000)(hc':0<=cnt/\cnt<=1000000):DCalls Try.prog 34 [.bptr s 0,.int .i64 lv] (hpS F s r v L lim cnt rd) (.tup [.int .i64 L.length,.int .i64 0]) (hpS F s r (v+1) (L++ [varN lv]) lim (cnt+1) rd):=by
 have q:=zBk (v:=v) (lim:=lim) (rd:=rd) hs hr hne 6 lv 0 0 [] hL hc'
 unfold DCalls
 refine eD C_ok Try.func34 Try.results34 fun ok=> ?_
 repeat' first
  |(with_reducible first|apply bA|apply bB|apply bC|apply bD|apply bE|apply bF)<;>intro h<;>try simp only[h,↓zaL,↓zHC,WY,reduceIte,yA,yB,yC,yD,reduceCtorEq,yE,yF,W1,WS,hpS,bxS,arS,stP hs hr hne,zTh,zTg,yN,zOg,h,hc,yO]
  |((first|apply bG|apply bH);simp only[yP,yQ,W2,hpS,bxS,arS,stP hs hr hne,zTh,zTg,yN,zOg,h,hc,yO];refine zIA (q) (.inl rfl) (fun hb=>zLV (by first|exact hs|simp<;>omega) (by first|exact hr|simp<;>omega) hne hb) ?_)
  |refine drA C_ok 3 0 ?_
  |simp only[↓zaL,↓zHC,WY,reduceIte,yA,yB,yC,yD,reduceCtorEq,yE,yF,W1,WS,hpS,bxS,arS,stP hs hr hne,zTh,zTg,yN,zOg,h,hc,yO]
 all_goals rfl
theorem zev(hs:s<F.length)(hr:r<F.length)(hne:r≠s)(kd:Int)(a b:Nat)(hk:kd=7\/kd=9)(ha:a<L.length)(hb':b<L.length)(hc:(cnt==lim)=false)(hL:L.length<=1000000)(hc':0<=cnt/\cnt<=1000000):
 DCalls Try.prog 82 [.bptr s 0,.int .i64 kd,.int .i64 a,.int .i64 b] (hpS F s r v L lim cnt rd) (.tup [.int .i64 L.length,.int .i64 0]) (hpS F s r (v+1) (L++ [(⟨kd,0,none,[a,b]⟩,0)]) lim (cnt+1) rd):=by
 have q:=zBk (v:=v) (lim:=lim) (rd:=rd) hs hr hne kd 0 0 0 [a,b] hL hc'
 have i1:=zMH (v:=v) (L:=L) (lim:=lim) (cnt:=cnt) (rd:=rd) hs hr hne (a:Int)
 have i2:=zMH (v:=v) (L:=L) (lim:=lim) (cnt:=cnt) (rd:=rd) hs hr hne (b:Int)
 rw[show(decide (0<=(a:Int))&&decide ((a:Int)<L.length))=true by simp;omega]at i1
 rw[show(decide (0<=(b:Int))&&decide ((b:Int)<L.length))=true by simp;omega]at i2
 unfold DCalls
 rcases hk with rfl|rfl
 ·refine eD C_ok Try.func82 Try.results82 fun ok=> ?_
  have h:=YAN
  repeat' (first
   |(with_reducible first|apply bA|apply bB|apply bC|apply bD|apply bE|apply bF)<;>intro h
   |((first|apply bG|apply bH);simp only[yP,yQ,W2,W3,yH,yI,yJ,yK,yL,yM,hpS,bxS,arS,stP hs hr hne,zTh,zTg,yN,zOg,hc,yO];first|refine zIB (i1) (.inl rfl) ?_|refine zIB (i2) (.inl rfl) ?_|refine zIA (q) (.inl rfl) (fun hb=>zLV (by first|exact hs|simp<;>omega) (by first|exact hr|simp<;>omega) hne hb) ?_)
   |refine drA C_ok 14 0 ?_
   |refine zJ9 ?_ C_ok Try.f82.ntmps rfl (by decide)
   |skip)<;>simp only[h,↓zaL,↓zHC,WY,reduceIte,yA,yB,yC,yD,reduceCtorEq,yE,yF,W1,WS,W3,yH,yI,yJ,yK,yL,yM,hpS,bxS,arS,stP hs hr hne,zTh,zTg,yN,zOg,hc,yO,zFY]
 ·refine eD C_ok Try.func82 Try.results82 fun ok=> ?_
  have h:=YAN
  repeat' (first
   |(with_reducible first|apply bA|apply bB|apply bC|apply bD|apply bE|apply bF)<;>intro h
   |((first|apply bG|apply bH);simp only[yP,yQ,W2,W3,yH,yI,yJ,yK,yL,yM,hpS,bxS,arS,stP hs hr hne,zTh,zTg,yN,zOg,hc,yO];first|refine zIB (i1) (.inl rfl) ?_|refine zIB (i2) (.inl rfl) ?_|refine zIA (q) (.inl rfl) (fun hb=>zLV (by first|exact hs|simp<;>omega) (by first|exact hr|simp<;>omega) hne hb) ?_)
   |refine drA C_ok 14 0 ?_
   |refine zJ9 ?_ C_ok Try.f82.ntmps rfl (by decide)
   |skip)<;>simp only[h,↓zaL,↓zHC,WY,reduceIte,yA,yB,yC,yD,reduceCtorEq,yE,yF,W1,WS,W3,yH,yI,yJ,yK,yL,yM,hpS,bxS,arS,stP hs hr hne,zTh,zTg,yN,zOg,hc,yO,zFY]
theorem zeu(hs:s<F.length)(hr:r<F.length)(hne:r≠s)(a:Nat)(b:Int)(ha:a<L.length)(hc:(cnt==lim)=false)(hL:L.length<=1000000)(hc':0<=cnt/\cnt<=1000000):
 DCalls Try.prog 82 [.bptr s 0,.int .i64 8,.int .i64 a,.int .i64 b] (hpS F s r v L lim cnt rd) (.tup [.int .i64 L.length,.int .i64 0]) (hpS F s r (v+1) (L++ [(⟨8,0,none,[a]⟩,0)]) lim (cnt+1) rd):=by
 have q:=zBk (v:=v) (lim:=lim) (rd:=rd) hs hr hne 8 0 0 0 [a] hL hc'
 have i1:=zMH (v:=v) (L:=L) (lim:=lim) (cnt:=cnt) (rd:=rd) hs hr hne (a:Int)
 rw[show(decide (0<=(a:Int))&&decide ((a:Int)<L.length))=true by simp;omega]at i1
 unfold DCalls
 refine eD C_ok Try.func82 Try.results82 fun ok=> ?_
 have h:=YAN
 repeat' (first
  |(with_reducible first|apply bA|apply bB|apply bC|apply bD|apply bE|apply bF)<;>intro h
  |((first|apply bG|apply bH);simp only[yP,yQ,W2,W3,yH,yI,yJ,yK,yL,yM,hpS,bxS,arS,stP hs hr hne,zTh,zTg,yN,zOg,hc,yO];first|refine zIB (i1) (.inl rfl) ?_|refine zIA (q) (.inl rfl) (fun hb=>zLV (by first|exact hs|simp<;>omega) (by first|exact hr|simp<;>omega) hne hb) ?_)
  |refine drA C_ok 14 0 ?_
  |refine zJ9 ?_ C_ok Try.f82.ntmps rfl (by decide)
  |skip)<;>simp only[h,↓zaL,↓zHC,WY,reduceIte,yA,yB,yC,yD,reduceCtorEq,yE,yF,W1,WS,W3,yH,yI,yJ,yK,yL,yM,hpS,bxS,arS,stP hs hr hne,zTh,zTg,yN,zOg,hc,yO,zFY]
end
end
section
def mem0:Mem:=[(⟨1,0,none,[]⟩,0),(⟨2,0,none,[]⟩,0),(⟨3,0,none,[]⟩,0),(⟨4,0,none,[]⟩,0),(⟨5,0,none,[]⟩,0)]
def zNK(n:Int):Int:=if 65536<(if 0>n then 0 else n)then 65536 else if 0>n then 0 else n
def CN:Cfg:= {C with inpl:=fun d=>d==25}
theorem zAV:zAb Try.prog CN:=C_ok
theorem zAW(t:Nat):CN.ty t=C.ty t:=rfl
theorem zAU(t:Nat):CN.inpl t=(t==25):=rfl
def raw0(k:Int):AV:= .agg [.int .i64 k,.int .i64 0,.int .i64 (-1),.sl [] .full,.int .i64 0]
theorem zQE(F:List AObj)(n:Int):zAA Try.prog 21 [.int .i64 n] F fun x G=>x= .bptr F.length 0/\G=F++ [bxS (F.length+1) 4 5 (zNK n) 0 0,.arr 4 5 [raw0 1,raw0 2,raw0 3,raw0 4,raw0 5]]:=by
 have hb:F.length<=F.length:=YAV _
 have w4:IntKind.wrap .i64 4=4:=by decide
 have w5:IntKind.wrap .i64 5=5:=by decide
 refine eE zAV Try.func21 Try.results21 fun ok=> ?_
 have h:=YAN
 repeat' (first
  |(with_reducible first|apply bA|apply bB|apply bC|apply bD|apply bE|apply bF)<;>intro h
  |refine zJ9 ?_ zAV Try.f21.ntmps rfl (by decide)
  |skip)<;>simp only[h,↓zaL,↓zHC,WY,reduceIte,yA,yB,yC,yD,reduceCtorEq,yE,yF,W1,WS,W3,yH,yI,yJ,yK,yL,yM,zAW,zAU,yG,hb,w4,w5,zFY]
 all_goals rfl
theorem zQD(F:List AObj)(n:Int):zAA Try.prog 21 [.int .i64 n] F fun x G=>x= .bptr F.length 0/\G=F++ [bxS (F.length+1) 4 5 (zNK n) 0 0,arS 4 mem0]:=by
 refine zBO (zQE F n) ?_
 rintro x G ⟨rfl,rfl⟩
 refine⟨F.length+1,4,5,[raw0 1,raw0 2,raw0 3,raw0 4,raw0 5],mem0.map embN,by rw[zCU rfl];rfl,⟨rfl,fun i hi=> ?_⟩,rfl,?_⟩
 ·have hi:i<5:=hi
  match i,hi with
  |0,_=>exact⟨rfl,fun j=>by match j with|0|1|2|4=>exact .inl rfl|3=>exact .inr rfl|j+5=>exact .inl rfl⟩
  |1,_=>exact⟨rfl,fun j=>by match j with|0|1|2|4=>exact .inl rfl|3=>exact .inr rfl|j+5=>exact .inl rfl⟩
  |2,_=>exact⟨rfl,fun j=>by match j with|0|1|2|4=>exact .inl rfl|3=>exact .inr rfl|j+5=>exact .inl rfl⟩
  |3,_=>exact⟨rfl,fun j=>by match j with|0|1|2|4=>exact .inl rfl|3=>exact .inr rfl|j+5=>exact .inl rfl⟩
  |4,_=>exact⟨rfl,fun j=>by match j with|0|1|2|4=>exact .inl rfl|3=>exact .inr rfl|j+5=>exact .inl rfl⟩
 ·rw[zCY rfl];rfl
end
end Go.Proofs.Ytdngjamjccjlmaa
