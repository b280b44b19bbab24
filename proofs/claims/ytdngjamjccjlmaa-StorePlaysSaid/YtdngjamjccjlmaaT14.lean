/- Walks: layer 12: a step of a script, done in both stores. No condition. -/
import Derived.Test.YtdngjamjccjlmaaPTe
import Derived.Test.YtdngjamjccjlmaaAW
set_option linter.unusedSimpArgs false
set_option linter.unusedVariables false
set_option maxHeartbeats 4000000
set_option maxRecDepth 100000
namespace Go.Proofs.Ytdngjamjccjlmaa
open Go Go.Ab
open Nat renaming reduceEqDiff -> yA, reduceAdd -> yB, reduceLT -> yC, reduceLeDiff -> yD, reduceMul -> yE, reducePow -> yF, reduceBEq -> yG
open Int renaming reduceAdd -> yH, reduceLT -> yI, reduceToNat -> yJ, reduceBEq -> yK, reduceBNe -> yL, reduceLE -> yM
open AV renaming belL -> yO, bel -> yN, normL -> yQ, norm -> yP
open AObj renaming bel -> yR
attribute [local irreducible] zA0 zAA zAa zAi zAj GoIf GoGb zAk GoO GoD GoX GoDX GoG GoDG GoGv zAl Go zAB
def CZDo:Cfg:= {C with rdr:=fun _=>false,zwr:=fun f=>f==37||f==103,zfr:=some (5,999),zld:=[(185,1),(190,1)]}
theorem zns:zAb Try.prog CZDo:=C_ok
theorem znt(t:Nat):CZDo.ty t=C.ty t:=rfl
theorem znr(t:Nat):CZDo.inpl t=false:=rfl
theorem zqT(s:AState):ZLd CZDo s=∃r0,s.env 5= .bptr r0 0/\LdOK r0 999 (s.env 185) 1/\LdOK r0 999 (s.env 190) 1:=by simp[ZLd,CZDo]
def bth(F:List AObj)(s r p q:Nat)(lim:Int)(σ τ:Sto):List AObj:=dH F s r p q σ.v σ.L lim σ.cnt σ.rd τ.v τ.L.st lim τ.cnt
theorem opS{lim:Int}{σ τ υ:Sto}{f g:Nat}{args:List AV}{res:AV}{F:List AObj}{s r p q:Nat}(h:OpD lim σ τ f g args res)(hD:QuaD F s r p q):DCalls Try.prog f (.bptr s 0::args) (bth F s r p q lim σ υ) res (bth F s r p q lim τ υ):=
 dS (fun G hs hr=>h.1 G s r hs hr (fun e=>hD.d1.1 e.symm)) hD υ.v υ.L.st lim υ.cnt
theorem opR{lim:Int}{σ τ υ:Sto}{f g:Nat}{args:List AV}{res:AV}{F:List AObj}{s r p q:Nat}(h:OpD lim σ τ f g args res)(hD:QuaD F s r p q):DCalls Try.prog g (.bptr p 0::args) (bth F s r p q lim υ σ) res (bth F s r p q lim υ τ):=
 dR (fun G hp hq=>h.2 G p q hp hq (fun e=>hD.d2.2.2 e.symm)) hD υ.v υ.L lim υ.cnt υ.rd
theorem zn0(b:Nat)(l:List Int):(acI b l).norm= .sl (l.map I64) .no:=by
 unfold acI
 split
 ·rename_i h;rw[h];rfl
 ·simp only[yP,zLz]
section
variable {F : List AObj} {s r p q : Nat} {lim : Int}
theorem zoG(hD:QuaD F s r p q){σ τ:Sto}(hG:StG lim σ)(x:SpRec){m:Int}(hm:(IntKind.wrap .u64 x.kd).tmod 8=m)(hO:StepO lim σ τ x m):
 DCalls Try.prog 53 [.bptr s 0,.bptr p 0,zoH x] (bth F s r p q lim σ σ) (.bool true) (bth F s r p q lim τ τ):=by
 have hll:=Mem.zXR σ.L
 have hln:σ.L.length<=1000000:=by have:=hG.ln;have:=hG.cl;have:=hG.lm;omega
 have hu:=zhI x.kd
 have m0:0<=m/\m<8:=by rw[<-hm,Int.tmod_eq_emod_of_nonneg (by rw[hu];omega)];omega
 have r1:IntKind.wrap .u64 m=m:=by rw[zhI];omega
 have ne8:((8:Int)≠0)=True:=by simp
 have qn:=fun y:Int=>zot y σ.L.st.length (by omega)
 have hl0:F.length<=F.length:=YAV _
 have e6:((6:Int)<6)=False:=by simp
 obtain⟨hOv,hOm,hOp,hOl,hOw,hOc,hOr⟩:=hO
 unfold spA spB0 spR at*
 rw[<-hll]at hOm hOl hOw hOc hOr
 generalize hg:zos σ.L.st.length=g at*
 obtain⟨bxc,hbx⟩:∃b:AObj,b= .box [.int .i64 x.kd,.int .i64 x.a,.int .i64 x.b,.int .i64 x.c,.int .i64 x.t.kind,.int .i64 x.t.num,.sl (x.t.kids.map emb) .no,.sl (x.fr.map I64) .no,.sl (x.tt.map I64) .no]:=⟨_,rfl⟩
 unfold DCalls
 unfold bth
 refine eD C_ok Try.func53 Try.results53 fun ok=> ?_
 have hok:=ok
 simp only[AV.zRR,AV.okay,zoH,YAK,and_true,true_and]at hok
 obtain⟨-, -, -, -, -, -, -,⟨hmx1, -⟩,⟨hmx2, -⟩⟩:=hok
 have h:=YAN
 repeat' (first
  |(with_reducible first|apply bA|apply bB|apply bC|apply bD|apply bE|apply bF)<;>intro h
  |((first|apply bG|apply bH);simp only[yP,yQ,W2,dH,bxR,arR,bxS,arS,quaP hD,zTh,zTg,yN,ze0,zOg,zoJ,zoM];first|refine zIf (qn _) (.inl rfl) ?_|refine zIj (qn _) (.inl rfl) ?_)
  |refine drA C_ok 2 0 ?_
  |refine drA C_ok 29 0 ?_
  |skip)<;>simp only[h,↓zaL,↓zHC,WY,reduceIte,yA,yB,yC,yD,reduceCtorEq,yE,yF,W1,WS,dH,bxR,arR,bxS,arS,quaP hD,zTh,zTg,yN,ze0,zOg,zoJ,zoM]
 refine zCN [10,12,0,1,5,7,8,9,11] ?_
 simp only[List.map_cons,List.map_nil,↓zaL,↓zHC,WY,reduceIte,yA,yB,yC,yD,reduceCtorEq,yE,yF,W1,WS]
 refine zJ1 2 (fun i:Nat=> [(10,acI (F.length+1) ((x.fr.take i).map g)),(12,.int .i64 i)]) (fun i=>dH (F++(bxc::tkI ((x.fr.take i).map g))) s r p q σ.v σ.L lim σ.cnt σ.rd σ.v σ.L.st lim σ.cnt) (fun i=>i<=x.fr.length/\i<=6) (fun i=>x.fr.length-i) C_ok 0 rfl (by rw[hbx];simp only[dH,bxS,arS,bxR,arR,List.take_zero,List.map_nil,tkI,if_true]) ⟨YAX _,by omega⟩ (by decide) ?_
 rintro i ⟨hi,hi6⟩
 simp only[List.drop_succ_cons,List.drop_zero,List.cons_append,List.nil_append]
 by_cases hcd:i<x.fr.length/\i<6
 ·obtain⟨hlt,hlt6⟩:=hcd
  have g6:((i:Int)<6)=True:=by simp only[YAb,iff_true];omega
  have g1:(x.fr.map I64).getD i .any= .int .i64 (x.fr.getD i 0):=zOt hlt
  have hst:=zok (g:=g) (d:=0) hlt
  by_cases h0:i=0
  ·subst h0
   have hst0:(x.fr.take (0+1)).map g=[g (x.fr.getD 0 0)]:=by rw[hst];rfl
   simp only[List.take_zero,List.map_nil,acI,tkI,if_true,hbx]
   have h:=YAN
   repeat' (first
    |(with_reducible first|apply bA|apply bB|apply bC|apply bD|apply bE|apply bF)<;>intro h
    |((first|apply bG|apply bH);simp only[yP,yQ,W2,dH,bxR,arR,bxS,arS,quaP hD,zTh,zTg,yN,ze0,zOg,hlt,g6,YAK,g1];first|refine zIf (qn _) (.inl rfl) ?_|refine zIj (qn _) (.inl rfl) ?_)
    |refine drA C_ok 2 0 ?_
    |refine drA C_ok 29 0 ?_
    |skip)<;>simp only[h,↓zaL,↓zHC,WY,reduceIte,yA,yB,yC,yD,reduceCtorEq,yE,yF,W1,WS,dH,bxR,arR,bxS,arS,quaP hD,zTh,zTg,yN,ze0,zOg,hlt,g6,YAK,g1]
   refine⟨0+1,⟨hlt,by omega⟩,by omega,zap ?_ ?_⟩
   ·have hl1:(x.fr.take (0+1)).length=1:=by simp;omega
    rw[hst0,if_neg (by simp),hl1]
   ·simp only[WK,↓zaL,↓zHC,yA,reduceIte,yN,yO,yR,yP,yQ,yB,yC,zbX hlt hmx1]
    exact .inl (by rw[hst0];simp[acI,I64])
  ·have hlen:((x.fr.take i).map g).length=i:=by simp;omega
   have hne0:(x.fr.take i).map g≠[]:=by intro e;rw[e]at hlen;simp at hlen;omega
   rw[znz hne0,zqA hne0,hlen,hbx]
   have b2:(i+1<=9223372036854775807)=True:=by simp only[YAb,iff_true];omega
   have b3:((i+1)*8<=140737488355328)=True:=by simp only[YAb,iff_true];omega
   generalize (x.fr.take i).map g=ws at*
   have hwl:(ws.map I64).length=i:=by simpa using hlen
   have h:=YAN
   repeat' (first
    |(with_reducible first|apply bA|apply bB|apply bC|apply bD|apply bE|apply bF)<;>intro h
    |((first|apply bG|apply bH);simp only[yP,yQ,W2,dH,bxR,arR,bxS,arS,quaP hD,zTh,zTg,yN,ze0,zOg,hlt,g6,YAK,hwl,hlen,g1,b2,b3,zCE ws,List.getElem?_cons_zero,List.getElem?_cons_succ,List.set_cons_zero,List.set_cons_succ];first|refine zIf (qn _) (.inl rfl) ?_|refine zIj (qn _) (.inl rfl) ?_)
    |refine drA C_ok 2 0 ?_
    |refine drA C_ok 29 0 ?_
    |skip)<;>simp only[h,↓zaL,↓zHC,WY,reduceIte,yA,yB,yC,yD,reduceCtorEq,yE,yF,W1,WS,dH,bxR,arR,bxS,arS,quaP hD,zTh,zTg,yN,ze0,zOg,hlt,g6,YAK,hwl,hlen,g1,b2,b3,zCE ws,List.getElem?_cons_zero,List.getElem?_cons_succ,List.set_cons_zero,List.set_cons_succ]
   refine⟨i+1,⟨hlt,by omega⟩,by omega,zap ?_ ?_⟩
   ·rw[hst,show tkI (ws++ [g (x.fr.getD i 0)])=[.tok (i+1) 1]by simp[tkI,hlen]]
   ·simp only[WK,↓zaL,↓zHC,yA,reduceIte,yN,yO,yR,yP,yQ,yB,yC,zbX hlt hmx1]
    exact .inl (by rw[hst];simp[acI,I64])
 have hex:x.fr.take i=x.fr.take 6:=by
  by_cases h:i=6
  ·rw[h]
  ·rw[List.take_of_length_le (by omega),List.take_of_length_le (by omega)]
 rw[hex]
 have hcs:((i<x.fr.length)=True/\((i:Int)<6)=False)\/((i<x.fr.length)=False/\True=True):=by
  by_cases h1:i<x.fr.length
  ·exact .inl ⟨eq_true h1,eq_false (by omega)⟩
  ·exact .inr ⟨eq_false h1,rfl⟩
 clear hex hcd
 generalize (x.fr.take 6).map g=fl at*
 rw[hbx]
 rcases hcs with ⟨hq,g6⟩|⟨hq,g6⟩
 all_goals
  have h:=YAN
  repeat' (first
   |(with_reducible first|apply bA|apply bB|apply bC|apply bD|apply bE|apply bF)<;>intro h
   |refine drA C_ok 2 0 ?_
   |refine drA C_ok 29 0 ?_
   |skip)<;>simp only[h,↓zaL,↓zHC,WY,reduceIte,yA,yB,yC,yD,reduceCtorEq,yE,yF,W1,WS,dH,bxR,arR,bxS,arS,quaP hD,zTh,zTg,yN,ze0,zOg,YAK,hq,g6]
  refine zCN [11,13,0,1,5,7,8,9,10] ?_
  simp only[List.map_cons,List.map_nil,↓zaL,↓zHC,WY,reduceIte,yA,yB,yC,yD,reduceCtorEq,yE,yF,W1,WS]
  refine zJ1 2 (fun j:Nat=> [(11,acI (if fl=[]then F.length+1 else F.length+2) ((x.tt.take j).map g)),(13,.int .i64 j)]) (fun j=>dH (F++(bxc::(tkI fl++tkI ((x.tt.take j).map g)))) s r p q σ.v σ.L lim σ.cnt σ.rd σ.v σ.L.st lim σ.cnt) (fun j=>j<=x.tt.length/\j<=6) (fun j=>x.tt.length-j) C_ok 0 rfl (by rw[hbx];simp only[dH,bxS,arS,bxR,arR,List.take_zero,List.map_nil,show tkI []=[]from rfl,List.append_nil]) ⟨YAX _,by omega⟩ (by decide) ?_
  clear hq g6 hi hi6
  rintro j ⟨hj,hj6⟩
  simp only[List.drop_succ_cons,List.drop_zero,List.cons_append,List.nil_append]
  by_cases hcd:j<x.tt.length/\j<6
  ·obtain⟨hlt,hlt6⟩:=hcd
   have g6:((j:Int)<6)=True:=by simp only[YAb,iff_true];omega
   have g1:(x.tt.map I64).getD j .any= .int .i64 (x.tt.getD j 0):=zOt hlt
   have hst:=zok (g:=g) (d:=0) hlt
   by_cases hf:fl=[]
   ·simp only[if_pos hf,hf,show tkI []=[]from rfl,List.nil_append]
    by_cases h0:j=0
    ·subst h0
     have hst0:(x.tt.take (0+1)).map g=[g (x.tt.getD 0 0)]:=by rw[hst];rfl
     simp only[List.take_zero,List.map_nil,acI,tkI,if_true,hbx]
     have h:=YAN
     repeat' (first
      |(with_reducible first|apply bA|apply bB|apply bC|apply bD|apply bE|apply bF)<;>intro h
      |((first|apply bG|apply bH);simp only[yP,yQ,W2,dH,bxR,arR,bxS,arS,quaP hD,zTh,zTg,yN,ze0,zOg,hlt,g6,YAK,g1];first|refine zIf (qn _) (.inl rfl) ?_|refine zIj (qn _) (.inl rfl) ?_)
      |refine drA C_ok 2 0 ?_
      |refine drA C_ok 29 0 ?_
      |skip)<;>simp only[h,↓zaL,↓zHC,WY,reduceIte,yA,yB,yC,yD,reduceCtorEq,yE,yF,W1,WS,dH,bxR,arR,bxS,arS,quaP hD,zTh,zTg,yN,ze0,zOg,hlt,g6,YAK,g1]
     refine⟨0+1,⟨hlt,by omega⟩,by omega,zap ?_ ?_⟩
     ·have hl1:(x.tt.take (0+1)).length=1:=by simp;omega
      rw[hst0,if_neg (by simp),hl1]
     ·simp only[WK,↓zaL,↓zHC,yA,reduceIte,yN,yO,yR,yP,yQ,yB,yC,zbX hlt hmx2]
      exact .inl (by rw[hst0];simp[acI,I64])
    ·have hlen:((x.tt.take j).map g).length=j:=by simp;omega
     have hne0:(x.tt.take j).map g≠[]:=by intro e;rw[e]at hlen;simp at hlen;omega
     rw[znz hne0,zqA hne0,hlen,hbx]
     have b2:(j+1<=9223372036854775807)=True:=by simp only[YAb,iff_true];omega
     have b3:((j+1)*8<=140737488355328)=True:=by simp only[YAb,iff_true];omega
     generalize (x.tt.take j).map g=ws at*
     have hwl:(ws.map I64).length=j:=by simpa using hlen
     have h:=YAN
     repeat' (first
      |(with_reducible first|apply bA|apply bB|apply bC|apply bD|apply bE|apply bF)<;>intro h
      |((first|apply bG|apply bH);simp only[yP,yQ,W2,dH,bxR,arR,bxS,arS,quaP hD,zTh,zTg,yN,ze0,zOg,hlt,g6,YAK,hwl,hlen,g1,b2,b3,zCE ws,List.getElem?_cons_zero,List.getElem?_cons_succ,List.set_cons_zero,List.set_cons_succ];first|refine zIf (qn _) (.inl rfl) ?_|refine zIj (qn _) (.inl rfl) ?_)
      |refine drA C_ok 2 0 ?_
      |refine drA C_ok 29 0 ?_
      |skip)<;>simp only[h,↓zaL,↓zHC,WY,reduceIte,yA,yB,yC,yD,reduceCtorEq,yE,yF,W1,WS,dH,bxR,arR,bxS,arS,quaP hD,zTh,zTg,yN,ze0,zOg,hlt,g6,YAK,hwl,hlen,g1,b2,b3,zCE ws,List.getElem?_cons_zero,List.getElem?_cons_succ,List.set_cons_zero,List.set_cons_succ]
     refine⟨j+1,⟨hlt,by omega⟩,by omega,zap ?_ ?_⟩
     ·rw[hst,show tkI (ws++ [g (x.tt.getD j 0)])=[.tok (j+1) 1]by simp[tkI,hlen]]
     ·simp only[WK,↓zaL,↓zHC,yA,reduceIte,yN,yO,yR,yP,yQ,yB,yC,zbX hlt hmx2]
      exact .inl (by rw[hst];simp[acI,I64])
   ·simp only[if_neg hf,zqA hf,List.cons_append,List.nil_append]
    by_cases h0:j=0
    ·subst h0
     have hst0:(x.tt.take (0+1)).map g=[g (x.tt.getD 0 0)]:=by rw[hst];rfl
     simp only[List.take_zero,List.map_nil,acI,tkI,if_true,hbx]
     have h:=YAN
     repeat' (first
      |(with_reducible first|apply bA|apply bB|apply bC|apply bD|apply bE|apply bF)<;>intro h
      |((first|apply bG|apply bH);simp only[yP,yQ,W2,dH,bxR,arR,bxS,arS,quaP hD,zTh,zTg,yN,ze0,zOg,hlt,g6,YAK,g1];first|refine zIf (qn _) (.inl rfl) ?_|refine zIj (qn _) (.inl rfl) ?_)
      |refine drA C_ok 2 0 ?_
      |refine drA C_ok 29 0 ?_
      |skip)<;>simp only[h,↓zaL,↓zHC,WY,reduceIte,yA,yB,yC,yD,reduceCtorEq,yE,yF,W1,WS,dH,bxR,arR,bxS,arS,quaP hD,zTh,zTg,yN,ze0,zOg,hlt,g6,YAK,g1]
     refine⟨0+1,⟨hlt,by omega⟩,by omega,zap ?_ ?_⟩
     ·have hl1:(x.tt.take (0+1)).length=1:=by simp;omega
      rw[hst0,if_neg (by simp),hl1]
     ·simp only[WK,↓zaL,↓zHC,yA,reduceIte,yN,yO,yR,yP,yQ,yB,yC,zbX hlt hmx2]
      exact .inl (by rw[hst0];simp[acI,I64])
    ·have hlen:((x.tt.take j).map g).length=j:=by simp;omega
     have hne0:(x.tt.take j).map g≠[]:=by intro e;rw[e]at hlen;simp at hlen;omega
     rw[znz hne0,zqA hne0,hlen,hbx]
     have b2:(j+1<=9223372036854775807)=True:=by simp only[YAb,iff_true];omega
     have b3:((j+1)*8<=140737488355328)=True:=by simp only[YAb,iff_true];omega
     generalize (x.tt.take j).map g=ws at*
     have hwl:(ws.map I64).length=j:=by simpa using hlen
     have h:=YAN
     repeat' (first
      |(with_reducible first|apply bA|apply bB|apply bC|apply bD|apply bE|apply bF)<;>intro h
      |((first|apply bG|apply bH);simp only[yP,yQ,W2,dH,bxR,arR,bxS,arS,quaP hD,zTh,zTg,yN,ze0,zOg,hlt,g6,YAK,hwl,hlen,g1,b2,b3,zCE ws,List.getElem?_cons_zero,List.getElem?_cons_succ,List.set_cons_zero,List.set_cons_succ];first|refine zIf (qn _) (.inl rfl) ?_|refine zIj (qn _) (.inl rfl) ?_)
      |refine drA C_ok 2 0 ?_
      |refine drA C_ok 29 0 ?_
      |skip)<;>simp only[h,↓zaL,↓zHC,WY,reduceIte,yA,yB,yC,yD,reduceCtorEq,yE,yF,W1,WS,dH,bxR,arR,bxS,arS,quaP hD,zTh,zTg,yN,ze0,zOg,hlt,g6,YAK,hwl,hlen,g1,b2,b3,zCE ws,List.getElem?_cons_zero,List.getElem?_cons_succ,List.set_cons_zero,List.set_cons_succ]
     refine⟨j+1,⟨hlt,by omega⟩,by omega,zap ?_ ?_⟩
     ·rw[hst,show tkI (ws++ [g (x.tt.getD j 0)])=[.tok (j+1) 1]by simp[tkI,hlen]]
     ·simp only[WK,↓zaL,↓zHC,yA,reduceIte,yN,yO,yR,yP,yQ,yB,yC,zbX hlt hmx2]
      exact .inl (by rw[hst];simp[acI,I64])
  have hex:x.tt.take j=x.tt.take 6:=by
   by_cases h:j=6
   ·rw[h]
   ·rw[List.take_of_length_le (by omega),List.take_of_length_le (by omega)]
  rw[hex]
  have hcs:((j<x.tt.length)=True/\((j:Int)<6)=False)\/((j<x.tt.length)=False/\True=True):=by
   by_cases h1:j<x.tt.length
   ·exact .inl ⟨eq_true h1,eq_false (by omega)⟩
   ·exact .inr ⟨eq_false h1,rfl⟩
  clear hex hcd
  generalize (x.tt.take 6).map g=tl at*
  rw[hbx]
  generalize tkI fl++tkI tl=TK at*
  rcases hcs with ⟨hq,g6⟩|⟨hq,g6⟩
  all_goals
   have h7:m=0\/m=1\/m=2\/m=3\/m=4\/m=5\/m=6\/m=7:=by omega
   rcases h7 with rfl|rfl|rfl|rfl|rfl|rfl|rfl|rfl
   ·obtain⟨pp,ee,o⟩:=hOv (.inl rfl)
    have c1:=fun(F:List AObj) (hD:QuaD F s r p q)=>opS (υ:=σ) o hD
    have c2:=fun(F:List AObj) (hD:QuaD F s r p q)=>opR (υ:=τ) o hD
    simp only[bth,dH,bxS,arS,bxR,arR]at c1 c2
    have h:=YAN
    repeat' (first
     |(with_reducible first|apply bA|apply bB|apply bC|apply bD|apply bE|apply bF)<;>intro h
     |((first|apply bG|apply bH);simp only[yP,yQ,W2,W3,yH,yI,yJ,yK,yL,yM,dH,bxR,arR,bxS,arS,quaP hD,zTh,zTg,yN,ze0,zOg,YAK,hq,g6,hm,r1,ne8,zn0,zOu,beq_self_eq_true,YAO,Bool.and_self,zGy,zG6,zGx];first|refine zIA (c1 _ (by first|exact hD|exact hD.app _)) (.inl rfl) (fun hb=>dB (by first|exact hD|exact hD.app _) hb) ?_|refine zIA (c2 _ (by first|exact hD|exact hD.app _)) (.inl rfl) (fun hb=>dB (by first|exact hD|exact hD.app _) hb) ?_)
     |refine drA C_ok 2 0 ?_
     |refine drA C_ok 29 0 ?_
     |refine zJ9 ?_ C_ok Try.f53.ntmps rfl (by decide)
     |skip)<;>simp only[h,↓zaL,↓zHC,WY,reduceIte,yA,yB,yC,yD,reduceCtorEq,yE,yF,W1,WS,W3,yH,yI,yJ,yK,yL,yM,dH,bxR,arR,bxS,arS,quaP hD,zTh,zTg,yN,ze0,zOg,YAK,hq,g6,hm,r1,ne8,zn0,zOu,beq_self_eq_true,YAO,Bool.and_self,zGy,zG6,zGx,zFY]
    all_goals first|exact⟨rfl,rfl⟩|rfl|trace_state
   ·obtain⟨pp,ee,o⟩:=hOv (.inr rfl)
    have c1:=fun(F:List AObj) (hD:QuaD F s r p q)=>opS (υ:=σ) o hD
    have c2:=fun(F:List AObj) (hD:QuaD F s r p q)=>opR (υ:=τ) o hD
    simp only[bth,dH,bxS,arS,bxR,arR]at c1 c2
    have h:=YAN
    repeat' (first
     |(with_reducible first|apply bA|apply bB|apply bC|apply bD|apply bE|apply bF)<;>intro h
     |((first|apply bG|apply bH);simp only[yP,yQ,W2,W3,yH,yI,yJ,yK,yL,yM,dH,bxR,arR,bxS,arS,quaP hD,zTh,zTg,yN,ze0,zOg,YAK,hq,g6,hm,r1,ne8,zn0,zOu,beq_self_eq_true,YAO,Bool.and_self,zGy,zG6,zGx];first|refine zIA (c1 _ (by first|exact hD|exact hD.app _)) (.inl rfl) (fun hb=>dB (by first|exact hD|exact hD.app _) hb) ?_|refine zIA (c2 _ (by first|exact hD|exact hD.app _)) (.inl rfl) (fun hb=>dB (by first|exact hD|exact hD.app _) hb) ?_)
     |refine drA C_ok 2 0 ?_
     |refine drA C_ok 29 0 ?_
     |refine zJ9 ?_ C_ok Try.f53.ntmps rfl (by decide)
     |skip)<;>simp only[h,↓zaL,↓zHC,WY,reduceIte,yA,yB,yC,yD,reduceCtorEq,yE,yF,W1,WS,W3,yH,yI,yJ,yK,yL,yM,dH,bxR,arR,bxS,arS,quaP hD,zTh,zTg,yN,ze0,zOg,YAK,hq,g6,hm,r1,ne8,zn0,zOu,beq_self_eq_true,YAO,Bool.and_self,zGy,zG6,zGx,zFY]
    all_goals first|exact⟨rfl,rfl⟩|rfl|trace_state
   ·obtain⟨pp,ee,o⟩:=hOm rfl
    have c1:=fun(F:List AObj) (hD:QuaD F s r p q)=>opS (υ:=σ) o hD
    have c2:=fun(F:List AObj) (hD:QuaD F s r p q)=>opR (υ:=τ) o hD
    simp only[bth,dH,bxS,arS,bxR,arR]at c1 c2
    have h:=YAN
    repeat' (first
     |(with_reducible first|apply bA|apply bB|apply bC|apply bD|apply bE|apply bF)<;>intro h
     |((first|apply bG|apply bH);simp only[yP,yQ,W2,W3,yH,yI,yJ,yK,yL,yM,dH,bxR,arR,bxS,arS,quaP hD,zTh,zTg,yN,ze0,zOg,YAK,hq,g6,hm,r1,ne8,zn0,zOu,beq_self_eq_true,YAO,Bool.and_self,zGy,zG6,zGx];first|refine zIA (c1 _ (by first|exact hD|exact hD.app _)) (.inl rfl) (fun hb=>dB (by first|exact hD|exact hD.app _) hb) ?_|refine zIA (c2 _ (by first|exact hD|exact hD.app _)) (.inl rfl) (fun hb=>dB (by first|exact hD|exact hD.app _) hb) ?_)
     |refine drA C_ok 2 0 ?_
     |refine drA C_ok 29 0 ?_
     |refine zJ9 ?_ C_ok Try.f53.ntmps rfl (by decide)
     |skip)<;>simp only[h,↓zaL,↓zHC,WY,reduceIte,yA,yB,yC,yD,reduceCtorEq,yE,yF,W1,WS,W3,yH,yI,yJ,yK,yL,yM,dH,bxR,arR,bxS,arS,quaP hD,zTh,zTg,yN,ze0,zOg,YAK,hq,g6,hm,r1,ne8,zn0,zOu,beq_self_eq_true,YAO,Bool.and_self,zGy,zG6,zGx,zFY]
    all_goals first|exact⟨rfl,rfl⟩|rfl|trace_state
   ·obtain⟨pp,ee,o⟩:=hOp rfl
    have c1:=fun(F:List AObj) (hD:QuaD F s r p q)=>opS (υ:=σ) o hD
    have c2:=fun(F:List AObj) (hD:QuaD F s r p q)=>opR (υ:=τ) o hD
    simp only[bth,dH,bxS,arS,bxR,arR]at c1 c2
    have h:=YAN
    repeat' (first
     |(with_reducible first|apply bA|apply bB|apply bC|apply bD|apply bE|apply bF)<;>intro h
     |((first|apply bG|apply bH);simp only[yP,yQ,W2,W3,yH,yI,yJ,yK,yL,yM,dH,bxR,arR,bxS,arS,quaP hD,zTh,zTg,yN,ze0,zOg,YAK,hq,g6,hm,r1,ne8,zn0,zOu,beq_self_eq_true,YAO,Bool.and_self,zGy,zG6,zGx];first|refine zIA (c1 _ (by first|exact hD|exact hD.app _)) (.inl rfl) (fun hb=>dB (by first|exact hD|exact hD.app _) hb) ?_|refine zIA (c2 _ (by first|exact hD|exact hD.app _)) (.inl rfl) (fun hb=>dB (by first|exact hD|exact hD.app _) hb) ?_)
     |refine drA C_ok 2 0 ?_
     |refine drA C_ok 29 0 ?_
     |refine zJ9 ?_ C_ok Try.f53.ntmps rfl (by decide)
     |skip)<;>simp only[h,↓zaL,↓zHC,WY,reduceIte,yA,yB,yC,yD,reduceCtorEq,yE,yF,W1,WS,W3,yH,yI,yJ,yK,yL,yM,dH,bxR,arR,bxS,arS,quaP hD,zTh,zTg,yN,ze0,zOg,YAK,hq,g6,hm,r1,ne8,zn0,zOu,beq_self_eq_true,YAO,Bool.and_self,zGy,zG6,zGx,zFY]
    all_goals first|exact⟨rfl,rfl⟩|rfl|trace_state
   ·obtain⟨ee,o⟩:=hOl rfl
    have c1:=fun(F:List AObj) (hD:QuaD F s r p q)=>opS (υ:=σ) o hD
    have c2:=fun(F:List AObj) (hD:QuaD F s r p q)=>opR (υ:=τ) o hD
    simp only[bth,dH,bxS,arS,bxR,arR]at c1 c2
    have h:=YAN
    repeat' (first
     |(with_reducible first|apply bA|apply bB|apply bC|apply bD|apply bE|apply bF)<;>intro h
     |((first|apply bG|apply bH);simp only[yP,yQ,W2,W3,yH,yI,yJ,yK,yL,yM,dH,bxR,arR,bxS,arS,quaP hD,zTh,zTg,yN,ze0,zOg,YAK,hq,g6,hm,r1,ne8,zn0,zOu,beq_self_eq_true,YAO,Bool.and_self,zGy,zG6,zGx];first|refine zIA (c1 _ (by first|exact hD|exact hD.app _)) (.inl rfl) (fun hb=>dB (by first|exact hD|exact hD.app _) hb) ?_|refine zIA (c2 _ (by first|exact hD|exact hD.app _)) (.inl rfl) (fun hb=>dB (by first|exact hD|exact hD.app _) hb) ?_)
     |refine drA C_ok 2 0 ?_
     |refine drA C_ok 29 0 ?_
     |refine zJ9 ?_ C_ok Try.f53.ntmps rfl (by decide)
     |skip)<;>simp only[h,↓zaL,↓zHC,WY,reduceIte,yA,yB,yC,yD,reduceCtorEq,yE,yF,W1,WS,W3,yH,yI,yJ,yK,yL,yM,dH,bxR,arR,bxS,arS,quaP hD,zTh,zTg,yN,ze0,zOg,YAK,hq,g6,hm,r1,ne8,zn0,zOu,beq_self_eq_true,YAO,Bool.and_self,zGy,zG6,zGx,zFY]
    all_goals first|exact⟨rfl,rfl⟩|rfl|trace_state
   ·obtain⟨ee,o⟩:=hOw rfl
    have c1:=fun(F:List AObj) (hD:QuaD F s r p q)=>opS (υ:=σ) o hD
    have c2:=fun(F:List AObj) (hD:QuaD F s r p q)=>opR (υ:=τ) o hD
    simp only[bth,dH,bxS,arS,bxR,arR]at c1 c2
    have h:=YAN
    repeat' (first
     |(with_reducible first|apply bA|apply bB|apply bC|apply bD|apply bE|apply bF)<;>intro h
     |refine zJ9 ?_ C_ok Try.f54.ntmps rfl (by decide)
     |skip)<;>simp only[h,↓zaL,↓zHC,WY,reduceIte,yA,yB,yC,yD,reduceCtorEq,yE,yF,W1,WS,W3,yH,yI,yJ,yK,yL,yM,dH,bxR,arR,bxS,arS,quaP hD,zTh,zTg,yN,ze0,zOg,YAK,hq,g6,hm,r1,ne8,zFY]
    refine zoR (A:=C) (D:=CZDo) ?_
    repeat' first
     |(with_reducible first|apply bA|apply bB|apply bC|apply bD|apply bE|apply bF)<;>intro h<;>try simp only[h,↓zaL,↓zHC,WY,reduceIte,yA,yB,yC,yD,reduceCtorEq,yE,yF,W1,WS,znt,znr,zqT,exB,exB0,zmQ,zjP,yG,dH,bxR,arR,bxS,arS,quaP hD,zTh,zTg,yN,ze0,zOg,beq_self_eq_true,YAV,yO]
     |((first|apply bG|apply bH);simp only[yP,yQ,W2,znt,znr,zqT,exB,exB0,zmQ,zjP,yG,dH,bxR,arR,bxS,arS,quaP hD,zTh,zTg,yN,ze0,zOg,beq_self_eq_true,YAV,yO];first|refine zIl rfl (zfrQ rfl rfl (bagQ hD)) (c1 _ (hD.app _)) (.inl rfl) (fun hb=>dB (hD.app _) hb) ?_|refine zIl rfl (zfrQ rfl rfl (bagQ hD)) (c1 _ hD) (.inl rfl) (fun hb=>dB hD hb) ?_|refine zIl rfl (zfrQ rfl rfl (bagQ hD)) (c2 _ (hD.app _)) (.inl rfl) (fun hb=>dB (hD.app _) hb) ?_|refine zIl rfl (zfrQ rfl rfl (bagQ hD)) (c2 _ hD) (.inl rfl) (fun hb=>dB hD hb) ?_)
     |refine zif (id:=2) zns mixed [] 0 Try.f53.ntmps (by first|(simp;done)|(simp;omega)) rfl (by kernel_rfl) (by decide) ?_
     |refine zif (id:=29) zns mixed [] 0 Try.f53.ntmps (by first|(simp;done)|(simp;omega)) rfl (by kernel_rfl) (by decide) ?_
     |simp only[↓zaL,↓zHC,WY,reduceIte,yA,yB,yC,yD,reduceCtorEq,yE,yF,W1,WS,znt,znr,zqT,exB,exB0,zmQ,zjP,yG,dH,bxR,arR,bxS,arS,quaP hD,zTh,zTg,yN,ze0,zOg,beq_self_eq_true,YAV,yO]
   ·obtain⟨pp,ee,o⟩:=hOc rfl
    have c1:=fun(F:List AObj) (hD:QuaD F s r p q)=>opS (υ:=σ) o hD
    have c2:=fun(F:List AObj) (hD:QuaD F s r p q)=>opR (υ:=τ) o hD
    simp only[bth,dH,bxS,arS,bxR,arR]at c1 c2
    have h:=YAN
    repeat' (first
     |(with_reducible first|apply bA|apply bB|apply bC|apply bD|apply bE|apply bF)<;>intro h
     |((first|apply bG|apply bH);simp only[yP,yQ,W2,W3,yH,yI,yJ,yK,yL,yM,dH,bxR,arR,bxS,arS,quaP hD,zTh,zTg,yN,ze0,zOg,YAK,hq,g6,hm,r1,ne8,zn0,zOu,beq_self_eq_true,YAO,Bool.and_self,zGy,zG6,zGx];first|refine zIA (c1 _ (by first|exact hD|exact hD.app _)) (.inl rfl) (fun hb=>dB (by first|exact hD|exact hD.app _) hb) ?_|refine zIA (c2 _ (by first|exact hD|exact hD.app _)) (.inl rfl) (fun hb=>dB (by first|exact hD|exact hD.app _) hb) ?_)
     |refine drA C_ok 2 0 ?_
     |refine drA C_ok 29 0 ?_
     |refine zJ9 ?_ C_ok Try.f53.ntmps rfl (by decide)
     |skip)<;>simp only[h,↓zaL,↓zHC,WY,reduceIte,yA,yB,yC,yD,reduceCtorEq,yE,yF,W1,WS,W3,yH,yI,yJ,yK,yL,yM,dH,bxR,arR,bxS,arS,quaP hD,zTh,zTg,yN,ze0,zOg,YAK,hq,g6,hm,r1,ne8,zn0,zOu,beq_self_eq_true,YAO,Bool.and_self,zGy,zG6,zGx,zFY]
    all_goals first|exact⟨rfl,rfl⟩|rfl|trace_state
   ·obtain⟨pt,ee,o⟩:=hOr rfl
    have ks:=zMo pt pt
    rw[zVO]at ks
    have c1:=fun(F:List AObj) (hD:QuaD F s r p q)=>opS (υ:=σ) o hD
    have c2:=fun(F:List AObj) (hD:QuaD F s r p q)=>opR (υ:=τ) o hD
    simp only[bth,dH,bxS,arS,bxR,arR]at c1 c2
    have h:=YAN
    repeat' (first
     |(with_reducible first|apply bA|apply bB|apply bC|apply bD|apply bE|apply bF)<;>intro h
     |((first|apply bG|apply bH);simp only[yP,yQ,W2,W3,yH,yI,yJ,yK,yL,yM,dH,bxR,arR,bxS,arS,quaP hD,zTh,zTg,yN,ze0,zOg,YAK,hq,g6,hm,r1,ne8,zn0,zOu,beq_self_eq_true,YAO,Bool.and_self,zGy,zG6,zGx];first|refine zIf (ks) (.inl rfl) ?_|refine zIj (ks) (.inl rfl) ?_|refine zIA (c1 _ (by first|exact hD|exact hD.app _)) (.inl rfl) (fun hb=>dB (by first|exact hD|exact hD.app _) hb) ?_|refine zIA (c2 _ (by first|exact hD|exact hD.app _)) (.inl rfl) (fun hb=>dB (by first|exact hD|exact hD.app _) hb) ?_)
     |refine drA C_ok 2 0 ?_
     |refine drA C_ok 29 0 ?_
     |refine zJ9 ?_ C_ok Try.f53.ntmps rfl (by decide)
     |skip)<;>simp only[h,↓zaL,↓zHC,WY,reduceIte,yA,yB,yC,yD,reduceCtorEq,yE,yF,W1,WS,W3,yH,yI,yJ,yK,yL,yM,dH,bxR,arR,bxS,arS,quaP hD,zTh,zTg,yN,ze0,zOg,YAK,hq,g6,hm,r1,ne8,zn0,zOu,beq_self_eq_true,YAO,Bool.and_self,zGy,zG6,zGx,zFY]
    all_goals first|exact⟨rfl,rfl⟩|rfl|trace_state
end
end Go.Proofs.Ytdngjamjccjlmaa
