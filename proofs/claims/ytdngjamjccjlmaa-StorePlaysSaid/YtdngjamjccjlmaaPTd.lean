/- Lemmas: the copies of the document, walked. No condition. -/
import Derived.Test.YtdngjamjccjlmaaPTc
import Derived.Test.YtdngjamjccjlmaaPAf
set_option linter.unusedSimpArgs false
set_option linter.unusedVariables false
set_option maxHeartbeats 4000000
set_option maxRecDepth 100000
namespace Go.Proofs.Ytdngjamjccjlmaa
open Go Go.Ab
open Nat renaming reduceEqDiff -> yA, reduceAdd -> yB, reduceLT -> yC, reduceLeDiff -> yD, reduceMul -> yE, reducePow -> yF
open AV renaming belL -> yO, bel -> yN, normL -> yQ, norm -> yP
open AObj renaming bel -> yR
open Int renaming reduceAdd -> yH, reduceLT -> yI, reduceToNat -> yJ, reduceBEq -> yK, reduceBNe -> yL, reduceLE -> yM
attribute [local irreducible] zA0 zAA zAa zAi zAj GoIf GoGb zAk GoO GoD GoX GoDX GoG GoDG GoGv zAl Go zAB
section
def qT(F:List AObj)(s r p q u:Nat)(S:St)(lim cnt:Int)(ws xs:List Int):List AObj:=qua F s r p q (bxR r u S.length lim cnt) (arR u S) (.tok ws.length 1) (.tok xs.length 1)
section
variable {F : List AObj} {s r p q : Nat} {lim : Int}
theorem tkR{f:Nat}{args:List AV}{res:AV}{u u':Nat}{S S':St}{lim cnt lim' cnt':Int}(h:∀G:List AObj,s<G.length->r<G.length->DCalls Try.prog f args (hpR G s r u S lim cnt) res (hpR G s r u' S' lim' cnt'))
 (hD:QuaD F s r p q) (ws xs:List Int):DCalls Try.prog f args (qT F s r p q u S lim cnt ws xs) res (qT F s r p q u' S' lim' cnt' ws xs):=h _ (by simpa using hD.hs) (by simpa using hD.hr)
theorem tkqB(hD:QuaD F s r p q){b v v2 v' v2' n n' j1 j2 j3 j4:Nat}{S S':St}{lim cnt lim' cnt':Int}(hb:∀x∈(qua F s r p q (bxR r v n lim cnt) (arR v2 S) (.tok j1 1) (.tok j2 1)).take b,x.bel b=true):
 ∀x∈(qua F s r p q (bxR r v' n' lim' cnt') (arR v2' S') (.tok j3 1) (.tok j4 1)).take b,x.bel b=true:=zfL hD (fun h=>zeB h) (zd4 _ _ _) (fun _=>rfl) rfl hb
theorem zo7(hD:QuaD F s r p q){v:Nat}{L:Mem}{cnt:Int}{n w:Nat}{x:Int}(hw:Wf L.st)(hn:n<L.length)(hr:L.st.root n=w){Z:List (Int×Int)}(hz:Z.length<=1000000)(hx:mget Z (w:Int)=some x):
 DCalls Try.prog 143 [.bptr s 0,.int .i64 n,.sl ((Z.map Prod.fst).map I64) (.own p),.sl ((Z.map Prod.snd).map I64) (.own q)] (qT F s r p q v L.st lim cnt (Z.map Prod.fst) (Z.map Prod.snd))
  (.tup [.int .i64 x,.sl ((Z.map Prod.fst).map I64) (.own p),.sl ((Z.map Prod.snd).map I64) (.own q)]) (qT F s r p q v L.st lim cnt (Z.map Prod.fst) (Z.map Prod.snd)):=by
 have hne:r≠s:=fun e=>hD.d1.1 e.symm
 have qr:=fun(F:List AObj) (hD:QuaD F s r p q)=>tkR (fun G hs hr=>zgO (F:=G) (v:=v) (lim:=lim) (cnt:=cnt) hs hr hne hw n (by rw[Mem.zXR];exact hn)) hD (Z.map Prod.fst) (Z.map Prod.snd)
 rw[hr]at qr
 have hf:=fun i=>zon Z (w:Int) i
 have hk:=zop Z _ _ hx
 have hl1:(Z.map Prod.fst).length=Z.length:=by simp
 have hl2:(Z.map Prod.snd).length=Z.length:=by simp
 rw[<-hl1]at hf hl2 hz
 rw[hx]at hf
 generalize Z.map Prod.fst=ws at*
 generalize Z.map Prod.snd=xs at*
 have hmax:ws.length<=maxLen:=by rw[zPC];omega
 unfold DCalls
 unfold qT at qr
 unfold bxR arR at qr
 refine eO C_ok Try.func143 Try.results143 fun ok=> ?_
 have h:=YAN
 repeat' (first
  |(with_reducible first|apply bA|apply bB|apply bC|apply bD|apply bE|apply bF)<;>intro h
  |((first|apply bG|apply bH);simp only[yP,yQ,W2,qT,bxR,arR,quaP hD,znE,znD,yN,yO,implies_true];refine zIA (qr _ (by first|exact hD|exact hD.app _)) (.inl rfl) (fun hb=>tkqB (by first|exact hD|exact hD.app _) hb) ?_)
  |skip)<;>simp only[h,↓zaL,↓zHC,WY,reduceIte,yA,yB,yC,yD,reduceCtorEq,yE,yF,W1,WS,qT,bxR,arR,quaP hD,znE,znD,yN,yO,implies_true]
 refine zCN [11,0,1,2,3] ?_
 simp only[List.map_cons,List.map_nil,↓zaL,↓zHC,WY,reduceIte,yA,yB,yC,yD,reduceCtorEq,yE,yF,W1,WS]
 refine zJ1 1 (fun i:Nat=> [(11,.int .i64 i)]) (fun _=>qT F s r p q v L.st lim cnt ws xs) (fun i=>i<=ws.length/\∀j,j<i->ws.getD j 0≠(w:Int)) (fun i=>ws.length-i) C_ok 0 rfl rfl ⟨YAX _,fun j hj=>by omega⟩ (by decide) ?_
 rintro i ⟨hi,h1⟩
 simp only[List.drop_succ_cons,List.drop_zero,List.cons_append,List.nil_append]
 by_cases hlt:i<ws.length
 ·have g1:(ws.map I64).getD i .any= .int .i64 (ws.getD i 0):=zOt hlt
  by_cases e:ws.getD i 0=(w:Int)
  ·have hxi:=hf i hlt h1 e
   have eb:((w:Int)==(w:Int))=true:=by simp
   have hlt2:i<xs.length:=by omega
   have g2:(xs.map I64).getD i .any= .int .i64 (xs.getD i 0):=zOt hlt2
   rw[e]at g1
   rw[<-Option.some.inj hxi]at g2
   have h:=YAN
   repeat' (first
    |(with_reducible first|apply bA|apply bB|apply bC|apply bD|apply bE|apply bF)<;>intro h
    |skip)<;>simp only[h,↓zaL,↓zHC,WY,reduceIte,yA,yB,yC,yD,reduceCtorEq,yE,yF,W1,WS,qT,bxR,arR,quaP hD,znE,znD,yN,yO,hlt,hlt2,YAK,g1,g2,eb]
   all_goals first|rfl|exact⟨rfl,rfl⟩|(simp only[zLy,hD.hp,hD.hq,decide_true,Bool.and_true];done)|trace_state
  ·have eb:(ws.getD i 0==(w:Int))=false:=YAZ.2 e
   have h:=YAN
   repeat' (first
    |(with_reducible first|apply bA|apply bB|apply bC|apply bD|apply bE|apply bF)<;>intro h
    |skip)<;>simp only[h,↓zaL,↓zHC,WY,reduceIte,yA,yB,yC,yD,reduceCtorEq,yE,yF,W1,WS,qT,bxR,arR,quaP hD,hlt,YAK,g1,eb]
   refine⟨i+1,⟨hlt,fun j hj=> ?_⟩,by omega,zap rfl ?_⟩
   ·by_cases e2:j=i
    ·subst e2;exact e
    ·exact h1 j (by omega)
   ·simp only[WK,↓zaL,↓zHC,yA,reduceIte,yN,yO,yR,yP,yQ,yB,yC,zbX hlt hmax]
 ·exfalso
  obtain⟨j,hj,ej⟩:=List.mem_iff_getElem.1 hk
  exact h1 j (by omega) (by simp[hj,ej])
theorem zoq{ws:List Int}{w:Int}:ws.map I64++ [.int .i64 w]=(ws++ [w]).map I64:=by simp[I64]
theorem zpA{S:St}{to:List (Int×Int)}{n0:Nat}(h0:n0<S.length){n v:Nat}{L:Mem}{M:List (Int×Int)}{cnt:Int}(hn:n<S.length)(hc:CI S to (cpT S to n0) lim L M cnt)(hb:to.length+(cpT S to n0).length<=900000)(hbL:L.length<=1000000)
 (h1:mget to (S.root n:Int)=none) (h2:hld S to (S.root n)=false) (hD:QuaD F s r p q):
 DCalls Try.prog 143 [.bptr s 0,.int .i64 n,.sl (((to++M).map Prod.fst).map I64) (.own p),.sl (((to++M).map Prod.snd).map I64) (.own q)] (qT F s r p q v L.st lim cnt ((to++M).map Prod.fst) ((to++M).map Prod.snd))
  (.tup [.int .i64 (S.root n:Nat),.sl (((to++M).map Prod.fst).map I64) (.own p),.sl (((to++M).map Prod.snd).map I64) (.own q)]) (qT F s r p q v L.st lim cnt ((to++M).map Prod.fst) ((to++M).map Prod.snd)):=by
 have h3:mget M (S.root n:Int)=none:=Option.not_isSome_iff_eq_none.1 fun h=>by
  obtain⟨z,e,hz⟩:=hc.key _ ((zoo _ _).1 h)
  obtain rfl:S.root n=z:=by omega
  rw[(zol.1 hz).2.2]at h2;cases h2
 have hne:r≠s:=fun e=>hD.d1.1 e.symm
 have hwf:=hc.sm.wf0
 have hwL:=hc.sm.wf
 have hll:=Mem.zXR L
 have hlen:=hc.sm.len
 have hrl:S.root n<S.length:=hwf.root_lt n hn
 have hrt:L.st.root n=S.root n:=hc.sm.rt n hn
 have hrr:L.st.root (S.root n)=S.root n:=by rw[hc.sm.rt _ hrl,hwf.zUQ]
 have ht:=zqF h0 hc hrl
 have hz:mget (to++M) (S.root n:Int)=none:=by rw[zom,h1];exact h3
 have hzl:(to++M).length<=1000000:=by have:=hc.tle;simp;omega
 have qr:=fun(F:List AObj) (hD:QuaD F s r p q)=>tkR (fun G hs hr=>zgO (F:=G) (v:=v) (lim:=lim) (cnt:=cnt) hs hr hne hwL n (by omega)) hD ((to++M).map Prod.fst) ((to++M).map Prod.snd)
 rw[hrt]at qr
 have qt:=fun(F:List AObj) (hD:QuaD F s r p q)=>tkR (fun G hs hr=>zpj (F:=G) (v:=v) (lim:=lim) (cnt:=cnt) hs hr hne hwL (by omega) (S.root n) (by omega) ((to++M).map Prod.fst)) hD ((to++M).map Prod.fst) ((to++M).map Prod.snd)
 rw[ht,h2]at qt
 have hf:=fun i=>zon (to++M) (S.root n:Int) i
 rw[hz]at hf
 have hl1:((to++M).map Prod.fst).length=(to++M).length:=by simp
 have hl2:((to++M).map Prod.snd).length=(to++M).length:=by simp
 rw[<-hl1]at hf hl2 hzl
 generalize (to++M).map Prod.fst=ws at*
 generalize (to++M).map Prod.snd=xs at*
 have hmax:ws.length<=maxLen:=by rw[zPC];omega
 generalize S.root n=w at*
 unfold DCalls
 unfold qT bxR arR at qr qt
 refine eO C_ok Try.func143 Try.results143 fun ok=> ?_
 have h:=YAN
 repeat' (first
  |(with_reducible first|apply bA|apply bB|apply bC|apply bD|apply bE|apply bF)<;>intro h
  |((first|apply bG|apply bH);simp only[yP,yQ,W2,qT,bxR,arR,quaP hD,znE,znD,yN,yO,implies_true];refine zIA (qr _ (by first|exact hD|exact hD.app _)) (.inl rfl) (fun hb=>tkqB (by first|exact hD|exact hD.app _) hb) ?_)
  |skip)<;>simp only[h,↓zaL,↓zHC,WY,reduceIte,yA,yB,yC,yD,reduceCtorEq,yE,yF,W1,WS,qT,bxR,arR,quaP hD,znE,znD,yN,yO,implies_true]
 refine zCN [11,0,1,2,3] ?_
 simp only[List.map_cons,List.map_nil,↓zaL,↓zHC,WY,reduceIte,yA,yB,yC,yD,reduceCtorEq,yE,yF,W1,WS]
 refine zJ1 1 (fun i:Nat=> [(11,.int .i64 i)]) (fun _=>qT F s r p q v L.st lim cnt ws xs) (fun i=>i<=ws.length/\∀j,j<i->ws.getD j 0≠(w:Int)) (fun i=>ws.length-i) C_ok 0 rfl rfl ⟨YAX _,fun j hj=>by omega⟩ (by decide) ?_
 rintro i ⟨hi,hi1⟩
 simp only[List.drop_succ_cons,List.drop_zero,List.cons_append,List.nil_append]
 by_cases hlt:i<ws.length
 ·have g1:(ws.map I64).getD i .any= .int .i64 (ws.getD i 0):=zOt hlt
  by_cases e:ws.getD i 0=(w:Int)
  ·have hxi:=hf i hlt hi1 e;cases hxi
  ·have eb:(ws.getD i 0==(w:Int))=false:=YAZ.2 e
   have h1:=hi1
   have h:=YAN
   repeat' (first
    |(with_reducible first|apply bA|apply bB|apply bC|apply bD|apply bE|apply bF)<;>intro h
    |skip)<;>simp only[h,↓zaL,↓zHC,WY,reduceIte,yA,yB,yC,yD,reduceCtorEq,yE,yF,W1,WS,qT,bxR,arR,quaP hD,hlt,YAK,g1,eb]
   refine⟨i+1,⟨hlt,fun j hj=> ?_⟩,by omega,zap rfl ?_⟩
   ·by_cases e2:j=i
    ·subst e2;exact e
    ·exact h1 j (by omega)
   ·simp only[WK,↓zaL,↓zHC,yA,reduceIte,yN,yO,yR,yP,yQ,yB,yC,zbX hlt hmax]
 ·have hi':i=ws.length:=by omega
  subst hi'
  have h:=YAN
  repeat' (first
   |(with_reducible first|apply bA|apply bB|apply bC|apply bD|apply bE|apply bF)<;>intro h
   |((first|apply bG|apply bH);simp only[yP,yQ,W2,qT,bxR,arR,quaP hD,znE,znD,yN,yO,YAK,Nat.lt_irrefl,Int.lt_irrefl,zLz];refine zIA (qt _ (by first|exact hD|exact hD.app _)) (.inl rfl) (fun hb=>tkqB (by first|exact hD|exact hD.app _) hb) ?_)
   |skip)<;>simp only[h,↓zaL,↓zHC,WY,reduceIte,yA,yB,yC,yD,reduceCtorEq,yE,yF,W1,WS,qT,bxR,arR,quaP hD,znE,znD,yN,yO,YAK,Nat.lt_irrefl,Int.lt_irrefl,zLz]
  all_goals first|rfl|exact⟨rfl,rfl⟩|(simp only[zLy,hD.hp,hD.hq,decide_true,Bool.and_true];done)|trace_state
end
end
section
section
variable {F : List AObj} {s r p q : Nat} {lim : Int}
def RCp(s r p q:Nat)(lim:Int)(to:List (Int×Int))(n v:Nat)(L:Mem)(M:List (Int×Int))(cnt:Int)(v':Nat)(L':Mem)(M':List (Int×Int))(x:Nat):Prop:=∀F:List AObj,QuaD F s r p q->
 DCalls Try.prog 143 [.bptr s 0,.int .i64 n,.sl (((to++M).map Prod.fst).map I64) (.own p),.sl (((to++M).map Prod.snd).map I64) (.own q)] (qT F s r p q v L.st lim cnt ((to++M).map Prod.fst) ((to++M).map Prod.snd))
  (.tup [.int .i64 x,.sl (((to++M').map Prod.fst).map I64) (.own p),.sl (((to++M').map Prod.snd).map I64) (.own q)]) (qT F s r p q v' L'.st lim (cnt+((M'.length:Int)-M.length)) ((to++M').map Prod.fst) ((to++M').map Prod.snd))
theorem zpC{S:St}{to:List (Int×Int)}{n0:Nat}(h0:n0<S.length){n v:Nat}{L:Mem}{M:List (Int×Int)}{cnt cnt1 cnt2:Int}(hn:n<S.length)(hin:∀z,Rch S n z->Rch S n0 z)(hc:CI S to (cpT S to n0) lim L M cnt)(hb:to.length+(cpT S to n0).length<=900000)(hbL:L.length<=1000000)
 {i0 j0 v1:Nat} {L1:Mem} {M1:List (Int×Int)} {a1 v2:Nat} {L2:Mem} {M2:List (Int×Int)} {a2:Nat} (h1:mget to (S.root n:Int)=none) (h2:hld S to (S.root n)=true) (h3:mget M (S.root n:Int)=none) (hk:S.kids (S.root n)=[i0,j0]) (h6:S.kind (S.root n)=7\/S.kind (S.root n)=9)
 (ec1:cnt1=cnt+((M1.length:Int)-M.length)) (ec:cnt2=cnt+((M2.length:Int)-M.length)) (hc0:0<=cnt2) (hlim:lim<=1000000) (hb2:L2.length<=1000000) (q1:RCp s r p q lim to i0 v L M cnt v1 L1 M1 a1) (q2:RCp s r p q lim to j0 v1 L1 M1 cnt1 v2 L2 M2 a2) (hM2:mget M2 (S.root n:Int)=none)
 (c2:CI S to (cpT S to n0) lim L2 M2 cnt2) (ha1:a1<L2.length) (ha2:a2<L2.length) (hs1:s≠r):
 RCp s r p q lim to n v L M cnt (v2+1) (L2++ [(⟨S.kind (S.root n),0,none,[a1,a2]⟩,0)]) (mput M2 (S.root n:Int) L2.length) L2.length:=by
 intro F hD
 have hne:r≠s:=fun e=>hD.d1.1 e.symm
 have hwf:=hc.sm.wf0
 have hwL:=hc.sm.wf
 have hll:=Mem.zXR L
 have hlen:=hc.sm.len
 have hrl:S.root n<S.length:=hwf.root_lt n hn
 have hrt:L.st.root n=S.root n:=hc.sm.rt n hn
 have hrr:L.st.root (S.root n)=S.root n:=by rw[hc.sm.rt _ hrl,hwf.zUQ]
 have ht:=zqF h0 hc hrl
 have hz:mget (to++M) (S.root n:Int)=none:=by rw[zom,h1];exact h3
 have hzl:(to++M).length<=1000000:=by have:=hc.tle;simp;omega
 have qr:=fun(F:List AObj) (hD:QuaD F s r p q)=>tkR (fun G hs hr=>zgO (F:=G) (v:=v) (lim:=lim) (cnt:=cnt) hs hr hne hwL n (by omega)) hD ((to++M).map Prod.fst) ((to++M).map Prod.snd)
 rw[hrt]at qr
 have qt:=fun(F:List AObj) (hD:QuaD F s r p q)=>tkR (fun G hs hr=>zpj (F:=G) (v:=v) (lim:=lim) (cnt:=cnt) hs hr hne hwL (by omega) (S.root n) (by omega) ((to++M).map Prod.fst)) hD ((to++M).map Prod.fst) ((to++M).map Prod.snd)
 rw[ht,h2]at qt
 have hf:=fun i=>zon (to++M) (S.root n:Int) i
 rw[hz]at hf
 have hl1:((to++M).map Prod.fst).length=(to++M).length:=by simp
 have hl2:((to++M).map Prod.snd).length=(to++M).length:=by simp
 have qk:=fun(F:List AObj) (hD:QuaD F s r p q)=>tkR (fun G hs hr=>zfo (F:=G) (v:=v) (lim:=lim) (cnt:=cnt) hs hr hne hwL (S.root n) (by omega)) hD ((to++M).map Prod.fst) ((to++M).map Prod.snd)
 rw[hrr,show L.st.kids (S.root n)=S.kids (S.root n)by rw[St.kids,hc.sm.nd _ hrl];rfl,hk]at qk
 have hll2:=Mem.zXR L2
 have hlen2:=c2.sm.len
 have qd:=fun(F:List AObj) (hD:QuaD F s r p q)=>tkR (fun G hs hr=>zfq (F:=G) (v:=v2) (lim:=lim) (cnt:=cnt2) hs hr hne c2.sm.wf (S.root n) (by omega)) hD ((to++M2).map Prod.fst) ((to++M2).map Prod.snd)
 rw[show L2.st.kind (L2.st.root (S.root n))=S.kind (S.root n)by rw[c2.sm.rt _ hrl,hwf.zUQ,St.kind,c2.sm.nd _ hrl];rfl]at qd
 have hT:S.root n∈cpT S to n0:=zol.2 ⟨(hwf.zPE h0).2 (hin _ (.here n)),by omega,h2⟩
 obtain⟨hrm1,hrm2⟩:=c2.zoh hT hM2
 have hcn:=c2.room
 have hm2:=c2.tle
 have qm:=fun(F:List AObj) (hD:QuaD F s r p q)=>tkR (fun G hs hr=>zf5 (F:=G) (v:=v2) (S:=L2.st) (lim:=lim) (cnt:=cnt2) hs hr hne (S.kind (S.root n)) a1 a2 h6 (by omega) (by omega) (by omega) (by omega) ⟨hc0,by omega⟩) hD ((to++M2).map Prod.fst) ((to++M2).map Prod.snd)
 rw[hll2]at qm
 unfold RCp at q1 q2
 rw[<-ec1]at q1
 rw[show cnt1+((M2.length:Int)-M1.length)=cnt2 by omega]at q2
 have e0:(L2++ [(⟨S.kind (S.root n),0,none,[a1,a2]⟩,0)]:Mem).st=L2.st++ [⟨S.kind (S.root n),0,none,[a1,a2]⟩]:=Mem.zXM L2 _
 have e1:(to++mput M2 (S.root n:Int) L2.length).map Prod.fst=(to++M2).map Prod.fst++ [(S.root n:Int)]:=by rw[zor _ _ _ hM2];simp
 have e2:(to++mput M2 (S.root n:Int) L2.length).map Prod.snd=(to++M2).map Prod.snd++ [(L2.length:Int)]:=by rw[zor _ _ _ hM2];simp
 have e3:cnt+(((mput M2 (S.root n:Int) L2.length).length:Int)-M.length)=cnt2+1:=by rw[zor _ _ _ hM2,ec];simp;omega
 rw[e0,e1,e2,e3]
 have hl3:((to++M2).map Prod.fst).length=(to++M2).length:=by simp
 have hl4:((to++M2).map Prod.snd).length=(to++M2).length:=by simp
 have hl5:(to++M2).length<=900000:=by simp;omega
 rw[<-hl1]at hf hl2 hzl
 generalize (to++M).map Prod.fst=ws at*
 generalize (to++M).map Prod.snd=xs at*
 generalize (to++M1).map Prod.fst=ws1 at*
 generalize (to++M1).map Prod.snd=xs1 at*
 generalize (to++M2).map Prod.fst=ws2 at*
 generalize (to++M2).map Prod.snd=xs2 at*
 have hmax:ws.length<=maxLen:=by rw[zPC];omega
 have b1:(ws2.length+1<=9223372036854775807)=True:=by simp only[YAb,iff_true];omega
 have b2:((ws2.length+1)*8<=140737488355328)=True:=by simp only[YAb,iff_true];omega
 have b3:(xs2.length+1<=9223372036854775807)=True:=by simp only[YAb,iff_true];omega
 have b4:((xs2.length+1)*8<=140737488355328)=True:=by simp only[YAb,iff_true];omega
 rw[<-zoq,<-zoq]
 generalize S.kind (S.root n)=kd at*
 generalize S.root n=w at*
 unfold DCalls
 unfold qT bxR arR at qr qt qk q1 q2 qd qm
 refine eO C_ok Try.func143 Try.results143 fun ok=> ?_
 have h:=YAN
 repeat' (first
  |(with_reducible first|apply bA|apply bB|apply bC|apply bD|apply bE|apply bF)<;>intro h
  |((first|apply bG|apply bH);simp only[yP,yQ,W2,qT,bxR,arR,quaP hD,znE,znD,yN,yO,implies_true];refine zIA (qr _ (by first|exact hD|exact hD.app _)) (.inl rfl) (fun hb=>tkqB (by first|exact hD|exact hD.app _) hb) ?_)
  |skip)<;>simp only[h,↓zaL,↓zHC,WY,reduceIte,yA,yB,yC,yD,reduceCtorEq,yE,yF,W1,WS,qT,bxR,arR,quaP hD,znE,znD,yN,yO,implies_true]
 refine zCN [11,0,1,2,3] ?_
 simp only[List.map_cons,List.map_nil,↓zaL,↓zHC,WY,reduceIte,yA,yB,yC,yD,reduceCtorEq,yE,yF,W1,WS]
 refine zJ1 1 (fun i:Nat=> [(11,.int .i64 i)]) (fun _=>qT F s r p q v L.st lim cnt ws xs) (fun i=>i<=ws.length/\∀j,j<i->ws.getD j 0≠(w:Int)) (fun i=>ws.length-i) C_ok 0 rfl rfl ⟨YAX _,fun j hj=>by omega⟩ (by decide) ?_
 rintro i ⟨hi,hi1⟩
 simp only[List.drop_succ_cons,List.drop_zero,List.cons_append,List.nil_append]
 by_cases hlt:i<ws.length
 ·have g1:(ws.map I64).getD i .any= .int .i64 (ws.getD i 0):=zOt hlt
  by_cases e:ws.getD i 0=(w:Int)
  ·have hxi:=hf i hlt hi1 e;cases hxi
  ·have eb:(ws.getD i 0==(w:Int))=false:=YAZ.2 e
   have h1:=hi1
   have h:=YAN
   repeat' (first
    |(with_reducible first|apply bA|apply bB|apply bC|apply bD|apply bE|apply bF)<;>intro h
    |skip)<;>simp only[h,↓zaL,↓zHC,WY,reduceIte,yA,yB,yC,yD,reduceCtorEq,yE,yF,W1,WS,qT,bxR,arR,quaP hD,hlt,YAK,g1,eb]
   refine⟨i+1,⟨hlt,fun j hj=> ?_⟩,by omega,zap rfl ?_⟩
   ·by_cases e2:j=i
    ·subst e2;exact e
    ·exact h1 j (by omega)
   ·simp only[WK,↓zaL,↓zHC,yA,reduceIte,yN,yO,yR,yP,yQ,yB,yC,zbX hlt hmax]
 ·have hi':i=ws.length:=by omega
  subst hi'
  have h:=YAN
  repeat' (first
   |(with_reducible first|apply bA|apply bB|apply bC|apply bD|apply bE|apply bF)<;>intro h
   |(first|refine zIA (q1 _ (by first|exact hD|exact hD.app _)) (.inl rfl) (fun hb=>tkqB (by first|exact hD|exact hD.app _) hb) ?_|refine zIA (q2 _ (by first|exact hD|exact hD.app _)) (.inl rfl) (fun hb=>tkqB (by first|exact hD|exact hD.app _) hb) ?_|((first|apply bG|apply bH);simp only[yP,yQ,W2,W3,yH,yI,yJ,yK,yL,yM,qT,bxR,arR,quaP hD,znE,znD,yN,yO,kidI,I64,YAK,Nat.lt_irrefl,Int.lt_irrefl,zLz,b1,b2,b3,b4,zCE ws2,zCE xs2,YAJ];first|refine zIA (qt _ (by first|exact hD|exact hD.app _)) (.inl rfl) (fun hb=>tkqB (by first|exact hD|exact hD.app _) hb) ?_|refine zIA (qk _ (by first|exact hD|exact hD.app _)) (.inl rfl) (fun hb=>tkqB (by first|exact hD|exact hD.app _) hb) ?_|refine zIA (qd _ (by first|exact hD|exact hD.app _)) (.inl rfl) (fun hb=>tkqB (by first|exact hD|exact hD.app _) hb) ?_|refine zIA (qm _ (by first|exact hD|exact hD.app _)) (.inl rfl) (fun hb=>tkqB (by first|exact hD|exact hD.app _) hb) ?_))
   |refine zJ9 ?_ C_ok Try.f143.ntmps rfl (by decide)
   |skip)<;>simp only[h,↓zaL,↓zHC,WY,reduceIte,yA,yB,yC,yD,reduceCtorEq,yE,yF,W1,WS,W3,yH,yI,yJ,yK,yL,yM,qT,bxR,arR,quaP hD,znE,znD,yN,yO,kidI,I64,YAK,Nat.lt_irrefl,Int.lt_irrefl,zLz,b1,b2,b3,b4,zCE ws2,zCE xs2,YAJ,zFY]
  all_goals first|rfl|exact⟨rfl,rfl⟩|(simp only[zoq,zLy,hD.hp,hD.hq,decide_true,Bool.and_true];done)|trace_state
theorem zpB{S:St}{to:List (Int×Int)}{n0:Nat}(h0:n0<S.length){n v:Nat}{L:Mem}{M:List (Int×Int)}{cnt cnt2:Int}(hn:n<S.length)(hin:∀z,Rch S n z->Rch S n0 z)(hc:CI S to (cpT S to n0) lim L M cnt)(hb:to.length+(cpT S to n0).length<=900000)(hbL:L.length<=1000000)
 {i0 v2:Nat} {L2:Mem} {M2:List (Int×Int)} {a1:Nat} (h1:mget to (S.root n:Int)=none) (h2:hld S to (S.root n)=true) (h3:mget M (S.root n:Int)=none) (hk:S.kids (S.root n)=[i0]) (h6:S.kind (S.root n)=8)
 (ec:cnt2=cnt+((M2.length:Int)-M.length)) (hc0:0<=cnt2) (hlim:lim<=1000000) (hb2:L2.length<=1000000) (q1:RCp s r p q lim to i0 v L M cnt v2 L2 M2 a1) (hM2:mget M2 (S.root n:Int)=none)
 (c2:CI S to (cpT S to n0) lim L2 M2 cnt2) (ha1:a1<L2.length) (hs1:s≠r):
 RCp s r p q lim to n v L M cnt (v2+1) (L2++ [(⟨S.kind (S.root n),0,none,[a1]⟩,0)]) (mput M2 (S.root n:Int) L2.length) L2.length:=by
 intro F hD
 have hne:r≠s:=fun e=>hD.d1.1 e.symm
 have hwf:=hc.sm.wf0
 have hwL:=hc.sm.wf
 have hll:=Mem.zXR L
 have hlen:=hc.sm.len
 have hrl:S.root n<S.length:=hwf.root_lt n hn
 have hrt:L.st.root n=S.root n:=hc.sm.rt n hn
 have hrr:L.st.root (S.root n)=S.root n:=by rw[hc.sm.rt _ hrl,hwf.zUQ]
 have ht:=zqF h0 hc hrl
 have hz:mget (to++M) (S.root n:Int)=none:=by rw[zom,h1];exact h3
 have hzl:(to++M).length<=1000000:=by have:=hc.tle;simp;omega
 have qr:=fun(F:List AObj) (hD:QuaD F s r p q)=>tkR (fun G hs hr=>zgO (F:=G) (v:=v) (lim:=lim) (cnt:=cnt) hs hr hne hwL n (by omega)) hD ((to++M).map Prod.fst) ((to++M).map Prod.snd)
 rw[hrt]at qr
 have qt:=fun(F:List AObj) (hD:QuaD F s r p q)=>tkR (fun G hs hr=>zpj (F:=G) (v:=v) (lim:=lim) (cnt:=cnt) hs hr hne hwL (by omega) (S.root n) (by omega) ((to++M).map Prod.fst)) hD ((to++M).map Prod.fst) ((to++M).map Prod.snd)
 rw[ht,h2]at qt
 have hf:=fun i=>zon (to++M) (S.root n:Int) i
 rw[hz]at hf
 have hl1:((to++M).map Prod.fst).length=(to++M).length:=by simp
 have hl2:((to++M).map Prod.snd).length=(to++M).length:=by simp
 have qk:=fun(F:List AObj) (hD:QuaD F s r p q)=>tkR (fun G hs hr=>zfo (F:=G) (v:=v) (lim:=lim) (cnt:=cnt) hs hr hne hwL (S.root n) (by omega)) hD ((to++M).map Prod.fst) ((to++M).map Prod.snd)
 rw[hrr,show L.st.kids (S.root n)=S.kids (S.root n)by rw[St.kids,hc.sm.nd _ hrl];rfl,hk]at qk
 have hll2:=Mem.zXR L2
 have hlen2:=c2.sm.len
 have qd:=fun(F:List AObj) (hD:QuaD F s r p q)=>tkR (fun G hs hr=>zfq (F:=G) (v:=v2) (lim:=lim) (cnt:=cnt2) hs hr hne c2.sm.wf (S.root n) (by omega)) hD ((to++M2).map Prod.fst) ((to++M2).map Prod.snd)
 rw[show L2.st.kind (L2.st.root (S.root n))=S.kind (S.root n)by rw[c2.sm.rt _ hrl,hwf.zUQ,St.kind,c2.sm.nd _ hrl];rfl]at qd
 have hT:S.root n∈cpT S to n0:=zol.2 ⟨(hwf.zPE h0).2 (hin _ (.here n)),by omega,h2⟩
 obtain⟨hrm1,hrm2⟩:=c2.zoh hT hM2
 have hcn:=c2.room
 have hm2:=c2.tle
 have qm:=fun(F:List AObj) (hD:QuaD F s r p q)=>tkR (fun G hs hr=>zf3 (F:=G) (v:=v2) (S:=L2.st) (lim:=lim) (cnt:=cnt2) hs hr hne a1 a1 (by omega) (by omega) (by omega) ⟨hc0,by omega⟩) hD ((to++M2).map Prod.fst) ((to++M2).map Prod.snd)
 rw[hll2,<-h6]at qm
 unfold RCp at q1
 rw[<-ec]at q1
 have e0:(L2++ [(⟨S.kind (S.root n),0,none,[a1]⟩,0)]:Mem).st=L2.st++ [⟨S.kind (S.root n),0,none,[a1]⟩]:=Mem.zXM L2 _
 have e1:(to++mput M2 (S.root n:Int) L2.length).map Prod.fst=(to++M2).map Prod.fst++ [(S.root n:Int)]:=by rw[zor _ _ _ hM2];simp
 have e2:(to++mput M2 (S.root n:Int) L2.length).map Prod.snd=(to++M2).map Prod.snd++ [(L2.length:Int)]:=by rw[zor _ _ _ hM2];simp
 have e3:cnt+(((mput M2 (S.root n:Int) L2.length).length:Int)-M.length)=cnt2+1:=by rw[zor _ _ _ hM2,ec];simp;omega
 rw[e0,e1,e2,e3]
 have hl3:((to++M2).map Prod.fst).length=(to++M2).length:=by simp
 have hl4:((to++M2).map Prod.snd).length=(to++M2).length:=by simp
 have hl5:(to++M2).length<=900000:=by simp;omega
 rw[<-hl1]at hf hl2 hzl
 generalize (to++M).map Prod.fst=ws at*
 generalize (to++M).map Prod.snd=xs at*
 generalize (to++M2).map Prod.fst=ws2 at*
 generalize (to++M2).map Prod.snd=xs2 at*
 have hmax:ws.length<=maxLen:=by rw[zPC];omega
 have b1:(ws2.length+1<=9223372036854775807)=True:=by simp only[YAb,iff_true];omega
 have b2:((ws2.length+1)*8<=140737488355328)=True:=by simp only[YAb,iff_true];omega
 have b3:(xs2.length+1<=9223372036854775807)=True:=by simp only[YAb,iff_true];omega
 have b4:((xs2.length+1)*8<=140737488355328)=True:=by simp only[YAb,iff_true];omega
 rw[<-zoq,<-zoq]
 generalize S.kind (S.root n)=kd at*
 generalize S.root n=w at*
 unfold DCalls
 unfold qT bxR arR at qr qt qk q1 qd qm
 refine eO C_ok Try.func143 Try.results143 fun ok=> ?_
 have h:=YAN
 repeat' (first
  |(with_reducible first|apply bA|apply bB|apply bC|apply bD|apply bE|apply bF)<;>intro h
  |((first|apply bG|apply bH);simp only[yP,yQ,W2,qT,bxR,arR,quaP hD,znE,znD,yN,yO,implies_true];refine zIA (qr _ (by first|exact hD|exact hD.app _)) (.inl rfl) (fun hb=>tkqB (by first|exact hD|exact hD.app _) hb) ?_)
  |skip)<;>simp only[h,↓zaL,↓zHC,WY,reduceIte,yA,yB,yC,yD,reduceCtorEq,yE,yF,W1,WS,qT,bxR,arR,quaP hD,znE,znD,yN,yO,implies_true]
 refine zCN [11,0,1,2,3] ?_
 simp only[List.map_cons,List.map_nil,↓zaL,↓zHC,WY,reduceIte,yA,yB,yC,yD,reduceCtorEq,yE,yF,W1,WS]
 refine zJ1 1 (fun i:Nat=> [(11,.int .i64 i)]) (fun _=>qT F s r p q v L.st lim cnt ws xs) (fun i=>i<=ws.length/\∀j,j<i->ws.getD j 0≠(w:Int)) (fun i=>ws.length-i) C_ok 0 rfl rfl ⟨YAX _,fun j hj=>by omega⟩ (by decide) ?_
 rintro i ⟨hi,hi1⟩
 simp only[List.drop_succ_cons,List.drop_zero,List.cons_append,List.nil_append]
 by_cases hlt:i<ws.length
 ·have g1:(ws.map I64).getD i .any= .int .i64 (ws.getD i 0):=zOt hlt
  by_cases e:ws.getD i 0=(w:Int)
  ·have hxi:=hf i hlt hi1 e;cases hxi
  ·have eb:(ws.getD i 0==(w:Int))=false:=YAZ.2 e
   have h1:=hi1
   have h:=YAN
   repeat' (first
    |(with_reducible first|apply bA|apply bB|apply bC|apply bD|apply bE|apply bF)<;>intro h
    |skip)<;>simp only[h,↓zaL,↓zHC,WY,reduceIte,yA,yB,yC,yD,reduceCtorEq,yE,yF,W1,WS,qT,bxR,arR,quaP hD,hlt,YAK,g1,eb]
   refine⟨i+1,⟨hlt,fun j hj=> ?_⟩,by omega,zap rfl ?_⟩
   ·by_cases e2:j=i
    ·subst e2;exact e
    ·exact h1 j (by omega)
   ·simp only[WK,↓zaL,↓zHC,yA,reduceIte,yN,yO,yR,yP,yQ,yB,yC,zbX hlt hmax]
 ·have hi':i=ws.length:=by omega
  subst hi'
  have h:=YAN
  repeat' (first
   |(with_reducible first|apply bA|apply bB|apply bC|apply bD|apply bE|apply bF)<;>intro h
   |(first|refine zIA (q1 _ (by first|exact hD|exact hD.app _)) (.inl rfl) (fun hb=>tkqB (by first|exact hD|exact hD.app _) hb) ?_|((first|apply bG|apply bH);simp only[yP,yQ,W2,W3,yH,yI,yJ,yK,yL,yM,qT,bxR,arR,quaP hD,znE,znD,yN,yO,kidI,I64,YAK,Nat.lt_irrefl,Int.lt_irrefl,zLz,b1,b2,b3,b4,zCE ws2,zCE xs2,YAJ];first|refine zIA (qt _ (by first|exact hD|exact hD.app _)) (.inl rfl) (fun hb=>tkqB (by first|exact hD|exact hD.app _) hb) ?_|refine zIA (qk _ (by first|exact hD|exact hD.app _)) (.inl rfl) (fun hb=>tkqB (by first|exact hD|exact hD.app _) hb) ?_|refine zIA (qd _ (by first|exact hD|exact hD.app _)) (.inl rfl) (fun hb=>tkqB (by first|exact hD|exact hD.app _) hb) ?_|refine zIA (qm _ (by first|exact hD|exact hD.app _)) (.inl rfl) (fun hb=>tkqB (by first|exact hD|exact hD.app _) hb) ?_))
   |refine zJ9 ?_ C_ok Try.f143.ntmps rfl (by decide)
   |skip)<;>simp only[h,↓zaL,↓zHC,WY,reduceIte,yA,yB,yC,yD,reduceCtorEq,yE,yF,W1,WS,W3,yH,yI,yJ,yK,yL,yM,qT,bxR,arR,quaP hD,znE,znD,yN,yO,kidI,I64,YAK,Nat.lt_irrefl,Int.lt_irrefl,zLz,b1,b2,b3,b4,zCE ws2,zCE xs2,YAJ,zFY]
  all_goals first|rfl|exact⟨rfl,rfl⟩|(simp only[zoq,zLy,hD.hp,hD.hq,decide_true,Bool.and_true];done)|trace_state
theorem zo9{S:St}{to:List (Int×Int)}{n0:Nat}(h0:n0<S.length)(hto:TOK S to)(hlim:lim<=1000000)(hb:to.length+(cpT S to n0).length<=900000)(hs1:s≠r){n v:Nat}{L:Mem}{M:List (Int×Int)}{v':Nat}{L':Mem}{M':List (Int×Int)}{x:Nat}(h:CpR S to n v L M v' L' M' x):
 ∀ {cnt:Int},n<S.length->(∀z,Rch S n z->Rch S n0 z)->CI S to (cpT S to n0) lim L M cnt->0<=cnt->L.length+(cpT S to n0).length<=900000+M.length->RCp s r p q lim to n v L M cnt v' L' M' x:=by
 induction h with
 |to n v L M x h1=>
  intro cnt hn hin hc hc0 hbL F hD
  rw[show cnt+((M.length:Int)-M.length)=cnt by omega]
  have:=hc.tle
  exact zo7 hD hc.sm.wf (by have:=hc.sm.len;omega) (hc.sm.rt n hn) (by simp;omega) (by rw[zom,h1])
 |old n v L M h1 h2=>
  intro cnt hn hin hc hc0 hbL F hD
  rw[show cnt+((M.length:Int)-M.length)=cnt by omega]
  have:=hc.tle
  exact zpA h0 hn hc hb (by omega) h1 h2 hD
 |made n v L M x h1 h2 h3=>
  intro cnt hn hin hc hc0 hbL F hD
  rw[show cnt+((M.length:Int)-M.length)=cnt by omega]
  have:=hc.tle
  exact zo7 hD hc.sm.wf (by have:=hc.sm.len;omega) (hc.sm.rt n hn) (by simp;omega) (by rw[zom,h1];exact h3)
 |two n v L M i j v1 L1 M1 a1 v2 L2 M2 a2 h1 h2 h3 h4 h5 h6 h7 h8 ih1 ih2=>
  intro cnt hn hin hc hc0 hbL
  have hwf:=hc.sm.wf0
  have hi:i<S.length:=hwf.zMa (i:=S.root n) (by rw[h4];simp)
  have hj:j<S.length:=hwf.zMa (i:=S.root n) (by rw[h4];simp)
  have hii:=fun z hz=>hin z (.kid n i z (by rw[h4];simp) hz)
  have hij:=fun z hz=>hin z (.kid n j z (by rw[h4];simp) hz)
  obtain⟨c1,b1,d1,g1, -⟩:=h6.kci h0 hto hi hii hc
  obtain⟨c2,b2,d2,g2, -⟩:=h7.kci h0 hto hj hij c1
  have t0:=hc.tle
  have t2:=c2.tle
  have r1:=ih1 hi hii hc hc0 hbL
  have r2:=ih2 hj hij c1 (by omega) (by omega)
  exact zpC h0 hn hin hc hb (by omega) h1 h2 h3 h4 h5 rfl (by omega) (by omega) hlim (by omega) r1 r2 h8 c2 (by omega) b2 hs1
 |one n v L M i v1 L1 M1 a1 h1 h2 h3 h4 h5 h6 h7 ih1=>
  intro cnt hn hin hc hc0 hbL
  have hwf:=hc.sm.wf0
  have hi:i<S.length:=hwf.zMa (i:=S.root n) (by rw[h4];simp)
  have hii:=fun z hz=>hin z (.kid n i z (by rw[h4];simp) hz)
  obtain⟨c1,b1,d1,g1, -⟩:=h6.kci h0 hto hi hii hc
  have t0:=hc.tle
  have t1:=c1.tle
  have r1:=ih1 hi hii hc hc0 hbL
  exact zpB h0 hn hin hc hb (by omega) h1 h2 h3 h4 h5 rfl (by omega) hlim (by omega) r1 h7 c1 b1 hs1
end
end
section
theorem zn5{G J J':List AObj}{s r v v' b:Nat}{S S':St}{lim cnt lim' cnt':Int}(hs:s<G.length)(hr:r<G.length)(hne:r≠s)(hb:b<=G.length)
 (h:∀x∈(hpR (G++J) s r v S lim cnt).take b,x.bel b=true):∀x∈(hpR (G++J') s r v' S' lim' cnt').take b,x.bel b=true:=by
 have e:∀(J:List AObj) v (S:St) (lim cnt:Int),(hpR (G++J) s r v S lim cnt).take b=(hpR G s r v S lim cnt).take b:=fun J v S lim cnt=>by
  unfold hpR;rw[<-zW9 hs hr,List.take_append_of_le_length (by rw[zXB];exact hb)]
 rw[e]at h⊢
 exact zeT hs hr hne h
theorem zqG{S:St}{rs xs:List Nat}(hl:rs.length=xs.length)(n:Nat):touS S (kidI rs) n=hld S (toM rs xs) n:=by
 unfold touS hld
 congr 1
 funext z
 rw[Bool.eq_iff_iff,zoo,zqC _ _ hl]
 simp
theorem zoO{L:Mem}{fr tt:List Int}{rs xs:List Nat}(hG:FrG L fr tt rs xs)(hlF:rs.length=fr.length):fr.map (zpU L.st)=kidI rs/\tt=kidI xs:=by
 have hll:=Mem.zXR L
 constructor
 ·apply List.ext_getElem
  ·simp[kidI];omega
  ·intro i h1 h2
   simp only[YAK]at h1
   obtain⟨f,e1,e2,e3,e4,e5,e6⟩:=hG.g i (by omega)
   have e1':fr[i]=(f:Int):=by rw[<-e1];simp[h1]
   have e3':rs[i]'(by omega)=L.st.root f:=by rw[e3];simp[show i<rs.length by omega]
   simp only[List.getElem_map,kidI,e1',e3',zpU]
   rw[if_pos ⟨by omega,by omega⟩];simp
 ·apply List.ext_getElem
  ·have:=hG.le;have:=hG.lt;simp[kidI];omega
  ·intro i h1 h2
   obtain⟨f,e1,e2,e3,e4,e5,e6⟩:=hG.g i (by have:=hG.lt;omega)
   have e5':tt[i]=((xs.getD i 0:Nat):Int):=by rw[<-e5];simp[h1]
   have hx:i<xs.length:=by have:=hG.le;have:=hG.lt;omega
   simp only[kidI,List.getElem_map,e5']
   simp[hx]
def CRc:Cfg:= {C with rdr:=fun f=>CR.rdr f||f==142}
theorem znm:zAb Try.prog CRc:=C_ok
theorem znn(t:Nat):CRc.ty t=C.ty t:=rfl
theorem znl(t:Nat):CRc.inpl t=false:=rfl
section
variable {F : List AObj} {s r v : Nat} {lim cnt rd : Int}
theorem zpE{S:St}(hs:s<F.length)(hr:r<F.length)(hne:r≠s)(n:Int)(fr tt:List Int)(h:(n<0\/(S.length:Int)<=n)\/0<=n/\n<S.length/\fr.length≠tt.length):
 DCalls Try.prog 115 [.bptr s 0,.int .i64 n,.sl (fr.map I64) .no,.sl (tt.map I64) .no] (hpR F s r v S lim cnt) (.tup [.int .i64 0,.int .i64 1]) (hpR F s r v S lim cnt):=by
 unfold DCalls
 rcases h with h|⟨h1,h2,h3⟩
 ·have q1:=fun F hs hr=>zfj (F:=F) (s:=s) (r:=r) (v:=v) (S:=S) (lim:=lim) (cnt:=cnt) hs hr hne h
  refine eD C_ok Try.func115 Try.results115 fun ok=> ?_
  have h:=YAN
  repeat' (first
   |(with_reducible first|apply bA|apply bB|apply bC|apply bD|apply bE|apply bF)<;>intro h
   |((first|apply bG|apply bH);simp only[yP,yQ,W2,hpR,bxR,arR,stP hs hr hne,zTh,zTg,yN,ze0,yO];refine zIB (q1 _ (by first|exact hs|simp<;>omega) (by first|exact hr|simp<;>omega)) (.inl rfl) ?_)
   |refine drA C_ok 7 0 ?_
   |refine drA C_ok 14 0 ?_
   |refine drA C_ok 16 0 ?_
   |skip)<;>simp only[h,↓zaL,↓zHC,WY,reduceIte,yA,yB,yC,yD,reduceCtorEq,yE,yF,W1,WS,hpR,bxR,arR,stP hs hr hne,zTh,zTg,yN,ze0,yO]
  all_goals first|exact⟨rfl,rfl⟩|rfl
 ·obtain⟨m,rfl⟩:∃m:Nat,n=m:=⟨n.toNat,by omega⟩
  have q1:=fun F hs hr=>zfl (F:=F) (s:=s) (r:=r) (v:=v) (S:=S) (lim:=lim) (cnt:=cnt) hs hr hne (n:=m) (by omega)
  have h4:((fr.length:Int) !=(tt.length:Int))=true:=by rw[bne_iff_ne];omega
  refine eD C_ok Try.func115 Try.results115 fun ok=> ?_
  have h:=YAN
  repeat' (first
   |(with_reducible first|apply bA|apply bB|apply bC|apply bD|apply bE|apply bF)<;>intro h
   |((first|apply bG|apply bH);simp only[yP,yQ,W2,hpR,bxR,arR,stP hs hr hne,zTh,zTg,yN,ze0,yO,YAK,h4];refine zIB (q1 _ (by first|exact hs|simp<;>omega) (by first|exact hr|simp<;>omega)) (.inl rfl) ?_)
   |refine drA C_ok 7 0 ?_
   |refine drA C_ok 14 0 ?_
   |refine drA C_ok 16 0 ?_
   |skip)<;>simp only[h,↓zaL,↓zHC,WY,reduceIte,yA,yB,yC,yD,reduceCtorEq,yE,yF,W1,WS,hpR,bxR,arR,stP hs hr hne,zTh,zTg,yN,ze0,yO,YAK,h4]
  all_goals first|exact⟨rfl,rfl⟩|rfl
theorem qR{S:St}(hs:s<F.length)(hr:r<F.length)(hne:r≠s){f:Nat}{args:List AV}{x:AV}(h:∀G:List AObj,s<G.length->r<G.length->DCalls Try.prog f args (hpR G s r v S lim cnt) x (hpR G s r v S lim cnt)){e:Nat->AV}{b m:Nat}{G:List AObj}(hG:G[s]?=some (bxR r v S.length lim cnt)/\G[r]?=some (arR v S)):
 zA5 Try.prog f args x (FS e G b m).obj:=qcalls_st (s:=s) (r:=r) (bx:=bxR r v S.length lim cnt) (ar:=arR v S) h (by rw[zIP];exact hG.1) (by rw[zIP];exact hG.2) rfl rfl
theorem zpF{L:Mem}(hs:s<F.length)(hr:r<F.length)(hne:r≠s)(hw:Wf L.st)(n:Nat)(hn:n<L.length){fr tt:List Int}(hfl:fr.length<=100000)(h0:0<fr.length){rs xs:List Nat}(hG:FrG L fr tt rs xs)(hB:BadF L fr tt rs):
 DCalls Try.prog 115 [.bptr s 0,.int .i64 n,.sl (fr.map I64) .no,.sl (tt.map I64) .no] (hpR F s r v L.st lim cnt) (.tup [.int .i64 0,.int .i64 1]) (hpR F s r v L.st lim cnt):=by
 have hll:=Mem.zXR L
 have q1:=fun F hs hr=>zfl (F:=F) (s:=s) (r:=r) (v:=v) (S:=L.st) (lim:=lim) (cnt:=cnt) hs hr hne (n:=n) (by omega)
 have hlt0:=hG.lt
 have hfr:fr≠[]:=by intro e;rw[e]at h0;simp at h0
 have hrow:(fr.map (zpU L.st)).length=fr.length:=by simp
 have hne0:fr.map (zpU L.st)≠[]:=by intro e;rw[e]at hrow;simp at hrow;omega
 have hroots:=zpg (v:=v) (lim:=lim) (cnt:=cnt) hs hr hne hw fr hfl
 rw[znz hne0,zqA hne0,hrow]at hroots
 have hl0:F.length<=F.length:=YAV _
 unfold DCalls
 refine eD znm Try.func115 Try.results115 fun ok=> ?_
 have h:=YAN
 repeat' (first
  |(with_reducible first|apply bA|apply bB|apply bC|apply bD|apply bE|apply bF)<;>intro h
  |((first|apply bG|apply bH);simp only[yP,yQ,W2,znn,znl,hpR,bxR,arR,stP hs hr hne,zTh,zTg,yN,ze0,YAK,hG.lt,YAO];refine zIB (q1 _ (by first|exact hs|simp<;>omega) (by first|exact hr|simp<;>omega)) (.inl rfl) ?_)
  |refine drA znm 7 0 ?_
  |refine drA znm 14 0 ?_
  |refine drA znm 16 0 ?_
  |skip)<;>simp only[h,↓zaL,↓zHC,WY,reduceIte,yA,yB,yC,yD,reduceCtorEq,yE,yF,W1,WS,znn,znl,hpR,bxR,arR,stP hs hr hne,zTh,zTg,yN,ze0,YAK,hG.lt,YAO]
 refine fsCall hroots (.inl rfl) fun v0 G0 hG0 hlen0=> ?_
 obtain⟨rfl,rfl⟩:=hG0
 refine⟨fun hb=>zn5 (J:=[]) hs hr hne hl0 (by rw[List.append_nil];exact hb),?_⟩
 have h:=YAN
 repeat' (first
  |(with_reducible first|apply bA|apply bB|apply bC|apply bD|apply bE|apply bF)<;>intro h
  |refine drA znm 7 0 ?_
  |refine drA znm 14 0 ?_
  |refine drA znm 16 0 ?_
  |skip)<;>simp only[h,↓zaL,↓zHC,WY,reduceIte,yA,yB,yC,yD,reduceCtorEq,yE,yF,W1,WS,znn,znl,hpR,bxR,arR,stP hs hr hne,zTh,zTg,yN,ze0,YAK]
 refine zCN [11,0,1,2,3,10] ?_
 simp only[List.map_cons,List.map_nil,↓zaL,↓zHC,WY,reduceIte,yA,yB,yC,yD,reduceCtorEq,yE,yF,W1,WS]
 have hmx:fr.length<=maxLen:=by rw[zPC];omega
 refine zJ1 1 (fun i:Nat=> [(11,.int .i64 i)]) (fun _=>hpR (F++ [.tok fr.length 1]) s r v L.st lim cnt) (fun i=>i<=rs.length) (fun i=>rs.length-i) znm 0 rfl rfl (YAX _) (by decide) ?_
 rintro i hi
 simp only[List.drop_succ_cons,List.drop_zero,List.cons_append,List.nil_append]
 have hlf:=hG.lf
 have hwi:∀j,j<rs.length->(fr.map (zpU L.st)).getD j 0=((rs.getD j 0:Nat):Int):=fun j hj=>by
  obtain⟨f,e1,e2,e3,e4,e5,e6⟩:=hG.g j hj
  have e1':fr[j]'(by omega)=(f:Int):=by rw[<-e1];simp[show j<fr.length by omega]
  rw[YAF,List.getElem?_map,YAI (by omega),Option.map_some,Option.getD_some,e1',zpU,if_pos ⟨by omega,by omega⟩,Int.toNat_natCast,e3]
 have htk:∀j,j<=rs.length->(fr.map (zpU L.st)).take j=kidI (rs.take j):=fun j hj=>by
  apply List.ext_getElem
  ·simp[kidI];omega
  ·intro z h1 h2
   have hz:z<rs.length:=by simp[kidI]at h2;omega
   have:=hwi z hz
   rw[YAF,YAI (by simp;omega),Option.getD_some]at this
   rw[List.getElem_take,this]
   simp[kidI,hz]
 by_cases hltr:i<rs.length
 ·obtain⟨f,ef,hf1,hf2,hf3,ex,ht1⟩:=hG.g i hltr
  have hlt:i<fr.length:=by omega
  have hlt2:i<tt.length:=by omega
  have qk:=fun F hs hr=>zfq (F:=F) (s:=s) (r:=r) (v:=v) (S:=L.st) (lim:=lim) (cnt:=cnt) hs hr hne hw f (by omega)
  rw[hf2,hf3]at qk
  have qi:=fun F hs hr=>zfl (F:=F) (s:=s) (r:=r) (v:=v) (S:=L.st) (lim:=lim) (cnt:=cnt) hs hr hne (n:=xs.getD i 0) (by omega)
  have g1:(fr.map I64).getD i .any= .int .i64 f:=by rw[zOt hlt,ef];rfl
  have g2:(tt.map I64).getD i .any= .int .i64 ((xs.getD i 0:Nat):Int):=by rw[zOt hlt2,ex];rfl
  have hwl:i<(fr.map (zpU L.st)).length:=by omega
  have g3:((fr.map (zpU L.st)).map I64).getD i .any= .int .i64 ((rs.getD i 0:Nat):Int):=by rw[zOt hwl,hwi i hltr];rfl
  have g4:((fr.map (zpU L.st)).map I64).take i=(kidI (rs.take i)).map I64:=by rw[<-List.map_take,htk i (by omega)]
  have qn:=zLc (kidI (rs.take i)) ((rs.getD i 0:Nat):Int)
  have hni:decide (((rs.getD i 0:Nat):Int)∈kidI (rs.take i))=false:=by
   rw[decide_eq_false_iff_not,zPF]
   intro hm
   obtain⟨j,hj,ej⟩:=List.mem_iff_getElem.1 hm
   simp only[List.length_take]at hj
   rw[List.getElem_take]at ej
   have e3:=hG.nd.idxOf_getElem i hltr
   rw[show rs.getD i 0=rs[i]by simp[hltr]]at ej
   rw[<-ej,hG.nd.idxOf_getElem j (by omega)]at e3
   omega
  rw[hni]at qn
  have k1:i<((fr.map (zpU L.st)).map I64).length:=by simpa using hlt
  have k2:((i:Int)<=(((fr.map (zpU L.st)).map I64).length:Nat))=True:=by simp only[YAb,iff_true];omega
  have k3:(∀y,y∈(fr.map (zpU L.st)).map I64->(cellsOf y).length=1)=True:=zCE _
  clear hwl
  generalize (fr.map (zpU L.st)).map I64=wa at*
  have h:=YAN
  repeat' (first
   |(with_reducible first|apply bA|apply bB|apply bC|apply bD|apply bE|apply bF)<;>intro h
   |((first|apply bG|apply bH);simp only[yP,yQ,W2,znn,znl,hpR,bxR,arR,stP hs hr hne,zTh,zTg,yN,ze0,YAK,hlt,hlt2,k1,k2,k3,YAQ,g1,g2,g3,g4,Int.toNat_zero,List.drop_zero,zLz,YAO];first|refine zIf (qn) (.inl rfl) ?_|refine zIj (qn) (.inl rfl) ?_|refine zIk rfl (qR hs hr hne qk (by simp[stP hs hr hne,bxR,arR])) (.inl rfl) ?_|refine zIk rfl (qR hs hr hne qi (by simp[stP hs hr hne,bxR,arR])) (.inl rfl) ?_)
   |refine drA znm 7 0 ?_
   |refine drA znm 14 0 ?_
   |refine drA znm 16 0 ?_
   |skip)<;>simp only[h,↓zaL,↓zHC,WY,reduceIte,yA,yB,yC,yD,reduceCtorEq,yE,yF,W1,WS,znn,znl,hpR,bxR,arR,stP hs hr hne,zTh,zTg,yN,ze0,YAK,hlt,hlt2,k1,k2,k3,YAQ,g1,g2,g3,g4,Int.toNat_zero,List.drop_zero,zLz,YAO]
  refine⟨i+1,by omega,by omega,zap rfl ?_⟩
  simp only[WK,↓zaL,↓zHC,yA,reduceIte,yN,yO,yR,yP,yQ,yB,yC,zbX hlt hmx]
 have hi':i=rs.length:=by omega
 subst hi'
 obtain⟨hlt,hB⟩:=hB
 have hlt2:rs.length<tt.length:=by omega
 have g1:(fr.map I64).getD rs.length .any= .int .i64 (fr.getD rs.length 0):=zOt hlt
 have g2:(tt.map I64).getD rs.length .any= .int .i64 (tt.getD rs.length 0):=zOt hlt2
 have h06:((0:Int) !=6)=true:=by decide
 rcases hB with hB|⟨f,ef,hf,hB⟩
 ·have qk:=fun F hs hr=>zfs (F:=F) (s:=s) (r:=r) (v:=v) (S:=L.st) (lim:=lim) (cnt:=cnt) hs hr hne (fr.getD rs.length 0) (by omega)
  generalize (fr.map (zpU L.st)).map I64=wa at*
  have h:=YAN
  repeat' (first
   |(with_reducible first|apply bA|apply bB|apply bC|apply bD|apply bE|apply bF)<;>intro h
   |((first|apply bG|apply bH);simp only[yP,yQ,W2,znn,znl,hpR,bxR,arR,stP hs hr hne,zTh,zTg,yN,ze0,YAK,hlt,hlt2,g1,g2,h06,yO,Int.toNat_zero,List.drop_zero];refine zIk rfl (qR hs hr hne qk (by simp[stP hs hr hne,bxR,arR])) (.inl rfl) ?_)
   |refine drA znm 7 0 ?_
   |refine drA znm 14 0 ?_
   |refine drA znm 16 0 ?_
   |skip)<;>simp only[h,↓zaL,↓zHC,WY,reduceIte,yA,yB,yC,yD,reduceCtorEq,yE,yF,W1,WS,znn,znl,hpR,bxR,arR,stP hs hr hne,zTh,zTg,yN,ze0,YAK,hlt,hlt2,g1,g2,h06,yO,Int.toNat_zero,List.drop_zero]
  all_goals first|exact⟨rfl,rfl⟩|rfl
 rw[ef]at g1
 have qk:=fun F hs hr=>zfq (F:=F) (s:=s) (r:=r) (v:=v) (S:=L.st) (lim:=lim) (cnt:=cnt) hs hr hne hw f (by omega)
 by_cases h6:L.st.kind (L.st.root f)=6
 ·rw[h6]at qk
  rcases hB with hB|⟨x,ex,hx,hB⟩
  ·have qi:=fun F hs hr=>zfj (F:=F) (s:=s) (r:=r) (v:=v) (S:=L.st) (lim:=lim) (cnt:=cnt) hs hr hne (n:=tt.getD rs.length 0) (by omega)
   generalize (fr.map (zpU L.st)).map I64=wa at*
   have h:=YAN
   repeat' (first
    |(with_reducible first|apply bA|apply bB|apply bC|apply bD|apply bE|apply bF)<;>intro h
    |((first|apply bG|apply bH);simp only[yP,yQ,W2,znn,znl,hpR,bxR,arR,stP hs hr hne,zTh,zTg,yN,ze0,YAK,hlt,hlt2,g1,g2,YAO,yO,Int.toNat_zero,List.drop_zero];first|refine zIk rfl (qR hs hr hne qk (by simp[stP hs hr hne,bxR,arR])) (.inl rfl) ?_|refine zIk rfl (qR hs hr hne qi (by simp[stP hs hr hne,bxR,arR])) (.inl rfl) ?_)
    |refine drA znm 7 0 ?_
    |refine drA znm 14 0 ?_
    |refine drA znm 16 0 ?_
    |skip)<;>simp only[h,↓zaL,↓zHC,WY,reduceIte,yA,yB,yC,yD,reduceCtorEq,yE,yF,W1,WS,znn,znl,hpR,bxR,arR,stP hs hr hne,zTh,zTg,yN,ze0,YAK,hlt,hlt2,g1,g2,YAO,yO,Int.toNat_zero,List.drop_zero]
   all_goals first|exact⟨rfl,rfl⟩|rfl
  rw[ex]at g2
  have qi:=fun F hs hr=>zfl (F:=F) (s:=s) (r:=r) (v:=v) (S:=L.st) (lim:=lim) (cnt:=cnt) hs hr hne (n:=x) (by omega)
  have hin:L.st.root f∈rs:=by
   rcases hB with h|h
   ·exact absurd h6 h
   ·exact h.2
  have hwl:rs.length<(fr.map (zpU L.st)).length:=by omega
  have g3:((fr.map (zpU L.st)).map I64).getD rs.length .any= .int .i64 ((L.st.root f:Nat):Int):=by
   have e1':fr[rs.length]'hlt=(f:Int):=by rw[<-ef];simp[hlt]
   rw[zOt hwl,YAF,List.getElem?_map,YAI hlt,Option.map_some,Option.getD_some,e1',zpU,if_pos ⟨by omega,by omega⟩,Int.toNat_natCast];rfl
  have g4:((fr.map (zpU L.st)).map I64).take rs.length=(kidI rs).map I64:=by rw[<-List.map_take,htk _ (YAV _),List.take_length]
  have qn:=zLc (kidI rs) ((L.st.root f:Nat):Int)
  rw[show decide (((L.st.root f:Nat):Int)∈kidI rs)=true by rw[YAa,zPF];exact hin]at qn
  have k1:rs.length<((fr.map (zpU L.st)).map I64).length:=by simpa using hlt
  have k2:((rs.length:Int)<=(((fr.map (zpU L.st)).map I64).length:Nat))=True:=by simp only[YAb,iff_true];omega
  have k3:(∀y,y∈(fr.map (zpU L.st)).map I64->(cellsOf y).length=1)=True:=zCE _
  clear hwl
  generalize (fr.map (zpU L.st)).map I64=wa at*
  have h:=YAN
  repeat' (first
   |(with_reducible first|apply bA|apply bB|apply bC|apply bD|apply bE|apply bF)<;>intro h
   |((first|apply bG|apply bH);simp only[yP,yQ,W2,znn,znl,hpR,bxR,arR,stP hs hr hne,zTh,zTg,yN,ze0,YAK,hlt,hlt2,k1,k2,k3,YAQ,g1,g2,g3,g4,YAO,yO,Int.toNat_zero,List.drop_zero,zLz];first|refine zIf (qn) (.inl rfl) ?_|refine zIj (qn) (.inl rfl) ?_|refine zIk rfl (qR hs hr hne qk (by simp[stP hs hr hne,bxR,arR])) (.inl rfl) ?_|refine zIk rfl (qR hs hr hne qi (by simp[stP hs hr hne,bxR,arR])) (.inl rfl) ?_)
   |refine drA znm 7 0 ?_
   |refine drA znm 14 0 ?_
   |refine drA znm 16 0 ?_
   |skip)<;>simp only[h,↓zaL,↓zHC,WY,reduceIte,yA,yB,yC,yD,reduceCtorEq,yE,yF,W1,WS,znn,znl,hpR,bxR,arR,stP hs hr hne,zTh,zTg,yN,ze0,YAK,hlt,hlt2,k1,k2,k3,YAQ,g1,g2,g3,g4,YAO,yO,Int.toNat_zero,List.drop_zero,zLz]
  all_goals first|exact⟨rfl,rfl⟩|rfl
 ·have h6':(L.st.kind (L.st.root f) !=6)=true:=bne_iff_ne.2 h6
  generalize L.st.kind (L.st.root f)=kd at*
  generalize (fr.map (zpU L.st)).map I64=wa at*
  have h:=YAN
  repeat' (first
   |(with_reducible first|apply bA|apply bB|apply bC|apply bD|apply bE|apply bF)<;>intro h
   |((first|apply bG|apply bH);simp only[yP,yQ,W2,znn,znl,hpR,bxR,arR,stP hs hr hne,zTh,zTg,yN,ze0,YAK,hlt,hlt2,g1,g2,h6',yO,Int.toNat_zero,List.drop_zero];refine zIk rfl (qR hs hr hne qk (by simp[stP hs hr hne,bxR,arR])) (.inl rfl) ?_)
   |refine drA znm 7 0 ?_
   |refine drA znm 14 0 ?_
   |refine drA znm 16 0 ?_
   |skip)<;>simp only[h,↓zaL,↓zHC,WY,reduceIte,yA,yB,yC,yD,reduceCtorEq,yE,yF,W1,WS,znn,znl,hpR,bxR,arR,stP hs hr hne,zTh,zTg,yN,ze0,YAK,hlt,hlt2,g1,g2,h6',yO,Int.toNat_zero,List.drop_zero]
  all_goals first|exact⟨rfl,rfl⟩|rfl
end
end
section
theorem zqE(rs xs:List Nat)(h:rs.length=xs.length):(toM rs xs).map Prod.snd=kidI xs:=by
 simp only[toM,kidI,List.map_map]
 have e:(Prod.snd ∘ fun p:Nat×Nat=>((p.1:Int),(p.2:Int)))=(fun k:Nat=>(k:Int)) ∘ Prod.snd:=rfl
 rw[e,<-List.map_map,List.map_snd_zip (by omega)]
theorem zoT{S:St}(hw:Wf S){to:List (Int×Int)}(hto:TOK S to){x:Nat}(hx:x<S.length)(hr:S.root x=x)(h:hld S to x=true):S.kind x=6\/7<=S.kind x:=by
 have hlk:S.link x=none:=by have:=hw.zUK x;rwa[hr]at this
 rcases hw.shape hx hlk with ⟨h5,h6,hk⟩|⟨_,h6,_⟩|⟨i,j,h6,_⟩|⟨i,h6,_⟩
 ·have:=zoV (to:=to) hw hx hr
  rw[hk,h]at this
  simp only[List.any_nil,Bool.or_false]at this
  obtain⟨t,ht⟩:=Option.isSome_iff_exists.1 this.symm
  obtain⟨a,b,e1,e2,e3,e4⟩:=hto _ _ ht
  have:a=x:=by omega
  subst this;exact .inl e3
 ·exact .inl h6
 ·right;omega
 ·right;omega
section
variable {F : List AObj} {s r v : Nat} {lim cnt rd : Int}
theorem zo2(t1 t2:AObj)(u:Nat)(S:St)(lim cnt:Int)(ws xs:List Int):qT (F++ [t1,t2]) s r F.length (F.length+1) u S lim cnt ws xs=hpR (F++ [.tok ws.length 1,.tok xs.length 1]) s r u S lim cnt:=by
 unfold qT qua hpR
 congr 1
 rw[zCX rfl,zCY rfl]
 rfl
theorem zo3(hs:s<F.length)(hr:r<F.length)(hne:r≠s)(t1 t2:AObj):QuaD (F++ [t1,t2]) s r F.length (F.length+1):=
 ⟨by simp;omega,by simp;omega,by simp,by simp,⟨fun e=>hne e.symm,by omega,by omega⟩,⟨by omega,by omega,by omega⟩⟩
theorem zpH{L:Mem}(hs:s<F.length)(hr:r<F.length)(hne:r≠s)(hw:Wf L.st)(hL:L.st.length<=1000000)(hc:0<=cnt)(hlim:lim<=65536)(hcnt:cnt<=lim)(n:Nat)(hn:n<L.length){fr tt:List Int}(hfl:fr.length<=100000)(h0:0<fr.length){rs xs:List Nat}(hG:FrG L fr tt rs xs)(hlF:rs.length=fr.length)
 (hk:lim-cnt<(cntH L.st (toM rs xs) (L.st.all n):Int)):
 DCalls Try.prog 115 [.bptr s 0,.int .i64 n,.sl (fr.map I64) .no,.sl (tt.map I64) .no] (hpR F s r v L.st lim cnt) (.tup [.int .i64 0,.int .i64 7]) (hpR F s r v L.st lim cnt):=by
 have hll:=Mem.zXR L
 have q1:=fun F hs hr=>zfl (F:=F) (s:=s) (r:=r) (v:=v) (S:=L.st) (lim:=lim) (cnt:=cnt) hs hr hne (n:=n) (by omega)
 have hlt0:=hG.lt
 have hfr:fr≠[]:=by intro e;rw[e]at h0;simp at h0
 have hrow:(fr.map (zpU L.st)).length=fr.length:=by simp
 have hne0:fr.map (zpU L.st)≠[]:=by intro e;rw[e]at hrow;simp at hrow;omega
 have hroots:=zpg (v:=v) (lim:=lim) (cnt:=cnt) hs hr hne hw fr hfl
 rw[znz hne0,zqA hne0,hrow]at hroots
 have hl0:F.length<=F.length:=YAV _
 unfold DCalls
 refine eD znm Try.func115 Try.results115 fun ok=> ?_
 have h:=YAN
 repeat' (first
  |(with_reducible first|apply bA|apply bB|apply bC|apply bD|apply bE|apply bF)<;>intro h
  |((first|apply bG|apply bH);simp only[yP,yQ,W2,znn,znl,hpR,bxR,arR,stP hs hr hne,zTh,zTg,yN,ze0,YAK,hG.lt,YAO];refine zIB (q1 _ (by first|exact hs|simp<;>omega) (by first|exact hr|simp<;>omega)) (.inl rfl) ?_)
  |refine drA znm 7 0 ?_
  |refine drA znm 14 0 ?_
  |refine drA znm 16 0 ?_
  |skip)<;>simp only[h,↓zaL,↓zHC,WY,reduceIte,yA,yB,yC,yD,reduceCtorEq,yE,yF,W1,WS,znn,znl,hpR,bxR,arR,stP hs hr hne,zTh,zTg,yN,ze0,YAK,hG.lt,YAO]
 refine fsCall hroots (.inl rfl) fun v0 G0 hG0 hlen0=> ?_
 obtain⟨rfl,rfl⟩:=hG0
 refine⟨fun hb=>zn5 (J:=[]) hs hr hne hl0 (by rw[List.append_nil];exact hb),?_⟩
 have h:=YAN
 repeat' (first
  |(with_reducible first|apply bA|apply bB|apply bC|apply bD|apply bE|apply bF)<;>intro h
  |refine drA znm 7 0 ?_
  |refine drA znm 14 0 ?_
  |refine drA znm 16 0 ?_
  |skip)<;>simp only[h,↓zaL,↓zHC,WY,reduceIte,yA,yB,yC,yD,reduceCtorEq,yE,yF,W1,WS,znn,znl,hpR,bxR,arR,stP hs hr hne,zTh,zTg,yN,ze0,YAK]
 refine zCN [11,0,1,2,3,10] ?_
 simp only[List.map_cons,List.map_nil,↓zaL,↓zHC,WY,reduceIte,yA,yB,yC,yD,reduceCtorEq,yE,yF,W1,WS]
 have hmx:fr.length<=maxLen:=by rw[zPC];omega
 refine zJ1 1 (fun i:Nat=> [(11,.int .i64 i)]) (fun _=>hpR (F++ [.tok fr.length 1]) s r v L.st lim cnt) (fun i=>i<=rs.length) (fun i=>rs.length-i) znm 0 rfl rfl (YAX _) (by decide) ?_
 rintro i hi
 simp only[List.drop_succ_cons,List.drop_zero,List.cons_append,List.nil_append]
 have hlf:=hG.lf
 have hwi:∀j,j<rs.length->(fr.map (zpU L.st)).getD j 0=((rs.getD j 0:Nat):Int):=fun j hj=>by
  obtain⟨f,e1,e2,e3,e4,e5,e6⟩:=hG.g j hj
  have e1':fr[j]'(by omega)=(f:Int):=by rw[<-e1];simp[show j<fr.length by omega]
  rw[YAF,List.getElem?_map,YAI (by omega),Option.map_some,Option.getD_some,e1',zpU,if_pos ⟨by omega,by omega⟩,Int.toNat_natCast,e3]
 have htk:∀j,j<=rs.length->(fr.map (zpU L.st)).take j=kidI (rs.take j):=fun j hj=>by
  apply List.ext_getElem
  ·simp[kidI];omega
  ·intro z h1 h2
   have hz:z<rs.length:=by simp[kidI]at h2;omega
   have:=hwi z hz
   rw[YAF,YAI (by simp;omega),Option.getD_some]at this
   rw[List.getElem_take,this]
   simp[kidI,hz]
 by_cases hltr:i<rs.length
 ·obtain⟨f,ef,hf1,hf2,hf3,ex,ht1⟩:=hG.g i hltr
  have hlt:i<fr.length:=by omega
  have hlt2:i<tt.length:=by omega
  have qk:=fun F hs hr=>zfq (F:=F) (s:=s) (r:=r) (v:=v) (S:=L.st) (lim:=lim) (cnt:=cnt) hs hr hne hw f (by omega)
  rw[hf2,hf3]at qk
  have qi:=fun F hs hr=>zfl (F:=F) (s:=s) (r:=r) (v:=v) (S:=L.st) (lim:=lim) (cnt:=cnt) hs hr hne (n:=xs.getD i 0) (by omega)
  have g1:(fr.map I64).getD i .any= .int .i64 f:=by rw[zOt hlt,ef];rfl
  have g2:(tt.map I64).getD i .any= .int .i64 ((xs.getD i 0:Nat):Int):=by rw[zOt hlt2,ex];rfl
  have hwl:i<(fr.map (zpU L.st)).length:=by omega
  have g3:((fr.map (zpU L.st)).map I64).getD i .any= .int .i64 ((rs.getD i 0:Nat):Int):=by rw[zOt hwl,hwi i hltr];rfl
  have g4:((fr.map (zpU L.st)).map I64).take i=(kidI (rs.take i)).map I64:=by rw[<-List.map_take,htk i (by omega)]
  have qn:=zLc (kidI (rs.take i)) ((rs.getD i 0:Nat):Int)
  have hni:decide (((rs.getD i 0:Nat):Int)∈kidI (rs.take i))=false:=by
   rw[decide_eq_false_iff_not,zPF]
   intro hm
   obtain⟨j,hj,ej⟩:=List.mem_iff_getElem.1 hm
   simp only[List.length_take]at hj
   rw[List.getElem_take]at ej
   have e3:=hG.nd.idxOf_getElem i hltr
   rw[show rs.getD i 0=rs[i]by simp[hltr]]at ej
   rw[<-ej,hG.nd.idxOf_getElem j (by omega)]at e3
   omega
  rw[hni]at qn
  have k1:i<((fr.map (zpU L.st)).map I64).length:=by simpa using hlt
  have k2:((i:Int)<=(((fr.map (zpU L.st)).map I64).length:Nat))=True:=by simp only[YAb,iff_true];omega
  have k3:(∀y,y∈(fr.map (zpU L.st)).map I64->(cellsOf y).length=1)=True:=zCE _
  clear hwl
  generalize (fr.map (zpU L.st)).map I64=wa at*
  have h:=YAN
  repeat' (first
   |(with_reducible first|apply bA|apply bB|apply bC|apply bD|apply bE|apply bF)<;>intro h
   |((first|apply bG|apply bH);simp only[yP,yQ,W2,znn,znl,hpR,bxR,arR,stP hs hr hne,zTh,zTg,yN,ze0,YAK,hlt,hlt2,k1,k2,k3,YAQ,g1,g2,g3,g4,Int.toNat_zero,List.drop_zero,zLz,YAO];first|refine zIf (qn) (.inl rfl) ?_|refine zIj (qn) (.inl rfl) ?_|refine zIk rfl (qR hs hr hne qk (by simp[stP hs hr hne,bxR,arR])) (.inl rfl) ?_|refine zIk rfl (qR hs hr hne qi (by simp[stP hs hr hne,bxR,arR])) (.inl rfl) ?_)
   |refine drA znm 7 0 ?_
   |refine drA znm 14 0 ?_
   |refine drA znm 16 0 ?_
   |skip)<;>simp only[h,↓zaL,↓zHC,WY,reduceIte,yA,yB,yC,yD,reduceCtorEq,yE,yF,W1,WS,znn,znl,hpR,bxR,arR,stP hs hr hne,zTh,zTg,yN,ze0,YAK,hlt,hlt2,k1,k2,k3,YAQ,g1,g2,g3,g4,Int.toNat_zero,List.drop_zero,zLz,YAO]
  refine⟨i+1,by omega,by omega,zap rfl ?_⟩
  simp only[WK,↓zaL,↓zHC,yA,reduceIte,yN,yO,yR,yP,yQ,yB,yC,zbX hlt hmx]
 have hi':i=rs.length:=by omega
 subst hi'
 obtain⟨er,et⟩:=zoO hG hlF
 rw[er]at*
 have hwr:Wf L.st:=hw
 have qa:=fun F hs hr=>zfU (F:=F) (s:=s) (r:=r) (v:=v) (S:=L.st) (lim:=lim) (cnt:=cnt) hs hr hne hw hL n (by omega)
 have hal:(L.st.all n).length<=1000000:=Nat.le_trans (zd2 hw (by omega)) hL
 have hmx2:(L.st.all n).length<=maxLen:=by rw[zPC];omega
 have hrl:∀x∈L.st.all n,x<L.st.length/\L.st.root x=x:=fun x hx=>by
  have:=(hw.zPE (by omega)).1 hx
  exact⟨this.lt hw (by omega),this.root hw⟩
 have hto:=hG.zoP hw
 have hkd:∀x,(L.st.nd x).kind=L.st.kind x:=fun x=>rfl
 have qt0:=fun x (hx:x<L.st.length) F hs hr=>zpj (F:=F) (s:=s) (r:=r) (v:=v) (S:=L.st) (lim:=lim) (cnt:=cnt) hs hr hne hw hL x hx (kidI rs)
 simp only[zqG hG.le]at qt0
 have hhk:=fun x (hx:x∈L.st.all n)=>zoT hw hto (hrl x hx).1 (hrl x hx).2
 skip
 generalize toM rs xs=to at*
 generalize L.st.all n=ks at*
 have h:=YAN
 repeat' (first
  |(with_reducible first|apply bA|apply bB|apply bC|apply bD|apply bE|apply bF)<;>intro h
  |((first|apply bG|apply bH);simp only[yP,yQ,W2,znn,znl,hpR,bxR,arR,stP hs hr hne,zTh,zTg,yN,ze0,zMZ,YAK,Nat.lt_irrefl,Int.lt_irrefl,hlF,yO];refine zIA (qa _ (by first|exact hs|simp<;>omega) (by first|exact hr|simp<;>omega)) (.inl rfl) (fun hb=>zeT (by first|exact hs|simp<;>omega) (by first|exact hr|simp<;>omega) hne hb) ?_)
  |refine drA znm 7 0 ?_
  |refine drA znm 14 0 ?_
  |refine drA znm 16 0 ?_
  |skip)<;>simp only[h,↓zaL,↓zHC,WY,reduceIte,yA,yB,yC,yD,reduceCtorEq,yE,yF,W1,WS,znn,znl,hpR,bxR,arR,stP hs hr hne,zTh,zTg,yN,ze0,zMZ,YAK,Nat.lt_irrefl,Int.lt_irrefl,hlF,yO]
 refine zCN [12,14,0,1,3,10,13] ?_
 simp only[List.map_cons,List.map_nil,↓zaL,↓zHC,WY,reduceIte,yA,yB,yC,yD,reduceCtorEq,yE,yF,W1,WS]
 refine zJ1 2 (fun i:Nat=> [(12,.int .i64 (cntH L.st to (ks.take i):Nat)),(14,.int .i64 i)]) (fun _=>hpR (F++ [.tok fr.length 1]) s r v L.st lim cnt) (fun i=>i<=ks.length) (fun i=>ks.length-i) znm 0 rfl rfl (YAX _) (by decide) ?_
 rintro i hi
 simp only[List.drop_succ_cons,List.drop_zero,List.cons_append,List.nil_append]
 by_cases hlt:i<ks.length
 ·have hmem:ks.getD i 0∈ks:=by simp[hlt]
  obtain⟨hri,hrt⟩:=hrl _ hmem
  have qt:=qt0 _ hri
  have hhk1:=hhk _ hmem
  have hstep:cntH L.st to (ks.take (i+1))=cntH L.st to (ks.take i)+if(decide (L.st.kind (ks.getD i 0)≠6)&&hld L.st to (ks.getD i 0))=true then 1 else 0:=by
   simp only[cntH]
   rw[List.take_add_one,YAI hlt,Option.toList_some,List.countP_append,List.countP_singleton]
   simp[hlt]
  have hle:cntH L.st to (ks.take i)<=1000000:=Nat.le_trans List.countP_le_length (by simp;omega)
  have w1:IntKind.wrap .i64 ((cntH L.st to (ks.take i):Nat)+1:Int)=((cntH L.st to (ks.take i)+1:Nat):Int):=by rw[zbT (by omega) (by omega)];omega
  have hkd1:=hkd (ks.getD i 0)
  by_cases h7:L.st.kind (ks.getD i 0)≥7
  ·cases hh:hld L.st to (ks.getD i 0)
   ·rw[hh]at qt hstep
    rw[if_neg (by simp only[Bool.and_false,YAB,not_false_eq_true]),Nat.add_zero]at hstep
    generalize L.st.kind (ks.getD i 0)=kd at*
    have h:=YAN
    repeat' (first
     |(with_reducible first|apply bA|apply bB|apply bC|apply bD|apply bE|apply bF)<;>intro h
     |((first|apply bG|apply bH);simp only[yP,yQ,W2,znn,znl,hpR,bxR,arR,stP hs hr hne,zTh,zTg,yN,ze0,zMZ,YAK,hlt,zMY hlt,hri,zez hri,zeI,hkd1,h7,zLz,hlF,yO];refine zIk rfl (qR hs hr hne qt (by simp[stP hs hr hne,bxR,arR])) (.inl rfl) ?_)
     |refine drA znm 7 0 ?_
     |refine drA znm 14 0 ?_
     |refine drA znm 16 0 ?_
     |skip)<;>simp only[h,↓zaL,↓zHC,WY,reduceIte,yA,yB,yC,yD,reduceCtorEq,yE,yF,W1,WS,znn,znl,hpR,bxR,arR,stP hs hr hne,zTh,zTg,yN,ze0,zMZ,YAK,hlt,zMY hlt,hri,zez hri,zeI,hkd1,h7,zLz,hlF,yO]
    refine⟨i+1,by omega,by omega,zap rfl ?_⟩
    simp only[WK,↓zaL,↓zHC,yA,reduceIte,yN,yO,yR,yP,yQ,yB,yC,zbX hlt hmx2,hstep,Nat.add_zero]
   ·rw[hh]at qt hstep
    rw[if_pos (by simp only[ne_eq,show¬L.st.kind (ks.getD i 0)=6 by omega,not_false_eq_true,decide_true,Bool.true_and])]at hstep
    generalize L.st.kind (ks.getD i 0)=kd at*
    have h:=YAN
    repeat' (first
     |(with_reducible first|apply bA|apply bB|apply bC|apply bD|apply bE|apply bF)<;>intro h
     |((first|apply bG|apply bH);simp only[yP,yQ,W2,znn,znl,hpR,bxR,arR,stP hs hr hne,zTh,zTg,yN,ze0,zMZ,YAK,hlt,zMY hlt,hri,zez hri,zeI,hkd1,h7,w1,zLz,hlF,yO];refine zIk rfl (qR hs hr hne qt (by simp[stP hs hr hne,bxR,arR])) (.inl rfl) ?_)
     |refine drA znm 7 0 ?_
     |refine drA znm 14 0 ?_
     |refine drA znm 16 0 ?_
     |skip)<;>simp only[h,↓zaL,↓zHC,WY,reduceIte,yA,yB,yC,yD,reduceCtorEq,yE,yF,W1,WS,znn,znl,hpR,bxR,arR,stP hs hr hne,zTh,zTg,yN,ze0,zMZ,YAK,hlt,zMY hlt,hri,zez hri,zeI,hkd1,h7,w1,zLz,hlF,yO]
    refine⟨i+1,by omega,by omega,zap rfl ?_⟩
    simp only[WK,↓zaL,↓zHC,yA,reduceIte,yN,yO,yR,yP,yQ,yB,yC,zbX hlt hmx2,hstep,Nat.add_zero]
  ·rw[if_neg (by
    rw[YAA,YAa]
    rintro⟨a,b⟩
    rcases hhk1 b with h|h<;>omega),Nat.add_zero]at hstep
   generalize L.st.kind (ks.getD i 0)=kd at*
   have h:=YAN
   repeat' (first
    |(with_reducible first|apply bA|apply bB|apply bC|apply bD|apply bE|apply bF)<;>intro h
    |refine drA znm 7 0 ?_
    |refine drA znm 14 0 ?_
    |refine drA znm 16 0 ?_
    |skip)<;>simp only[h,↓zaL,↓zHC,WY,reduceIte,yA,yB,yC,yD,reduceCtorEq,yE,yF,W1,WS,znn,znl,hpR,bxR,arR,stP hs hr hne,zTh,zTg,yN,ze0,zMZ,YAK,hlt,zMY hlt,hri,zez hri,zeI,hkd1,h7,zLz,hlF,yO]
   refine⟨i+1,by omega,by omega,zap rfl ?_⟩
   simp only[WK,↓zaL,↓zHC,yA,reduceIte,yN,yO,yR,yP,yQ,yB,yC,zbX hlt hmx2,hstep,Nat.add_zero]
 have hi':i=ks.length:=by omega
 subst hi'
 rw[List.take_length]
 have w2:IntKind.wrap .i64 (lim-cnt)=lim-cnt:=zbT (by omega) (by omega)
 have hng:(lim-cnt<(cntH L.st to ks:Nat))=True:=by simp only[YAb,iff_true];omega
 have h:=YAN
 repeat' (first
  |(with_reducible first|apply bA|apply bB|apply bC|apply bD|apply bE|apply bF)<;>intro h
  |refine drA znm 7 0 ?_
  |refine drA znm 14 0 ?_
  |refine drA znm 16 0 ?_
  |skip)<;>simp only[h,↓zaL,↓zHC,WY,reduceIte,yA,yB,yC,yD,reduceCtorEq,yE,yF,W1,WS,znn,znl,hpR,bxR,arR,stP hs hr hne,zTh,zTg,yN,ze0,zMZ,YAK,Nat.lt_irrefl,Int.lt_irrefl,w2,hng,zTh,zTg]
 all_goals first|exact⟨rfl,rfl⟩|rfl
theorem zpG{L:Mem}(hs:s<F.length)(hr:r<F.length)(hne:r≠s)(hw:Wf L.st)(hL:L.st.length<=1000000)(hc:0<=cnt)(hlim:lim<=65536)(hcnt:cnt<=lim)(n:Nat)(hn:n<L.length){fr tt:List Int}(hfl:fr.length<=100000)(h0:0<fr.length){rs xs:List Nat}(hG:FrG L fr tt rs xs)(hlF:rs.length=fr.length)
 (hk:(cntH L.st (toM rs xs) (L.st.all n):Int)<=lim-cnt) {x v' j1 j2:Nat} {S':St} {cnt':Int} {A B:List AV}
 (hcp:DCalls Try.prog 143 [.bptr s 0,.int .i64 n,.sl ((kidI rs).map I64) (.own F.length),.sl ((kidI xs).map I64) (.own (F.length+1))] (hpR (F++ [.tok rs.length 1,.tok xs.length 1]) s r v L.st lim cnt) (.tup [.int .i64 x,.sl A (.own F.length),.sl B (.own (F.length+1))]) (hpR (F++ [.tok j1 1,.tok j2 1]) s r v' S' lim cnt')):
 DCalls Try.prog 115 [.bptr s 0,.int .i64 n,.sl (fr.map I64) .no,.sl (tt.map I64) .no] (hpR F s r v L.st lim cnt) (.tup [.int .i64 x,.int .i64 0]) (hpR F s r v' S' lim cnt'):=by
 have hll:=Mem.zXR L
 have q1:=fun F hs hr=>zfl (F:=F) (s:=s) (r:=r) (v:=v) (S:=L.st) (lim:=lim) (cnt:=cnt) hs hr hne (n:=n) (by omega)
 have hlt0:=hG.lt
 have hfr:fr≠[]:=by intro e;rw[e]at h0;simp at h0
 have hrow:(fr.map (zpU L.st)).length=fr.length:=by simp
 have hne0:fr.map (zpU L.st)≠[]:=by intro e;rw[e]at hrow;simp at hrow;omega
 have hroots:=zpg (v:=v) (lim:=lim) (cnt:=cnt) hs hr hne hw fr hfl
 rw[znz hne0,zqA hne0,hrow]at hroots
 have hl0:F.length<=F.length:=YAV _
 unfold DCalls
 refine eD znm Try.func115 Try.results115 fun ok=> ?_
 have h:=YAN
 repeat' (first
  |(with_reducible first|apply bA|apply bB|apply bC|apply bD|apply bE|apply bF)<;>intro h
  |((first|apply bG|apply bH);simp only[yP,yQ,W2,znn,znl,hpR,bxR,arR,stP hs hr hne,zTh,zTg,yN,ze0,YAK,hG.lt,YAO];refine zIB (q1 _ (by first|exact hs|simp<;>omega) (by first|exact hr|simp<;>omega)) (.inl rfl) ?_)
  |refine drA znm 7 0 ?_
  |refine drA znm 14 0 ?_
  |refine drA znm 16 0 ?_
  |skip)<;>simp only[h,↓zaL,↓zHC,WY,reduceIte,yA,yB,yC,yD,reduceCtorEq,yE,yF,W1,WS,znn,znl,hpR,bxR,arR,stP hs hr hne,zTh,zTg,yN,ze0,YAK,hG.lt,YAO]
 refine fsCall hroots (.inl rfl) fun v0 G0 hG0 hlen0=> ?_
 obtain⟨rfl,rfl⟩:=hG0
 refine⟨fun hb=>zn5 (J:=[]) hs hr hne hl0 (by rw[List.append_nil];exact hb),?_⟩
 have h:=YAN
 repeat' (first
  |(with_reducible first|apply bA|apply bB|apply bC|apply bD|apply bE|apply bF)<;>intro h
  |refine drA znm 7 0 ?_
  |refine drA znm 14 0 ?_
  |refine drA znm 16 0 ?_
  |skip)<;>simp only[h,↓zaL,↓zHC,WY,reduceIte,yA,yB,yC,yD,reduceCtorEq,yE,yF,W1,WS,znn,znl,hpR,bxR,arR,stP hs hr hne,zTh,zTg,yN,ze0,YAK]
 refine zCN [11,0,1,2,3,10] ?_
 simp only[List.map_cons,List.map_nil,↓zaL,↓zHC,WY,reduceIte,yA,yB,yC,yD,reduceCtorEq,yE,yF,W1,WS]
 have hmx:fr.length<=maxLen:=by rw[zPC];omega
 refine zJ1 1 (fun i:Nat=> [(11,.int .i64 i)]) (fun _=>hpR (F++ [.tok fr.length 1]) s r v L.st lim cnt) (fun i=>i<=rs.length) (fun i=>rs.length-i) znm 0 rfl rfl (YAX _) (by decide) ?_
 rintro i hi
 simp only[List.drop_succ_cons,List.drop_zero,List.cons_append,List.nil_append]
 have hlf:=hG.lf
 have hwi:∀j,j<rs.length->(fr.map (zpU L.st)).getD j 0=((rs.getD j 0:Nat):Int):=fun j hj=>by
  obtain⟨f,e1,e2,e3,e4,e5,e6⟩:=hG.g j hj
  have e1':fr[j]'(by omega)=(f:Int):=by rw[<-e1];simp[show j<fr.length by omega]
  rw[YAF,List.getElem?_map,YAI (by omega),Option.map_some,Option.getD_some,e1',zpU,if_pos ⟨by omega,by omega⟩,Int.toNat_natCast,e3]
 have htk:∀j,j<=rs.length->(fr.map (zpU L.st)).take j=kidI (rs.take j):=fun j hj=>by
  apply List.ext_getElem
  ·simp[kidI];omega
  ·intro z h1 h2
   have hz:z<rs.length:=by simp[kidI]at h2;omega
   have:=hwi z hz
   rw[YAF,YAI (by simp;omega),Option.getD_some]at this
   rw[List.getElem_take,this]
   simp[kidI,hz]
 by_cases hltr:i<rs.length
 ·obtain⟨f,ef,hf1,hf2,hf3,ex,ht1⟩:=hG.g i hltr
  have hlt:i<fr.length:=by omega
  have hlt2:i<tt.length:=by omega
  have qk:=fun F hs hr=>zfq (F:=F) (s:=s) (r:=r) (v:=v) (S:=L.st) (lim:=lim) (cnt:=cnt) hs hr hne hw f (by omega)
  rw[hf2,hf3]at qk
  have qi:=fun F hs hr=>zfl (F:=F) (s:=s) (r:=r) (v:=v) (S:=L.st) (lim:=lim) (cnt:=cnt) hs hr hne (n:=xs.getD i 0) (by omega)
  have g1:(fr.map I64).getD i .any= .int .i64 f:=by rw[zOt hlt,ef];rfl
  have g2:(tt.map I64).getD i .any= .int .i64 ((xs.getD i 0:Nat):Int):=by rw[zOt hlt2,ex];rfl
  have hwl:i<(fr.map (zpU L.st)).length:=by omega
  have g3:((fr.map (zpU L.st)).map I64).getD i .any= .int .i64 ((rs.getD i 0:Nat):Int):=by rw[zOt hwl,hwi i hltr];rfl
  have g4:((fr.map (zpU L.st)).map I64).take i=(kidI (rs.take i)).map I64:=by rw[<-List.map_take,htk i (by omega)]
  have qn:=zLc (kidI (rs.take i)) ((rs.getD i 0:Nat):Int)
  have hni:decide (((rs.getD i 0:Nat):Int)∈kidI (rs.take i))=false:=by
   rw[decide_eq_false_iff_not,zPF]
   intro hm
   obtain⟨j,hj,ej⟩:=List.mem_iff_getElem.1 hm
   simp only[List.length_take]at hj
   rw[List.getElem_take]at ej
   have e3:=hG.nd.idxOf_getElem i hltr
   rw[show rs.getD i 0=rs[i]by simp[hltr]]at ej
   rw[<-ej,hG.nd.idxOf_getElem j (by omega)]at e3
   omega
  rw[hni]at qn
  have k1:i<((fr.map (zpU L.st)).map I64).length:=by simpa using hlt
  have k2:((i:Int)<=(((fr.map (zpU L.st)).map I64).length:Nat))=True:=by simp only[YAb,iff_true];omega
  have k3:(∀y,y∈(fr.map (zpU L.st)).map I64->(cellsOf y).length=1)=True:=zCE _
  clear hwl
  generalize (fr.map (zpU L.st)).map I64=wa at*
  have h:=YAN
  repeat' (first
   |(with_reducible first|apply bA|apply bB|apply bC|apply bD|apply bE|apply bF)<;>intro h
   |((first|apply bG|apply bH);simp only[yP,yQ,W2,znn,znl,hpR,bxR,arR,stP hs hr hne,zTh,zTg,yN,ze0,YAK,hlt,hlt2,k1,k2,k3,YAQ,g1,g2,g3,g4,Int.toNat_zero,List.drop_zero,zLz,YAO];first|refine zIf (qn) (.inl rfl) ?_|refine zIj (qn) (.inl rfl) ?_|refine zIk rfl (qR hs hr hne qk (by simp[stP hs hr hne,bxR,arR])) (.inl rfl) ?_|refine zIk rfl (qR hs hr hne qi (by simp[stP hs hr hne,bxR,arR])) (.inl rfl) ?_)
   |refine drA znm 7 0 ?_
   |refine drA znm 14 0 ?_
   |refine drA znm 16 0 ?_
   |skip)<;>simp only[h,↓zaL,↓zHC,WY,reduceIte,yA,yB,yC,yD,reduceCtorEq,yE,yF,W1,WS,znn,znl,hpR,bxR,arR,stP hs hr hne,zTh,zTg,yN,ze0,YAK,hlt,hlt2,k1,k2,k3,YAQ,g1,g2,g3,g4,Int.toNat_zero,List.drop_zero,zLz,YAO]
  refine⟨i+1,by omega,by omega,zap rfl ?_⟩
  simp only[WK,↓zaL,↓zHC,yA,reduceIte,yN,yO,yR,yP,yQ,yB,yC,zbX hlt hmx]
 have hi':i=rs.length:=by omega
 subst hi'
 obtain⟨er,et⟩:=zoO hG hlF
 rw[er]at*
 have hwr:Wf L.st:=hw
 have qa:=fun F hs hr=>zfU (F:=F) (s:=s) (r:=r) (v:=v) (S:=L.st) (lim:=lim) (cnt:=cnt) hs hr hne hw hL n (by omega)
 have hal:(L.st.all n).length<=1000000:=Nat.le_trans (zd2 hw (by omega)) hL
 have hmx2:(L.st.all n).length<=maxLen:=by rw[zPC];omega
 have hrl:∀x∈L.st.all n,x<L.st.length/\L.st.root x=x:=fun x hx=>by
  have:=(hw.zPE (by omega)).1 hx
  exact⟨this.lt hw (by omega),this.root hw⟩
 have hto:=hG.zoP hw
 have hkd:∀x,(L.st.nd x).kind=L.st.kind x:=fun x=>rfl
 have qt0:=fun x (hx:x<L.st.length) F hs hr=>zpj (F:=F) (s:=s) (r:=r) (v:=v) (S:=L.st) (lim:=lim) (cnt:=cnt) hs hr hne hw hL x hx (kidI rs)
 simp only[zqG hG.le]at qt0
 have hhk:=fun x (hx:x∈L.st.all n)=>zoT hw hto (hrl x hx).1 (hrl x hx).2
 skip
 generalize toM rs xs=to at*
 generalize L.st.all n=ks at*
 have h:=YAN
 repeat' (first
  |(with_reducible first|apply bA|apply bB|apply bC|apply bD|apply bE|apply bF)<;>intro h
  |((first|apply bG|apply bH);simp only[yP,yQ,W2,znn,znl,hpR,bxR,arR,stP hs hr hne,zTh,zTg,yN,ze0,zMZ,YAK,Nat.lt_irrefl,Int.lt_irrefl,hlF,yO];refine zIA (qa _ (by first|exact hs|simp<;>omega) (by first|exact hr|simp<;>omega)) (.inl rfl) (fun hb=>zeT (by first|exact hs|simp<;>omega) (by first|exact hr|simp<;>omega) hne hb) ?_)
  |refine drA znm 7 0 ?_
  |refine drA znm 14 0 ?_
  |refine drA znm 16 0 ?_
  |skip)<;>simp only[h,↓zaL,↓zHC,WY,reduceIte,yA,yB,yC,yD,reduceCtorEq,yE,yF,W1,WS,znn,znl,hpR,bxR,arR,stP hs hr hne,zTh,zTg,yN,ze0,zMZ,YAK,Nat.lt_irrefl,Int.lt_irrefl,hlF,yO]
 refine zCN [12,14,0,1,3,10,13] ?_
 simp only[List.map_cons,List.map_nil,↓zaL,↓zHC,WY,reduceIte,yA,yB,yC,yD,reduceCtorEq,yE,yF,W1,WS]
 refine zJ1 2 (fun i:Nat=> [(12,.int .i64 (cntH L.st to (ks.take i):Nat)),(14,.int .i64 i)]) (fun _=>hpR (F++ [.tok fr.length 1]) s r v L.st lim cnt) (fun i=>i<=ks.length) (fun i=>ks.length-i) znm 0 rfl rfl (YAX _) (by decide) ?_
 rintro i hi
 simp only[List.drop_succ_cons,List.drop_zero,List.cons_append,List.nil_append]
 by_cases hlt:i<ks.length
 ·have hmem:ks.getD i 0∈ks:=by simp[hlt]
  obtain⟨hri,hrt⟩:=hrl _ hmem
  have qt:=qt0 _ hri
  have hhk1:=hhk _ hmem
  have hstep:cntH L.st to (ks.take (i+1))=cntH L.st to (ks.take i)+if(decide (L.st.kind (ks.getD i 0)≠6)&&hld L.st to (ks.getD i 0))=true then 1 else 0:=by
   simp only[cntH]
   rw[List.take_add_one,YAI hlt,Option.toList_some,List.countP_append,List.countP_singleton]
   simp[hlt]
  have hle:cntH L.st to (ks.take i)<=1000000:=Nat.le_trans List.countP_le_length (by simp;omega)
  have w1:IntKind.wrap .i64 ((cntH L.st to (ks.take i):Nat)+1:Int)=((cntH L.st to (ks.take i)+1:Nat):Int):=by rw[zbT (by omega) (by omega)];omega
  have hkd1:=hkd (ks.getD i 0)
  by_cases h7:L.st.kind (ks.getD i 0)≥7
  ·cases hh:hld L.st to (ks.getD i 0)
   ·rw[hh]at qt hstep
    rw[if_neg (by simp only[Bool.and_false,YAB,not_false_eq_true]),Nat.add_zero]at hstep
    generalize L.st.kind (ks.getD i 0)=kd at*
    have h:=YAN
    repeat' (first
     |(with_reducible first|apply bA|apply bB|apply bC|apply bD|apply bE|apply bF)<;>intro h
     |((first|apply bG|apply bH);simp only[yP,yQ,W2,znn,znl,hpR,bxR,arR,stP hs hr hne,zTh,zTg,yN,ze0,zMZ,YAK,hlt,zMY hlt,hri,zez hri,zeI,hkd1,h7,zLz,hlF,yO];refine zIk rfl (qR hs hr hne qt (by simp[stP hs hr hne,bxR,arR])) (.inl rfl) ?_)
     |refine drA znm 7 0 ?_
     |refine drA znm 14 0 ?_
     |refine drA znm 16 0 ?_
     |skip)<;>simp only[h,↓zaL,↓zHC,WY,reduceIte,yA,yB,yC,yD,reduceCtorEq,yE,yF,W1,WS,znn,znl,hpR,bxR,arR,stP hs hr hne,zTh,zTg,yN,ze0,zMZ,YAK,hlt,zMY hlt,hri,zez hri,zeI,hkd1,h7,zLz,hlF,yO]
    refine⟨i+1,by omega,by omega,zap rfl ?_⟩
    simp only[WK,↓zaL,↓zHC,yA,reduceIte,yN,yO,yR,yP,yQ,yB,yC,zbX hlt hmx2,hstep,Nat.add_zero]
   ·rw[hh]at qt hstep
    rw[if_pos (by simp only[ne_eq,show¬L.st.kind (ks.getD i 0)=6 by omega,not_false_eq_true,decide_true,Bool.true_and])]at hstep
    generalize L.st.kind (ks.getD i 0)=kd at*
    have h:=YAN
    repeat' (first
     |(with_reducible first|apply bA|apply bB|apply bC|apply bD|apply bE|apply bF)<;>intro h
     |((first|apply bG|apply bH);simp only[yP,yQ,W2,znn,znl,hpR,bxR,arR,stP hs hr hne,zTh,zTg,yN,ze0,zMZ,YAK,hlt,zMY hlt,hri,zez hri,zeI,hkd1,h7,w1,zLz,hlF,yO];refine zIk rfl (qR hs hr hne qt (by simp[stP hs hr hne,bxR,arR])) (.inl rfl) ?_)
     |refine drA znm 7 0 ?_
     |refine drA znm 14 0 ?_
     |refine drA znm 16 0 ?_
     |skip)<;>simp only[h,↓zaL,↓zHC,WY,reduceIte,yA,yB,yC,yD,reduceCtorEq,yE,yF,W1,WS,znn,znl,hpR,bxR,arR,stP hs hr hne,zTh,zTg,yN,ze0,zMZ,YAK,hlt,zMY hlt,hri,zez hri,zeI,hkd1,h7,w1,zLz,hlF,yO]
    refine⟨i+1,by omega,by omega,zap rfl ?_⟩
    simp only[WK,↓zaL,↓zHC,yA,reduceIte,yN,yO,yR,yP,yQ,yB,yC,zbX hlt hmx2,hstep,Nat.add_zero]
  ·rw[if_neg (by
    rw[YAA,YAa]
    rintro⟨a,b⟩
    rcases hhk1 b with h|h<;>omega),Nat.add_zero]at hstep
   generalize L.st.kind (ks.getD i 0)=kd at*
   have h:=YAN
   repeat' (first
    |(with_reducible first|apply bA|apply bB|apply bC|apply bD|apply bE|apply bF)<;>intro h
    |refine drA znm 7 0 ?_
    |refine drA znm 14 0 ?_
    |refine drA znm 16 0 ?_
    |skip)<;>simp only[h,↓zaL,↓zHC,WY,reduceIte,yA,yB,yC,yD,reduceCtorEq,yE,yF,W1,WS,znn,znl,hpR,bxR,arR,stP hs hr hne,zTh,zTg,yN,ze0,zMZ,YAK,hlt,zMY hlt,hri,zez hri,zeI,hkd1,h7,zLz,hlF,yO]
   refine⟨i+1,by omega,by omega,zap rfl ?_⟩
   simp only[WK,↓zaL,↓zHC,yA,reduceIte,yN,yO,yR,yP,yQ,yB,yC,zbX hlt hmx2,hstep,Nat.add_zero]
 have hi':i=ks.length:=by omega
 subst hi'
 rw[List.take_length]
 have w2:IntKind.wrap .i64 (lim-cnt)=lim-cnt:=zbT (by omega) (by omega)
 have hng:(lim-cnt<(cntH L.st to ks:Nat))=False:=by simp only[YAb,iff_false];omega
 obtain⟨x0,xs',rfl⟩:∃a l,xs=a::l:=by
  cases xs with
  |nil=>have:=hG.le;rw[hlF,List.length_nil]at this;omega
  |cons a l=>exact⟨a,l,rfl⟩
 subst et
 have hx:(kidI (x0::xs')).map I64= .int .i64 x0::(kidI xs').map I64:=rfl
 have hx1:(x0::xs').length=fr.length:=by rw[<-hG.le,hlF]
 have hx2:xs'.length+1=fr.length:=by simpa using hx1
 rw[hlF,hx1,hx]at hcp
 rw[hx]
 have b1:(fr.length<=9223372036854775807)=True:=by simp only[YAb,iff_true];omega
 have b2:(fr.length*8<=140737488355328)=True:=by simp only[YAb,iff_true];omega
 have e1:((F++ [AObj.tok fr.length 1])++ [AObj.tok fr.length 1])=F++ [AObj.tok fr.length 1,AObj.tok fr.length 1]:=by simp
 have h:=YAN
 repeat' (first
  |(with_reducible first|apply bA|apply bB|apply bC|apply bD|apply bE|apply bF)<;>intro h
  |refine drA znm 7 0 ?_
  |refine drA znm 14 0 ?_
  |refine drA znm 16 0 ?_
  |skip)<;>simp only[h,↓zaL,↓zHC,WY,reduceIte,yA,yB,yC,yD,reduceCtorEq,yE,yF,W1,WS,znn,znl,hpR,bxR,arR,stP hs hr hne,zTh,zTg,yN,ze0,zMZ,YAK,Nat.lt_irrefl,Int.lt_irrefl,w2,hng,hx2,b1,b2]
 refine⟨fun a ha=>by obtain⟨z,_,rfl⟩:=List.mem_map.1 ha;exact⟨rfl,rfl⟩,?_⟩
 refine zIA hcp (.inl rfl) (fun hb=>zn5 hs hr hne hl0 hb) ?_
 have h:=YAN
 repeat' (first
  |(with_reducible first|apply bA|apply bB|apply bC|apply bD|apply bE|apply bF)<;>intro h
  |refine drA znm 7 0 ?_
  |refine drA znm 14 0 ?_
  |refine drA znm 16 0 ?_
  |skip)<;>simp only[h,↓zaL,↓zHC,WY,reduceIte,yA,yB,yC,yD,reduceCtorEq,yE,yF,W1,WS,znn,znl,hpR,bxR,arR,stP hs hr hne,zTh,zTg,yN,ze0,zTh,zTg]
 all_goals first|exact⟨rfl,rfl⟩|rfl
theorem zo8{S:St}(hs:s<F.length)(hr:r<F.length)(hne:r≠s)(hw:Wf S)(hL:S.length<=1000000)(n:Nat)(hn:n<S.length):
 DCalls Try.prog 143 [.bptr s 0,.int .i64 n,.sl [] .no,.sl [] .no] (hpR F s r v S lim cnt) (.tup [.int .i64 (S.root n:Nat),.sl [] .no,.sl [] .no]) (hpR F s r v S lim cnt):=by
 have q0:=fun F hs hr=>zgO (F:=F) (s:=s) (r:=r) (v:=v) (S:=S) (lim:=lim) (cnt:=cnt) hs hr hne hw n hn
 have q1:=fun F hs hr=>zpj (F:=F) (s:=s) (r:=r) (v:=v) (S:=S) (lim:=lim) (cnt:=cnt) hs hr hne hw hL (S.root n) (hw.root_lt n hn) []
 rw[show touS S [] (S.root n)=false by simp[touS],List.map_nil]at q1
 unfold DCalls
 refine eD C_ok Try.func143 Try.results143 fun ok=> ?_
 have h:=YAN
 repeat' (first
  |(with_reducible first|apply bA|apply bB|apply bC|apply bD|apply bE|apply bF)<;>intro h
  |((first|apply bG|apply bH);simp only[yP,yQ,W2,W3,yH,yI,yJ,yK,yL,yM,hpR,bxR,arR,stP hs hr hne,zTh,zTg,yN,ze0,Nat.lt_irrefl,Int.lt_irrefl,yO];first|refine zIA (q0 _ (by first|exact hs|simp<;>omega) (by first|exact hr|simp<;>omega)) (.inl rfl) (fun hb=>zeT (by first|exact hs|simp<;>omega) (by first|exact hr|simp<;>omega) hne hb) ?_|refine zIA (q1 _ (by first|exact hs|simp<;>omega) (by first|exact hr|simp<;>omega)) (.inl rfl) (fun hb=>zeT (by first|exact hs|simp<;>omega) (by first|exact hr|simp<;>omega) hne hb) ?_)
  |refine zJ9 ?_ C_ok Try.f143.ntmps rfl (by decide)
  |skip)<;>simp only[h,↓zaL,↓zHC,WY,reduceIte,yA,yB,yC,yD,reduceCtorEq,yE,yF,W1,WS,W3,yH,yI,yJ,yK,yL,yM,hpR,bxR,arR,stP hs hr hne,zTh,zTg,yN,ze0,Nat.lt_irrefl,Int.lt_irrefl,yO,zFY]
 all_goals first|exact⟨rfl,rfl⟩|rfl
theorem zpI{L:Mem}(hs:s<F.length)(hr:r<F.length)(hne:r≠s)(hw:Wf L.st)(hL:L.st.length<=1000000)(hc:0<=cnt)(hlim:lim<=65536)(hcnt:cnt<=lim)(n:Nat)(hn:n<L.length){rs xs:List Nat}(hG:FrG L [] [] rs xs):
 DCalls Try.prog 115 [.bptr s 0,.int .i64 n,.sl [] .no,.sl [] .no] (hpR F s r v L.st lim cnt) (.tup [.int .i64 (L.st.root n:Nat),.int .i64 0]) (hpR F s r v L.st lim cnt):=by
 have hll:=Mem.zXR L
 have q1:=fun F hs hr=>zfl (F:=F) (s:=s) (r:=r) (v:=v) (S:=L.st) (lim:=lim) (cnt:=cnt) hs hr hne (n:=n) (by omega)
 have hroots:=zpg (v:=v) (lim:=lim) (cnt:=cnt) hs hr hne hw [] (by simp)
 simp only[List.map_nil,acI,tkI,if_true,List.append_nil]at hroots
 have q9:=fun F hs hr=>zo8 (F:=F) (s:=s) (r:=r) (v:=v) (lim:=lim) (cnt:=cnt) hs hr hne hw hL n (by omega)
 have hl0:F.length<=F.length:=YAV _
 have ers:rs=[]:=List.eq_nil_of_length_eq_zero (by have:=hG.lf;simpa using this)
 have er0:(kidI rs).map I64=[]:=by rw[ers];rfl
 have hkn:cntH L.st (toM rs xs) (L.st.all n)=0:=by
  simp only[cntH,List.countP_eq_zero]
  intro x hx
  simp[hld,toM,mget,ers]
 unfold DCalls
 refine eD znm Try.func115 Try.results115 fun ok=> ?_
 have h:=YAN
 repeat' (first
  |(with_reducible first|apply bA|apply bB|apply bC|apply bD|apply bE|apply bF)<;>intro h
  |((first|apply bG|apply bH);simp only[yP,yQ,W2,W3,yH,yI,yJ,yK,yL,yM,znn,znl,hpR,bxR,arR,stP hs hr hne,zTh,zTg,yN,ze0,YAO];refine zIB (q1 _ (by first|exact hs|simp<;>omega) (by first|exact hr|simp<;>omega)) (.inl rfl) ?_)
  |refine drA znm 7 0 ?_
  |refine drA znm 14 0 ?_
  |refine drA znm 16 0 ?_
  |refine zJ9 ?_ znm Try.f115.ntmps rfl (by decide)
  |skip)<;>simp only[h,↓zaL,↓zHC,WY,reduceIte,yA,yB,yC,yD,reduceCtorEq,yE,yF,W1,WS,W3,yH,yI,yJ,yK,yL,yM,znn,znl,hpR,bxR,arR,stP hs hr hne,zTh,zTg,yN,ze0,YAO,zFY]
 refine fsCall hroots (.inl rfl) fun v0 G0 hG0 hlen0=> ?_
 obtain⟨rfl,rfl⟩:=hG0
 refine⟨fun hb=>hb,?_⟩
 have h:=YAN
 repeat' (first
  |(with_reducible first|apply bA|apply bB|apply bC|apply bD|apply bE|apply bF)<;>intro h
  |refine drA znm 7 0 ?_
  |refine drA znm 14 0 ?_
  |refine drA znm 16 0 ?_
  |refine zJ9 ?_ znm Try.f115.ntmps rfl (by decide)
  |skip)<;>simp only[h,↓zaL,↓zHC,WY,reduceIte,yA,yB,yC,yD,reduceCtorEq,yE,yF,W1,WS,W3,yH,yI,yJ,yK,yL,yM,znn,znl,hpR,bxR,arR,stP hs hr hne,zTh,zTg,yN,ze0,Nat.lt_irrefl,Int.lt_irrefl,zFY]
 have hwr:Wf L.st:=hw
 have qa:=fun F hs hr=>zfU (F:=F) (s:=s) (r:=r) (v:=v) (S:=L.st) (lim:=lim) (cnt:=cnt) hs hr hne hw hL n (by omega)
 have hal:(L.st.all n).length<=1000000:=Nat.le_trans (zd2 hw (by omega)) hL
 have hmx2:(L.st.all n).length<=maxLen:=by rw[zPC];omega
 have hrl:∀x∈L.st.all n,x<L.st.length/\L.st.root x=x:=fun x hx=>by
  have:=(hw.zPE (by omega)).1 hx
  exact⟨this.lt hw (by omega),this.root hw⟩
 have hto:=hG.zoP hw
 have hkd:∀x,(L.st.nd x).kind=L.st.kind x:=fun x=>rfl
 have qt0:=fun x (hx:x<L.st.length) F hs hr=>zpj (F:=F) (s:=s) (r:=r) (v:=v) (S:=L.st) (lim:=lim) (cnt:=cnt) hs hr hne hw hL x hx (kidI rs)
 simp only[zqG hG.le]at qt0
 have hhk:=fun x (hx:x∈L.st.all n)=>zoT hw hto (hrl x hx).1 (hrl x hx).2
 simp only[er0]at qt0
 generalize toM rs xs=to at*
 generalize L.st.all n=ks at*
 have h:=YAN
 repeat' (first
  |(with_reducible first|apply bA|apply bB|apply bC|apply bD|apply bE|apply bF)<;>intro h
  |((first|apply bG|apply bH);simp only[yP,yQ,W2,znn,znl,hpR,bxR,arR,stP hs hr hne,zTh,zTg,yN,ze0,zMZ,YAK,Nat.lt_irrefl,Int.lt_irrefl,yO];refine zIA (qa _ (by first|exact hs|simp<;>omega) (by first|exact hr|simp<;>omega)) (.inl rfl) (fun hb=>zeT (by first|exact hs|simp<;>omega) (by first|exact hr|simp<;>omega) hne hb) ?_)
  |refine drA znm 7 0 ?_
  |refine drA znm 14 0 ?_
  |refine drA znm 16 0 ?_
  |skip)<;>simp only[h,↓zaL,↓zHC,WY,reduceIte,yA,yB,yC,yD,reduceCtorEq,yE,yF,W1,WS,znn,znl,hpR,bxR,arR,stP hs hr hne,zTh,zTg,yN,ze0,zMZ,YAK,Nat.lt_irrefl,Int.lt_irrefl,yO]
 refine zCN [12,14,0,1,3,10,13] ?_
 simp only[List.map_cons,List.map_nil,↓zaL,↓zHC,WY,reduceIte,yA,yB,yC,yD,reduceCtorEq,yE,yF,W1,WS]
 refine zJ1 2 (fun i:Nat=> [(12,.int .i64 (cntH L.st to (ks.take i):Nat)),(14,.int .i64 i)]) (fun _=>hpR (F) s r v L.st lim cnt) (fun i=>i<=ks.length) (fun i=>ks.length-i) znm 0 rfl rfl (YAX _) (by decide) ?_
 rintro i hi
 simp only[List.drop_succ_cons,List.drop_zero,List.cons_append,List.nil_append]
 by_cases hlt:i<ks.length
 ·have hmem:ks.getD i 0∈ks:=by simp[hlt]
  obtain⟨hri,hrt⟩:=hrl _ hmem
  have qt:=qt0 _ hri
  have hhk1:=hhk _ hmem
  have hstep:cntH L.st to (ks.take (i+1))=cntH L.st to (ks.take i)+if(decide (L.st.kind (ks.getD i 0)≠6)&&hld L.st to (ks.getD i 0))=true then 1 else 0:=by
   simp only[cntH]
   rw[List.take_add_one,YAI hlt,Option.toList_some,List.countP_append,List.countP_singleton]
   simp[hlt]
  have hle:cntH L.st to (ks.take i)<=1000000:=Nat.le_trans List.countP_le_length (by simp;omega)
  have w1:IntKind.wrap .i64 ((cntH L.st to (ks.take i):Nat)+1:Int)=((cntH L.st to (ks.take i)+1:Nat):Int):=by rw[zbT (by omega) (by omega)];omega
  have hkd1:=hkd (ks.getD i 0)
  by_cases h7:L.st.kind (ks.getD i 0)≥7
  ·cases hh:hld L.st to (ks.getD i 0)
   ·rw[hh]at qt hstep
    rw[if_neg (by simp only[Bool.and_false,YAB,not_false_eq_true]),Nat.add_zero]at hstep
    generalize L.st.kind (ks.getD i 0)=kd at*
    have h:=YAN
    repeat' (first
     |(with_reducible first|apply bA|apply bB|apply bC|apply bD|apply bE|apply bF)<;>intro h
     |((first|apply bG|apply bH);simp only[yP,yQ,W2,znn,znl,hpR,bxR,arR,stP hs hr hne,zTh,zTg,yN,ze0,zMZ,YAK,hlt,zMY hlt,hri,zez hri,zeI,hkd1,h7,zLz,yO];refine zIk rfl (qR hs hr hne qt (by simp[stP hs hr hne,bxR,arR])) (.inl rfl) ?_)
     |refine drA znm 7 0 ?_
     |refine drA znm 14 0 ?_
     |refine drA znm 16 0 ?_
     |skip)<;>simp only[h,↓zaL,↓zHC,WY,reduceIte,yA,yB,yC,yD,reduceCtorEq,yE,yF,W1,WS,znn,znl,hpR,bxR,arR,stP hs hr hne,zTh,zTg,yN,ze0,zMZ,YAK,hlt,zMY hlt,hri,zez hri,zeI,hkd1,h7,zLz,yO]
    refine⟨i+1,by omega,by omega,zap rfl ?_⟩
    simp only[WK,↓zaL,↓zHC,yA,reduceIte,yN,yO,yR,yP,yQ,yB,yC,zbX hlt hmx2,hstep,Nat.add_zero]
   ·rw[hh]at qt hstep
    rw[if_pos (by simp only[ne_eq,show¬L.st.kind (ks.getD i 0)=6 by omega,not_false_eq_true,decide_true,Bool.true_and])]at hstep
    generalize L.st.kind (ks.getD i 0)=kd at*
    have h:=YAN
    repeat' (first
     |(with_reducible first|apply bA|apply bB|apply bC|apply bD|apply bE|apply bF)<;>intro h
     |((first|apply bG|apply bH);simp only[yP,yQ,W2,znn,znl,hpR,bxR,arR,stP hs hr hne,zTh,zTg,yN,ze0,zMZ,YAK,hlt,zMY hlt,hri,zez hri,zeI,hkd1,h7,w1,zLz,yO];refine zIk rfl (qR hs hr hne qt (by simp[stP hs hr hne,bxR,arR])) (.inl rfl) ?_)
     |refine drA znm 7 0 ?_
     |refine drA znm 14 0 ?_
     |refine drA znm 16 0 ?_
     |skip)<;>simp only[h,↓zaL,↓zHC,WY,reduceIte,yA,yB,yC,yD,reduceCtorEq,yE,yF,W1,WS,znn,znl,hpR,bxR,arR,stP hs hr hne,zTh,zTg,yN,ze0,zMZ,YAK,hlt,zMY hlt,hri,zez hri,zeI,hkd1,h7,w1,zLz,yO]
    refine⟨i+1,by omega,by omega,zap rfl ?_⟩
    simp only[WK,↓zaL,↓zHC,yA,reduceIte,yN,yO,yR,yP,yQ,yB,yC,zbX hlt hmx2,hstep,Nat.add_zero]
  ·rw[if_neg (by
    rw[YAA,YAa]
    rintro⟨a,b⟩
    rcases hhk1 b with h|h<;>omega),Nat.add_zero]at hstep
   generalize L.st.kind (ks.getD i 0)=kd at*
   have h:=YAN
   repeat' (first
    |(with_reducible first|apply bA|apply bB|apply bC|apply bD|apply bE|apply bF)<;>intro h
    |refine drA znm 7 0 ?_
    |refine drA znm 14 0 ?_
    |refine drA znm 16 0 ?_
    |skip)<;>simp only[h,↓zaL,↓zHC,WY,reduceIte,yA,yB,yC,yD,reduceCtorEq,yE,yF,W1,WS,znn,znl,hpR,bxR,arR,stP hs hr hne,zTh,zTg,yN,ze0,zMZ,YAK,hlt,zMY hlt,hri,zez hri,zeI,hkd1,h7,zLz,yO]
   refine⟨i+1,by omega,by omega,zap rfl ?_⟩
   simp only[WK,↓zaL,↓zHC,yA,reduceIte,yN,yO,yR,yP,yQ,yB,yC,zbX hlt hmx2,hstep,Nat.add_zero]
 have hi':i=ks.length:=by omega
 subst hi'
 rw[List.take_length]
 have w2:IntKind.wrap .i64 (lim-cnt)=lim-cnt:=zbT (by omega) (by omega)
 have hng:(lim-cnt<((0:Nat):Int))=False:=by simp only[YAb,iff_false];omega
 rw[hkn]
 have h:=YAN
 repeat' (first
  |(with_reducible first|apply bA|apply bB|apply bC|apply bD|apply bE|apply bF)<;>intro h
  |((first|apply bG|apply bH);simp only[yP,yQ,W2,znn,znl,hpR,bxR,arR,stP hs hr hne,zTh,zTg,yN,ze0,zMZ,YAK,Nat.lt_irrefl,Int.lt_irrefl,w2,hng,zTh,zTg];refine zIA (q9 _ (by first|exact hs|simp<;>omega) (by first|exact hr|simp<;>omega)) (.inl rfl) (fun hb=>zeT (by first|exact hs|simp<;>omega) (by first|exact hr|simp<;>omega) hne hb) ?_)
  |refine drA znm 7 0 ?_
  |refine drA znm 14 0 ?_
  |refine drA znm 16 0 ?_
  |skip)<;>simp only[h,↓zaL,↓zHC,WY,reduceIte,yA,yB,yC,yD,reduceCtorEq,yE,yF,W1,WS,znn,znl,hpR,bxR,arR,stP hs hr hne,zTh,zTg,yN,ze0,zMZ,YAK,Nat.lt_irrefl,Int.lt_irrefl,w2,hng,zTh,zTg]
 all_goals first|exact⟨rfl,rfl⟩|rfl
theorem zpD{L:Mem}(hs:s<F.length)(hr:r<F.length)(hne:r≠s)(hSI:SI L rd)(hL:L.length+inn L.st<=400000)(hc:0<=cnt)(hlim:lim<=65536)(hcnt:cnt<=lim){n:Int}{fr tt:List Int}(hfl:fr.length<=10000){x e:Int}{v':Nat}{L':Mem}{cnt' rd':Int}(h:CopyQ L v lim cnt rd n fr tt x e v' L' cnt' rd'):
 DCalls Try.prog 115 [.bptr s 0,.int .i64 n,.sl (fr.map I64) .no,.sl (tt.map I64) .no] (hpR F s r v L.st lim cnt) (.tup [.int .i64 x,.int .i64 e]) (hpR F s r v' L'.st lim cnt'):=by
 have hw:=hSI.wf
 have hll:=Mem.zXR L
 cases h with
 |arg h=>exact zpE hs hr hne n fr tt (by rw[hll];exact h)
 |bad m rs xs hn hm hG hB=>subst hn;exact zpF hs hr hne hw m hm (by omega) (by have:=hB.1;omega) hG hB
 |full m rs xs hn hm hG hlF hk=>
  subst hn
  rw[zPY]
  by_cases h0:0<fr.length
  ·exact zpH hs hr hne hw (by omega) hc hlim hcnt m hm (by omega) h0 hG hlF hk
  ·exfalso
   have ers:rs=[]:=List.eq_nil_of_length_eq_zero (by omega)
   have hkn:cntH L.st (toM rs xs) (L.st.all m)=0:=by
    simp only[cntH,List.countP_eq_zero]
    intro x hx
    simp[hld,toM,mget,ers]
   omega
 |done m rs xs _ _ M' x hn hm hG hlF hk hC hS' hl'=>
  subst hn
  have hst1:(mkL L (rd+1) (L.st.all m)).st=L.st:=zPY _ _ _
  have hlen1:(mkL L (rd+1) (L.st.all m)).length=L.length:=zPW _ _ _
  have hto:=hG.zoP hw
  by_cases h0:0<fr.length
  ·have hal:=zd2 hw (n:=m) (by omega)
   have hTl:(cpT L.st (toM rs xs) m).length<=L.length:=by
    have:(cpT L.st (toM rs xs) m).length<=(L.st.all m).length:=List.length_filter_le _ _
    omega
   have hCI:CI L.st (toM rs xs) (cpT L.st (toM rs xs) m) lim (mkL L (rd+1) (L.st.all m)) [] cnt:=by
    refine⟨⟨by rw[hst1];exact hw,hw,by rw[hlen1];omega,fun i hi=>by rw[hst1],fun i hi=>by rw[hst1]⟩,fun k hk=>(by cases hk),List.nodup_nil,?_,fun k x e=>by simp[mget]at e⟩
    rw[zoF];simp;omega
   have htl:(toM rs xs).length<=10000:=by simp[toM];omega
   have q:=zo9 (s:=s) (r:=r) (p:=F.length) (q:=F.length+1) (lim:=lim) (by omega) hto (by omega) (by omega) (fun e=>hne e.symm) hC (by omega) (fun z hz=>hz) hCI hc (by rw[hlen1];simp;omega)
   have q:=q (F++ [.tok rs.length 1,.tok xs.length 1]) (zo3 hs hr hne _ _)
   rw[zo2,zo2,hst1]at q
   simp only[List.append_nil,zqC _ _ hG.le,zqE _ _ hG.le,zMZ,List.length_nil,Int.natCast_zero,Int.sub_zero]at q
   exact zpG hs hr hne hw (by omega) hc hlim hcnt m hm (by omega) h0 hG hlF hk q
  ·have efr:fr=[]:=List.eq_nil_of_length_eq_zero (by omega)
   have ett:tt=[]:=List.eq_nil_of_length_eq_zero (by have:=hG.lt;omega)
   subst efr;subst ett
   have ers:rs=[]:=List.eq_nil_of_length_eq_zero (by simpa using hlF)
   have hold:CpR L.st (toM rs xs) m v (mkL L (rd+1) (L.st.all m)) [] v (mkL L (rd+1) (L.st.all m)) [] (L.st.root m):= .old _ _ _ _ (by simp[toM,mget,ers]) (by simp[hld,toM,mget,ers])
   obtain⟨rfl,rfl,rfl,rfl⟩:=hC.det hold
   rw[hst1]
   simp only[List.length_nil,Int.natCast_zero,Int.add_zero,List.map_nil]
   exact zpI hs hr hne hw (by omega) hc hlim hcnt m hm hG
end
end
end Go.Proofs.Ytdngjamjccjlmaa
