/- Walks: a graph of nodes with kids: put. No condition. -/
import Derived.Test.YtmpegnogdgbleaaUV
set_option linter.unusedSimpArgs false
set_option linter.unusedVariables false
set_option maxHeartbeats 4000000
set_option maxRecDepth 100000
namespace Go.Proofs.Ytmpegnogdgbleaa
open Go Go.Ab
open Nat renaming reduceEqDiff -> yA, reduceAdd -> yB, reduceLT -> yC, reduceLeDiff -> yD, reduceMul -> yE, reducePow -> yF
open Int renaming reduceAdd -> yH, reduceLT -> yI, reduceToNat -> yJ, reduceBEq -> yK, reduceBNe -> yL, reduceLE -> yM
open AV renaming belL -> yO, bel -> yN, normL -> yQ, norm -> yP
attribute [local irreducible] zA0 zAA zAa zAi zAj GoIf GoGb zAk GoO GoD GoX GoDX GoG GoDG GoGv zAl Go zAB
theorem zjf:∀(A:List (Int×Nat)) (n:Int) (i:Nat),zjU A n=none->mput (mz A) n i=mz (A++ [(n,i)])
 | [],n,i,_=>rfl
 |(k,j)::A,n,i,h=>by
  rw[zjU]at h
  split at h
  ·cases h
  ·rename_i hk
   simp only[mz,List.map_cons,List.cons_append,mput]
   rw[if_neg hk]
   have:=zjf A n i h
   rw[mz]at this
   rw[this];rfl
theorem zj8:∀(t:T) (N:List Nd) (M:List (Int×Nat)),(putF t N M).1.length<=N.length+t.size:=by
 intro t
 induction t with
 |dyn=>intro N M;simp[putF,zhf,T.size]
 |base k=>intro N M;simp[putF,zhf,T.size]
 |var n=>
  intro N M
  rw[putF]
  split
  ·simp
  ·simp[zhf,T.size]
 |list a i1=>
  intro N M
  have:=i1 N M
  simp only[putF,zhf,T.size];omega
 |pair a b i1 i2=>
  intro N M
  have h1:=i1 N M
  have h2:=i2 (putF a N M).1 (putF a N M).2.1
  simp only[putF,zhf,T.size];omega
 |fn a b i1 i2=>
  intro N M
  have h1:=i1 N M
  have h2:=i2 (putF a N M).1 (putF a N M).2.1
  simp only[putF,zhf,T.size];omega
section
variable {F : List AObj} {g q c a b d : Nat} {x3 x6 : AObj}
theorem zjC(hD:SxdD F g q c a b d)(k:Int)(h5:(k==5)=false)(h6:(k==6)=false)(v:Nat)(N:List Nd)(A B:List (Int×Nat))(hN:N.length<=1000000)(m:Nat):
 zAd Try.prog 59 [.bptr g 0,emb (.mk k 0 []),.mp m] (hpK F g q c a b d v N A B x3 x6) (.int .i64 N.length) (hpK F g q c a b d (v+1) (addN N k []) A B x3 x6):=by
 have hP:=sxdP hD
 have qm:=fun F hD=>zi4 (F:=F) (g:=g) (q:=q) (c:=c) (a:=a) (b:=b) (d:=d) (x3:=x3) (x6:=x6) hD k [] v N A B hN
 rw[List.map_nil]at qm
 unfold zAd
 refine eD C_ok Try.func59 Try.results59 fun ok=> ?_
 have h:=YAN
 repeat' (first
  |(with_reducible first|apply bA|apply bB|apply bC|apply bD|apply bE|apply bF)<;>intro h
  |((first|apply bG|apply bH);simp only[yP,yQ,W2,W2B,W3,yH,yI,yJ,yK,yL,yM,hpK,hP,h5,h6,YAK,zGx,yO,yN,zTh,zTg];refine zIA (qm _ (by first|exact hD|exact hD.app _)) (.inl rfl) (fun hb=>krB (by first|exact hD|exact hD.app _) hb) ?_)
  |refine drA C_ok 7 0 ?_
  |refine zJ9 ?_ C_ok Try.f59.ntmps rfl (by decide)
  |skip)<;>simp only[h,↓zaL,↓zHC,WY,reduceIte,yA,yB,yC,yD,reduceCtorEq,yE,yF,W1,W1B,WS,W3,yH,yI,yJ,yK,yL,yM,hpK,hP,h5,h6,YAK,zGx,yO,yN,zTh,zTg,zFY]
 all_goals rfl
theorem zjB(hD:SxdD F g q c a b d)(v:Nat)(N:List Nd)(A B:List (Int×Nat))(hN:N.length<=1000000)(m:Nat):
 zAd Try.prog 59 [.bptr g 0,emb (.mk 5 0 []),.mp m] (hpK F g q c a b d v N A B x3 x6) (.int .i64 N.length) (hpK F g q c a b d (v+1) (addN N 0 []) A B x3 x6):=by
 have hP:=sxdP hD
 have qm:=fun F hD=>zi4 (F:=F) (g:=g) (q:=q) (c:=c) (a:=a) (b:=b) (d:=d) (x3:=x3) (x6:=x6) hD 0 [] v N A B hN
 rw[List.map_nil]at qm
 unfold zAd
 refine eD C_ok Try.func59 Try.results59 fun ok=> ?_
 have h:=YAN
 repeat' (first
  |(with_reducible first|apply bA|apply bB|apply bC|apply bD|apply bE|apply bF)<;>intro h
  |((first|apply bG|apply bH);simp only[yP,yQ,W2,W2B,W3,yH,yI,yJ,yK,yL,yM,hpK,hP,YAK,zGx,yO,yN,zTh,zTg];refine zIA (qm _ (by first|exact hD|exact hD.app _)) (.inl rfl) (fun hb=>krB (by first|exact hD|exact hD.app _) hb) ?_)
  |refine drA C_ok 7 0 ?_
  |refine zJ9 ?_ C_ok Try.f59.ntmps rfl (by decide)
  |skip)<;>simp only[h,↓zaL,↓zHC,WY,reduceIte,yA,yB,yC,yD,reduceCtorEq,yE,yF,W1,W1B,WS,W3,yH,yI,yJ,yK,yL,yM,hpK,hP,YAK,zGx,yO,yN,zTh,zTg,zFY]
 all_goals rfl
theorem zjF(hD:SxdD F g q c a b d)(n:Int)(v:Nat)(N:List Nd)(A B:List (Int×Nat)){i:Nat}(hA:zjU A n=some i):
 zAd Try.prog 59 [.bptr g 0,emb (.mk 6 n []),.mp a] (hpK F g q c a b d v N A B x3 x6) (.int .i64 i) (hpK F g q c a b d v N A B x3 x6):=by
 have hP:=sxdP hD
 have hg2:mget (mz A) n=some (i:Int):=by rw[zje,hA];rfl
 unfold zAd
 refine eD C_ok Try.func59 Try.results59 fun ok=> ?_
 have h:=YAN
 repeat' (first
  |(with_reducible first|apply bA|apply bB|apply bC|apply bD|apply bE|apply bF)<;>intro h
  |refine drA C_ok 7 0 ?_
  |refine zJ9 ?_ C_ok Try.f59.ntmps rfl (by decide)
  |skip)<;>simp only[h,↓zaL,↓zHC,WY,reduceIte,yA,yB,yC,yD,reduceCtorEq,yE,yF,W1,W1B,WS,W3,yH,yI,yJ,yK,yL,yM,hpK,hP,zHe,zHx,zPN,zOl,zMT,hg2,Option.getD_none,Option.isSome_none,Option.getD_some,Option.isSome_some,YAK,zGx,yO,yN,implies_true,zTh,zTg,zFY]
 all_goals rfl
theorem zjG(hD:SxdD F g q c a b d)(n:Int)(v:Nat)(N:List Nd)(A B:List (Int×Nat)){i:Nat}(hA:zjU B n=some i):
 zAd Try.prog 59 [.bptr g 0,emb (.mk 6 n []),.mp b] (hpK F g q c a b d v N A B x3 x6) (.int .i64 i) (hpK F g q c a b d v N A B x3 x6):=by
 have hP:=sxdP hD
 have hg2:mget (mz B) n=some (i:Int):=by rw[zje,hA];rfl
 unfold zAd
 refine eD C_ok Try.func59 Try.results59 fun ok=> ?_
 have h:=YAN
 repeat' (first
  |(with_reducible first|apply bA|apply bB|apply bC|apply bD|apply bE|apply bF)<;>intro h
  |refine drA C_ok 7 0 ?_
  |refine zJ9 ?_ C_ok Try.f59.ntmps rfl (by decide)
  |skip)<;>simp only[h,↓zaL,↓zHC,WY,reduceIte,yA,yB,yC,yD,reduceCtorEq,yE,yF,W1,W1B,WS,W3,yH,yI,yJ,yK,yL,yM,hpK,hP,zHe,zHx,zPN,zOl,zMT,hg2,Option.getD_none,Option.isSome_none,Option.getD_some,Option.isSome_some,YAK,zGx,yO,yN,implies_true,zTh,zTg,zFY]
 all_goals rfl
theorem zjD(hD:SxdD F g q c a b d)(n:Int)(v:Nat)(N:List Nd)(A B:List (Int×Nat))(hN:N.length<=1000000)(hA:zjU A n=none):
 zAd Try.prog 59 [.bptr g 0,emb (.mk 6 n []),.mp a] (hpK F g q c a b d v N A B x3 x6) (.int .i64 N.length) (hpK F g q c a b d (v+1) (addN N 0 []) (A++ [(n,N.length)]) B x3 x6):=by
 have hP:=sxdP hD
 have qm:=fun F hD=>zi4 (F:=F) (g:=g) (q:=q) (c:=c) (a:=a) (b:=b) (d:=d) (x3:=x3) (x6:=x6) hD 0 [] v N A B hN
 rw[List.map_nil]at qm
 have hg1:mget (mz A) n=none:=by rw[zje,hA];rfl
 have hg2:mget (mput (mz A) n N.length) n=some (N.length:Int):=by rw[zPO,if_pos rfl]
 have hpz:=zjf A n N.length hA
 have hgl:=hD.hs
 have f0:(F.length=g)=False:=by simp only[YAb,iff_false];omega
 unfold zAd
 refine eD zhW Try.func59 Try.results59 fun ok=> ?_
 have h:=YAN
 repeat' (first
  |(with_reducible first|apply bA|apply bB|apply bC|apply bD|apply bE|apply bF)<;>intro h
  |((first|apply bG|apply bH);simp only[yP,yQ,W2,W2B,W3,yH,yI,yJ,yK,yL,yM,zhX,zhV,zlX,exB,exB0,zjO,zjP,f0,hpK,hP,zHe,zHx,zPN,zOl,zMT,hg1,hg2,Option.getD_none,Option.isSome_none,Option.getD_some,Option.isSome_some,YAK,zGx,yO,yN,implies_true,zTh,zTg];first|refine zIl rfl (zfrI rfl rfl (zik (hD.app _))) (qm _ (hD.app _)) (.inl rfl) (fun hb=>krB (hD.app _) hb) ?_|refine zIl rfl (zfrI rfl rfl (zik hD)) (qm _ hD) (.inl rfl) (fun hb=>krB hD hb) ?_)
  |refine zif (id:=7) zhW mixed [] 0 Try.f59.ntmps (by first|(simp;done)|(simp;omega)) rfl (by kernel_rfl) (by decide) ?_
  |refine zJ9 ?_ zhW Try.f59.ntmps rfl (by decide)
  |skip)<;>simp only[h,↓zaL,↓zHC,WY,reduceIte,yA,yB,yC,yD,reduceCtorEq,yE,yF,W1,W1B,WS,W3,yH,yI,yJ,yK,yL,yM,zhX,zhV,zlX,exB,exB0,zjO,zjP,f0,hpK,hP,zHe,zHx,zPN,zOl,zMT,hg1,hg2,Option.getD_none,Option.isSome_none,Option.getD_some,Option.isSome_some,YAK,zGx,yO,yN,implies_true,zTh,zTg,zFY]
 all_goals simp only[hpz]
theorem zjE(hD:SxdD F g q c a b d)(n:Int)(v:Nat)(N:List Nd)(A B:List (Int×Nat))(hN:N.length<=1000000)(hA:zjU B n=none):
 zAd Try.prog 59 [.bptr g 0,emb (.mk 6 n []),.mp b] (hpK F g q c a b d v N A B x3 x6) (.int .i64 N.length) (hpK F g q c a b d (v+1) (addN N 0 []) A (B++ [(n,N.length)]) x3 x6):=by
 have hP:=sxdP hD
 have qm:=fun F hD=>zi4 (F:=F) (g:=g) (q:=q) (c:=c) (a:=a) (b:=b) (d:=d) (x3:=x3) (x6:=x6) hD 0 [] v N A B hN
 rw[List.map_nil]at qm
 have hg1:mget (mz B) n=none:=by rw[zje,hA];rfl
 have hg2:mget (mput (mz B) n N.length) n=some (N.length:Int):=by rw[zPO,if_pos rfl]
 have hpz:=zjf B n N.length hA
 have hgl:=hD.hs
 have f0:(F.length=g)=False:=by simp only[YAb,iff_false];omega
 unfold zAd
 refine eD zhW Try.func59 Try.results59 fun ok=> ?_
 have h:=YAN
 repeat' (first
  |(with_reducible first|apply bA|apply bB|apply bC|apply bD|apply bE|apply bF)<;>intro h
  |((first|apply bG|apply bH);simp only[yP,yQ,W2,W2B,W3,yH,yI,yJ,yK,yL,yM,zhX,zhV,zlX,exB,exB0,zjO,zjP,f0,hpK,hP,zHe,zHx,zPN,zOl,zMT,hg1,hg2,Option.getD_none,Option.isSome_none,Option.getD_some,Option.isSome_some,YAK,zGx,yO,yN,implies_true,zTh,zTg];first|refine zIl rfl (zfrI rfl rfl (zik (hD.app _))) (qm _ (hD.app _)) (.inl rfl) (fun hb=>krB (hD.app _) hb) ?_|refine zIl rfl (zfrI rfl rfl (zik hD)) (qm _ hD) (.inl rfl) (fun hb=>krB hD hb) ?_)
  |refine zif (id:=7) zhW mixed [] 0 Try.f59.ntmps (by first|(simp;done)|(simp;omega)) rfl (by kernel_rfl) (by decide) ?_
  |refine zJ9 ?_ zhW Try.f59.ntmps rfl (by decide)
  |skip)<;>simp only[h,↓zaL,↓zHC,WY,reduceIte,yA,yB,yC,yD,reduceCtorEq,yE,yF,W1,W1B,WS,W3,yH,yI,yJ,yK,yL,yM,zhX,zhV,zlX,exB,exB0,zjO,zjP,f0,hpK,hP,zHe,zHx,zPN,zOl,zMT,hg1,hg2,Option.getD_none,Option.isSome_none,Option.getD_some,Option.isSome_some,YAK,zGx,yO,yN,implies_true,zTh,zTg,zFY]
 all_goals simp only[hpz]
theorem zjI(hD:SxdD F g q c a b d){x y:Ty}(k:Int)(h5:(k==5)=false)(h6:(k==6)=false){m i j:Nat}{v v1 v2:Nat}{N N1 N2:List Nd}{A A1 A2 B B1 B2:List (Int×Nat)}(hN:N2.length<=1000000)
 (i1:∀F:List AObj,SxdD F g q c a b d->zAd Try.prog 59 [.bptr g 0,emb x,.mp m] (hpK F g q c a b d v N A B x3 x6) (.int .i64 i) (hpK F g q c a b d v1 N1 A1 B1 x3 x6))
 (i2:∀F:List AObj,SxdD F g q c a b d->zAd Try.prog 59 [.bptr g 0,emb y,.mp m] (hpK F g q c a b d v1 N1 A1 B1 x3 x6) (.int .i64 j) (hpK F g q c a b d v2 N2 A2 B2 x3 x6)):
 zAd Try.prog 59 [.bptr g 0,emb (.mk k 0 [x,y]),.mp m] (hpK F g q c a b d v N A B x3 x6) (.int .i64 N2.length) (hpK F g q c a b d (v2+1) (addN N2 k [i,j]) A2 B2 x3 x6):=by
 have hP:=sxdP hD
 have qm:=fun F hD=>zi4 (F:=F) (g:=g) (q:=q) (c:=c) (a:=a) (b:=b) (d:=d) (x3:=x3) (x6:=x6) hD k [i,j] v2 N2 A2 B2 hN
 simp only[natA,List.map_cons,List.map_nil]at qm
 unfold zAd
 refine eD C_ok Try.func59 Try.results59 fun ok=> ?_
 have h:=YAN
 repeat' (first
  |(with_reducible first|apply bA|apply bB|apply bC|apply bD|apply bE|apply bF)<;>intro h
  |((first|apply bG|apply bH);simp only[yP,yQ,W2,W2B,W3,yH,yI,yJ,yK,yL,yM,hpK,hP,h5,h6,YAK,zGx,zGy,yO,yN,zTh,zTg];first|refine zIA (i1 _ (by first|exact hD|exact hD.app _)) (.inl rfl) (fun hb=>krB (by first|exact hD|exact hD.app _) hb) ?_|refine zIA (i2 _ (by first|exact hD|exact hD.app _)) (.inl rfl) (fun hb=>krB (by first|exact hD|exact hD.app _) hb) ?_|refine zIA (qm _ (by first|exact hD|exact hD.app _)) (.inl rfl) (fun hb=>krB (by first|exact hD|exact hD.app _) hb) ?_)
  |refine drA C_ok 7 0 ?_
  |refine zJ9 ?_ C_ok Try.f59.ntmps rfl (by decide)
  |skip)<;>simp only[h,↓zaL,↓zHC,WY,reduceIte,yA,yB,yC,yD,reduceCtorEq,yE,yF,W1,W1B,WS,W3,yH,yI,yJ,yK,yL,yM,hpK,hP,h5,h6,YAK,zGx,zGy,yO,yN,zTh,zTg,zFY]
 all_goals first|rfl|trace_state
theorem zjH(hD:SxdD F g q c a b d){x:Ty}(k:Int)(h5:(k==5)=false)(h6:(k==6)=false){m i:Nat}{v v1:Nat}{N N1:List Nd}{A A1 B B1:List (Int×Nat)}(hN:N1.length<=1000000)
 (i1:∀F:List AObj,SxdD F g q c a b d->zAd Try.prog 59 [.bptr g 0,emb x,.mp m] (hpK F g q c a b d v N A B x3 x6) (.int .i64 i) (hpK F g q c a b d v1 N1 A1 B1 x3 x6)):
 zAd Try.prog 59 [.bptr g 0,emb (.mk k 0 [x]),.mp m] (hpK F g q c a b d v N A B x3 x6) (.int .i64 N1.length) (hpK F g q c a b d (v1+1) (addN N1 k [i]) A1 B1 x3 x6):=by
 have hP:=sxdP hD
 have qm:=fun F hD=>zi4 (F:=F) (g:=g) (q:=q) (c:=c) (a:=a) (b:=b) (d:=d) (x3:=x3) (x6:=x6) hD k [i] v1 N1 A1 B1 hN
 simp only[natA,List.map_cons,List.map_nil]at qm
 unfold zAd
 refine eD C_ok Try.func59 Try.results59 fun ok=> ?_
 have h:=YAN
 repeat' (first
  |(with_reducible first|apply bA|apply bB|apply bC|apply bD|apply bE|apply bF)<;>intro h
  |((first|apply bG|apply bH);simp only[yP,yQ,W2,W2B,W3,yH,yI,yJ,yK,yL,yM,hpK,hP,h5,h6,YAK,zGx,zGy,yO,yN,zTh,zTg];first|refine zIA (i1 _ (by first|exact hD|exact hD.app _)) (.inl rfl) (fun hb=>krB (by first|exact hD|exact hD.app _) hb) ?_|refine zIA (qm _ (by first|exact hD|exact hD.app _)) (.inl rfl) (fun hb=>krB (by first|exact hD|exact hD.app _) hb) ?_)
  |refine drA C_ok 7 0 ?_
  |refine zJ9 ?_ C_ok Try.f59.ntmps rfl (by decide)
  |skip)<;>simp only[h,↓zaL,↓zHC,WY,reduceIte,yA,yB,yC,yD,reduceCtorEq,yE,yF,W1,W1B,WS,W3,yH,yI,yJ,yK,yL,yM,hpK,hP,h5,h6,YAK,zGx,zGy,yO,yN,zTh,zTg,zFY]
 all_goals first|rfl|trace_state
theorem zi9(t:T):∀(v:Nat) (N:List Nd) (A B:List (Int×Nat)),N.length+t.size<=1000000->
 ∃v',∀F:List AObj,SxdD F g q c a b d->zAd Try.prog 59 [.bptr g 0,emb t.ty,.mp a] (hpK F g q c a b d v N A B x3 x6) (.int .i64 (putF t N A).2.2) (hpK F g q c a b d v' (putF t N A).1 (putF t N A).2.1 B x3 x6):=by
 induction t with
 |base k=>
  intro v N A B hN
  have:=k.isLt
  refine⟨v+1,fun F hD=> ?_⟩
  exact zjC hD _ (by rw[YAZ];omega) (by rw[YAZ];omega) v N A B (by omega) a
 |dyn=>intro v N A B hN;exact⟨v+1,fun F hD=>zjB hD v N A B (by omega) a⟩
 |var n=>
  intro v N A B hN
  cases hl:zjU A n with
  |some i=>exact⟨v,fun F hD=>by simp only[putF,hl];exact zjF hD n v N A B hl⟩
  |none=>exact⟨v+1,fun F hD=>by simp only[putF,hl];exact zjD hD n v N A B (by omega) hl⟩
 |list x i1=>
  intro v N A B hN
  simp only[T.size]at hN
  have l1:=zj8 x N A
  obtain⟨v1,h1⟩:=i1 v N A B (by omega)
  exact⟨v1+1,fun F hD=>zjH hD 8 rfl rfl (by omega) h1⟩
 |pair x y i1 i2=>
  intro v N A B hN
  simp only[T.size]at hN
  have l1:=zj8 x N A
  have l2:=zj8 y (putF x N A).1 (putF x N A).2.1
  obtain⟨v1,h1⟩:=i1 v N A B (by omega)
  obtain⟨v2,h2⟩:=i2 v1 (putF x N A).1 (putF x N A).2.1 B (by omega)
  exact⟨v2+1,fun F hD=>zjI hD 7 rfl rfl (by omega) h1 h2⟩
 |fn x y i1 i2=>
  intro v N A B hN
  simp only[T.size]at hN
  have l1:=zj8 x N A
  have l2:=zj8 y (putF x N A).1 (putF x N A).2.1
  obtain⟨v1,h1⟩:=i1 v N A B (by omega)
  obtain⟨v2,h2⟩:=i2 v1 (putF x N A).1 (putF x N A).2.1 B (by omega)
  exact⟨v2+1,fun F hD=>zjI hD 9 rfl rfl (by omega) h1 h2⟩
theorem zjA(t:T):∀(v:Nat) (N:List Nd) (A B:List (Int×Nat)),N.length+t.size<=1000000->
 ∃v',∀F:List AObj,SxdD F g q c a b d->zAd Try.prog 59 [.bptr g 0,emb t.ty,.mp b] (hpK F g q c a b d v N A B x3 x6) (.int .i64 (putF t N B).2.2) (hpK F g q c a b d v' (putF t N B).1 A (putF t N B).2.1 x3 x6):=by
 induction t with
 |base k=>
  intro v N A B hN
  have:=k.isLt
  refine⟨v+1,fun F hD=> ?_⟩
  exact zjC hD _ (by rw[YAZ];omega) (by rw[YAZ];omega) v N A B (by omega) b
 |dyn=>intro v N A B hN;exact⟨v+1,fun F hD=>zjB hD v N A B (by omega) b⟩
 |var n=>
  intro v N A B hN
  cases hl:zjU B n with
  |some i=>exact⟨v,fun F hD=>by simp only[putF,hl];exact zjG hD n v N A B hl⟩
  |none=>exact⟨v+1,fun F hD=>by simp only[putF,hl];exact zjE hD n v N A B (by omega) hl⟩
 |list x i1=>
  intro v N A B hN
  simp only[T.size]at hN
  have l1:=zj8 x N B
  obtain⟨v1,h1⟩:=i1 v N A B (by omega)
  exact⟨v1+1,fun F hD=>zjH hD 8 rfl rfl (by omega) h1⟩
 |pair x y i1 i2=>
  intro v N A B hN
  simp only[T.size]at hN
  have l1:=zj8 x N B
  have l2:=zj8 y (putF x N B).1 (putF x N B).2.1
  obtain⟨v1,h1⟩:=i1 v N A B (by omega)
  obtain⟨v2,h2⟩:=i2 v1 (putF x N B).1 A (putF x N B).2.1 (by omega)
  exact⟨v2+1,fun F hD=>zjI hD 7 rfl rfl (by omega) h1 h2⟩
 |fn x y i1 i2=>
  intro v N A B hN
  simp only[T.size]at hN
  have l1:=zj8 x N B
  have l2:=zj8 y (putF x N B).1 (putF x N B).2.1
  obtain⟨v1,h1⟩:=i1 v N A B (by omega)
  obtain⟨v2,h2⟩:=i2 v1 (putF x N B).1 A (putF x N B).2.1 (by omega)
  exact⟨v2+1,fun F hD=>zjI hD 9 rfl rfl (by omega) h1 h2⟩
end
end Go.Proofs.Ytmpegnogdgbleaa
