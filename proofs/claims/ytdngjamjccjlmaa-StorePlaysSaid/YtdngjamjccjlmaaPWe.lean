/- Lemmas: the laws of stores, second part. No condition. -/
import Derived.Test.YtdngjamjccjlmaaPWd
import Derived.Test.YtdngjamjccjlmaaPCa
import Derived.Test.YtdngjamjccjlmaaPSb
set_option linter.unusedSimpArgs false
set_option linter.unusedVariables false
set_option maxHeartbeats 4000000
set_option maxRecDepth 100000
namespace Go.Proofs.Ytdngjamjccjlmaa
open Go Go.Ab
open Nat renaming reduceEqDiff -> yA, reduceAdd -> yB, reduceLT -> yC, reduceLeDiff -> yD, reduceMul -> yE, reducePow -> yF
open Int renaming reduceAdd -> yH, reduceLT -> yI, reduceToNat -> yJ, reduceBEq -> yK, reduceBNe -> yL, reduceLE -> yM
open AV renaming belL -> yO, bel -> yN, normL -> yQ, norm -> yP
attribute [local irreducible] zA0 zAA zAa zAi zAj GoIf GoGb zAk GoO GoD GoX GoDX GoG GoDG GoGv zAl Go zAB
section
section
variable {F : List AObj} {s r v v1 v2 : Nat} {L L1 L2 : Mem} {lim cnt cnt1 cnt2 rd : Int}
theorem zS4(hs:s<F.length)(hr:r<F.length)(hne:r≠s)(k n:Int)(w:IntKind.wrap .i64 (k-1)=k-1):DCalls Try.prog 97 [.bptr s 0,emb (.mk k n [])] (hpS F s r v L lim cnt rd) (.int .i64 (k-1)) (hpS F s r v L lim cnt rd):=by
 unfold DCalls
 refine eD C_ok Try.func97 Try.results97 fun ok=> ?_
 have h:=YAN
 repeat' (first
  |(with_reducible first|apply bA|apply bB|apply bC|apply bD|apply bE|apply bF)<;>intro h
  |refine zJ9 ?_ C_ok Try.f97.ntmps rfl (by decide)
  |skip)<;>simp only[h,↓zaL,↓zHC,WY,reduceIte,yA,yB,yC,yD,reduceCtorEq,yE,yF,W1,WS,W3,yH,yI,yJ,yK,yL,yM,hpS,bxS,arS,stP hs hr hne,zTh,zTg,yN,zOg,w,zGy,zG6,zGx,implies_true,zFY]
theorem zTC(hs:s<F.length)(hr:r<F.length)(hne:r≠s){x y:Ty}{i j:Nat}(k n:Int)
 (i1:∀F:List AObj,s<F.length->r<F.length->DCalls Try.prog 97 [.bptr s 0,emb x] (hpS F s r v L lim cnt rd) (.int .i64 i) (hpS F s r v1 L1 lim cnt1 rd))
 (i2:∀F:List AObj,s<F.length->r<F.length->DCalls Try.prog 97 [.bptr s 0,emb y] (hpS F s r v1 L1 lim cnt1 rd) (.int .i64 j) (hpS F s r v2 L2 lim cnt2 rd))
 (hL:L2.length<=1000000) (hc:0<=cnt2/\cnt2<=1000000):
 DCalls Try.prog 97 [.bptr s 0,emb (.mk k n [x,y])] (hpS F s r v L lim cnt rd) (.int .i64 L2.length) (hpS F s r (v2+1) (L2++ [(⟨k,0,none,[i,j]⟩,0)]) lim (cnt2+1) rd):=by
 unfold DCalls
 refine eD C_ok Try.func97 Try.results97 fun ok=> ?_
 have h:=YAN
 repeat' (first
  |(with_reducible first|apply bA|apply bB|apply bC|apply bD|apply bE|apply bF)<;>intro h
  |((first|apply bG|apply bH);simp only[yP,yQ,W2,W3,yH,yI,yJ,yK,yL,yM,hpS,bxS,arS,stP hs hr hne,zTh,zTg,yN,zOg,zGy,zG6,zGx,implies_true];first|refine zIA (i1 _ (by first|exact hs|simp<;>omega) (by first|exact hr|simp<;>omega)) (.inl rfl) (fun hb=>zLV (by first|exact hs|simp<;>omega) (by first|exact hr|simp<;>omega) hne hb) ?_|refine zIA (i2 _ (by first|exact hs|simp<;>omega) (by first|exact hr|simp<;>omega)) (.inl rfl) (fun hb=>zLV (by first|exact hs|simp<;>omega) (by first|exact hr|simp<;>omega) hne hb) ?_|refine zIA (zBk (by first|exact hs|simp<;>omega) (by first|exact hr|simp<;>omega) hne k 0 0 0 [i,j] hL hc) (.inl rfl) (fun hb=>zLV (by first|exact hs|simp<;>omega) (by first|exact hr|simp<;>omega) hne hb) ?_)
  |refine zJ9 ?_ C_ok Try.f97.ntmps rfl (by decide)
  |skip)<;>simp only[h,↓zaL,↓zHC,WY,reduceIte,yA,yB,yC,yD,reduceCtorEq,yE,yF,W1,WS,W3,yH,yI,yJ,yK,yL,yM,hpS,bxS,arS,stP hs hr hne,zTh,zTg,yN,zOg,zGy,zG6,zGx,implies_true,zFY]
theorem zS8(hs:s<F.length)(hr:r<F.length)(hne:r≠s){x:Ty}{i:Nat}(k n:Int)
 (i1:∀F:List AObj,s<F.length->r<F.length->DCalls Try.prog 97 [.bptr s 0,emb x] (hpS F s r v L lim cnt rd) (.int .i64 i) (hpS F s r v1 L1 lim cnt1 rd))
 (hL:L1.length<=1000000) (hc:0<=cnt1/\cnt1<=1000000):
 DCalls Try.prog 97 [.bptr s 0,emb (.mk k n [x])] (hpS F s r v L lim cnt rd) (.int .i64 L1.length) (hpS F s r (v1+1) (L1++ [(⟨k,0,none,[i]⟩,0)]) lim (cnt1+1) rd):=by
 unfold DCalls
 refine eD C_ok Try.func97 Try.results97 fun ok=> ?_
 have h:=YAN
 repeat' (first
  |(with_reducible first|apply bA|apply bB|apply bC|apply bD|apply bE|apply bF)<;>intro h
  |((first|apply bG|apply bH);simp only[yP,yQ,W2,W3,yH,yI,yJ,yK,yL,yM,hpS,bxS,arS,stP hs hr hne,zTh,zTg,yN,zOg,zGy,zG6,zGx,implies_true];first|refine zIA (i1 _ (by first|exact hs|simp<;>omega) (by first|exact hr|simp<;>omega)) (.inl rfl) (fun hb=>zLV (by first|exact hs|simp<;>omega) (by first|exact hr|simp<;>omega) hne hb) ?_|refine zIA (zBk (by first|exact hs|simp<;>omega) (by first|exact hr|simp<;>omega) hne k 0 0 0 [i] hL hc) (.inl rfl) (fun hb=>zLV (by first|exact hs|simp<;>omega) (by first|exact hr|simp<;>omega) hne hb) ?_)
  |refine zJ9 ?_ C_ok Try.f97.ntmps rfl (by decide)
  |skip)<;>simp only[h,↓zaL,↓zHC,WY,reduceIte,yA,yB,yC,yD,reduceCtorEq,yE,yF,W1,WS,W3,yH,yI,yJ,yK,yL,yM,hpS,bxS,arS,stP hs hr hne,zTh,zTg,yN,zOg,zGy,zG6,zGx,implies_true,zFY]
end
theorem zW4{s r:Nat}{lim rd:Int}(hne:r≠s):∀(t:T) (F:List AObj) (v:Nat) (L:Mem) (cnt:Int),s<F.length->r<F.length->t.closed=true->L.length+t.inner<=1000000->0<=cnt->cnt+t.inner<=1000000->
 DCalls Try.prog 97 [.bptr s 0,emb t.ty] (hpS F s r v L lim cnt rd) (.int .i64 ((putM t L).2:Nat)) (hpS F s r (v+t.inner) (putM t L).1 lim (cnt+(t.inner:Nat)) rd):=by
 intro t
 induction t with
 |base k=>
  intro F v L cnt hs hr hcl h1 h2 h3
  have:=zS4 (v:=v) (L:=L) (lim:=lim) (cnt:=cnt) (rd:=rd) hs hr hne (k.val+1) 0 (zbT (by omega) (by omega))
  rw[show((k.val:Int)+1-1)=(k.val:Int)by omega]at this
  simpa only[T.ty,putM,T.inner,Int.natCast_zero,Int.add_zero,Nat.add_zero]using this
 |dyn=>
  intro F v L cnt hs hr hcl h1 h2 h3
  have:=zS4 (v:=v) (L:=L) (lim:=lim) (cnt:=cnt) (rd:=rd) hs hr hne 5 0 (zbT (by omega) (by omega))
  rw[show(5:Int)-1=((4:Nat):Int)by decide]at this
  simpa only[T.ty,putM,T.inner,Int.natCast_zero,Int.add_zero,Nat.add_zero]using this
 |var n=>intro F v L cnt hs hr hcl;cases hcl
 |pair a b ih1 ih2=>
  intro F v L cnt hs hr hcl h1 h2 h3
  simp only[T.closed,YAA]at hcl
  simp only[T.inner]at h1 h3
  have l1:=zSl a L
  have l2:=zSl b (putM a L).1
  have:=zTC (F:=F) (s:=s) (r:=r) hs hr hne 7 0 (fun F hs hr=>ih1 F v L cnt hs hr hcl.1 (by omega) h2 (by omega)) (fun F hs hr=>ih2 F (v+a.inner) (putM a L).1 (cnt+(a.inner:Nat)) hs hr hcl.2 (by omega) (by omega) (by omega)) (by omega) ⟨by omega,by omega⟩
  rw[show v+a.inner+b.inner+1=v+(a.inner+b.inner+1)by omega,show cnt+(a.inner:Nat)+(b.inner:Nat)+1=cnt+((a.inner+b.inner+1:Nat):Int)by omega]at this
  exact this
 |fn a b ih1 ih2=>
  intro F v L cnt hs hr hcl h1 h2 h3
  simp only[T.closed,YAA]at hcl
  simp only[T.inner]at h1 h3
  have l1:=zSl a L
  have l2:=zSl b (putM a L).1
  have:=zTC (F:=F) (s:=s) (r:=r) hs hr hne 9 0 (fun F hs hr=>ih1 F v L cnt hs hr hcl.1 (by omega) h2 (by omega)) (fun F hs hr=>ih2 F (v+a.inner) (putM a L).1 (cnt+(a.inner:Nat)) hs hr hcl.2 (by omega) (by omega) (by omega)) (by omega) ⟨by omega,by omega⟩
  rw[show v+a.inner+b.inner+1=v+(a.inner+b.inner+1)by omega,show cnt+(a.inner:Nat)+(b.inner:Nat)+1=cnt+((a.inner+b.inner+1:Nat):Int)by omega]at this
  exact this
 |list a ih1=>
  intro F v L cnt hs hr hcl h1 h2 h3
  simp only[T.closed]at hcl
  simp only[T.inner]at h1 h3
  have l1:=zSl a L
  have:=zS8 (F:=F) (s:=s) (r:=r) hs hr hne 8 0 (fun F hs hr=>ih1 F v L cnt hs hr hcl (by omega) h2 (by omega)) (by omega) ⟨by omega,by omega⟩
  rw[show v+a.inner+1=v+(a.inner+1)by omega,show cnt+(a.inner:Nat)+1=cnt+((a.inner+1:Nat):Int)by omega]at this
  exact this
section
variable {F : List AObj} {s r v : Nat} {L : Mem} {lim cnt rd : Int}
theorem zoz(hs:s<F.length)(hr:r<F.length)(hne:r≠s)(t:Ty)(hrc:(right t&&without 6 t)=false):DCalls Try.prog 42 [.bptr s 0,emb t] (hpS F s r v L lim cnt rd) (.tup [.int .i64 0,.int .i64 1]) (hpS F s r v L lim cnt rd):=by
 unfold DCalls
 by_cases h1:right t=true
 ·rw[h1,Bool.true_and]at hrc
  refine eD C_ok Try.func42 Try.results42 fun ok=> ?_
  have h:=YAN
  repeat' (first
   |(with_reducible first|apply bA|apply bB|apply bC|apply bD|apply bE|apply bF)<;>intro h
   |((first|apply bG|apply bH);simp only[yP,yQ,W2,hpS,bxS,arS,stP hs hr hne,zTh,zTg,yN,zOg,h1,hrc,zGy,zG6,zGx,implies_true,yO,if_true,YAO];first|refine zIf (zEj t) (.inl rfl) ?_|refine zIf (zEu t) (.inl rfl) ?_|refine zIj (zEj t) (.inl rfl) ?_|refine zIj (zEu t) (.inl rfl) ?_)
   |refine drA C_ok 3 0 ?_
   |skip)<;>simp only[h,↓zaL,↓zHC,WY,reduceIte,yA,yB,yC,yD,reduceCtorEq,yE,yF,W1,WS,hpS,bxS,arS,stP hs hr hne,zTh,zTg,yN,zOg,h1,hrc,zGy,zG6,zGx,implies_true,yO,if_true,YAO]
 ·have qc:=zEj t
  rw[if_neg h1]at qc
  have hb1:((1:Int) !=0)=true:=by decide
  refine eD C_ok Try.func42 Try.results42 fun ok=> ?_
  have h:=YAN
  repeat' (first
   |(with_reducible first|apply bA|apply bB|apply bC|apply bD|apply bE|apply bF)<;>intro h
   |((first|apply bG|apply bH);simp only[yP,yQ,W2,hpS,bxS,arS,stP hs hr hne,zTh,zTg,yN,zOg,hb1,zGy,zG6,zGx,implies_true,yO];first|refine zIf (qc) (.inl rfl) ?_|refine zIf (zEu t) (.inl rfl) ?_|refine zIj (qc) (.inl rfl) ?_|refine zIj (zEu t) (.inl rfl) ?_)
   |refine drA C_ok 3 0 ?_
   |skip)<;>simp only[h,↓zaL,↓zHC,WY,reduceIte,yA,yB,yC,yD,reduceCtorEq,yE,yF,W1,WS,hpS,bxS,arS,stP hs hr hne,zTh,zTg,yN,zOg,hb1,zGy,zG6,zGx,implies_true,yO]
theorem zo0(hs:s<F.length)(hr:r<F.length)(hne:r≠s)(t:T)(ho:t.ok=true)(hcl:t.closed=true)(hc:0<=cnt/\cnt<=lim/\lim<=65536)(hi:t.inner<=1000000)(h:lim-cnt<t.inner):DCalls Try.prog 42 [.bptr s 0,emb t.ty] (hpS F s r v L lim cnt rd) (.tup [.int .i64 0,.int .i64 7]) (hpS F s r v L lim cnt rd):=by
 obtain⟨m,hm⟩:∃m:Nat,lim-cnt=(m:Int):=⟨(lim-cnt).toNat,by omega⟩
 have w1:IntKind.wrap .i64 (lim-cnt)=(m:Int):=by rw[zbT (by omega) (by omega)];exact hm
 have q:=zOP t m hi (by omega)
 have h0:=zOI t m
 have hlt:m<zOH t m:=by omega
 have h1:right t.ty=true:=by rw[T.zT5];exact ho
 have h2:without 6 t.ty=true:=by rw[T.zEw];exact hcl
 unfold DCalls
 refine eD C_ok Try.func42 Try.results42 fun ok=> ?_
 have h:=YAN
 repeat' (first
  |(with_reducible first|apply bA|apply bB|apply bC|apply bD|apply bE|apply bF)<;>intro h
  |((first|apply bG|apply bH);simp only[yP,yQ,W2,hpS,bxS,arS,stP hs hr hne,zTh,zTg,yN,zOg,h1,h2,w1,hlt,zGy,zG6,zGx,implies_true,yO,if_true,YAO];first|refine zIf (zEj t.ty) (.inl rfl) ?_|refine zIf (zEu t.ty) (.inl rfl) ?_|refine zIf (q) (.inl rfl) ?_|refine zIj (zEj t.ty) (.inl rfl) ?_|refine zIj (zEu t.ty) (.inl rfl) ?_|refine zIj (q) (.inl rfl) ?_)
  |refine drA C_ok 3 0 ?_
  |skip)<;>simp only[h,↓zaL,↓zHC,WY,reduceIte,yA,yB,yC,yD,reduceCtorEq,yE,yF,W1,WS,hpS,bxS,arS,stP hs hr hne,zTh,zTg,yN,zOg,h1,h2,w1,hlt,zGy,zG6,zGx,implies_true,yO,if_true,YAO]
theorem zSz(hs:s<F.length)(hr:r<F.length)(hne:r≠s)(t:T)(ho:t.ok=true)(hcl:t.closed=true)(hc:0<=cnt/\cnt<=lim/\lim<=65536)(hL:L.length+t.inner<=1000000)(h:(t.inner:Int)<=lim-cnt):DCalls Try.prog 42 [.bptr s 0,emb t.ty] (hpS F s r v L lim cnt rd) (.tup [.int .i64 ((putM t L).2:Nat),.int .i64 0]) (hpS F s r (v+t.inner) (putM t L).1 lim (cnt+(t.inner:Nat)) rd):=by
 obtain⟨m,hm⟩:∃m:Nat,lim-cnt=(m:Int):=⟨(lim-cnt).toNat,by omega⟩
 have w1:IntKind.wrap .i64 (lim-cnt)=(m:Int):=by rw[zbT (by omega) (by omega)];exact hm
 have q:=zOP t m (by omega) (by omega)
 have h0:=zOI t m
 have hlt:¬m<zOH t m:=by omega
 have h1:right t.ty=true:=by rw[T.zT5];exact ho
 have h2:without 6 t.ty=true:=by rw[T.zEw];exact hcl
 have q2:=fun F hs hr=>zW4 (s:=s) (r:=r) (lim:=lim) (rd:=rd) hne t F v L cnt hs hr hcl hL hc.1 (by omega)
 unfold DCalls
 refine eD C_ok Try.func42 Try.results42 fun ok=> ?_
 have h:=YAN
 repeat' (first
  |(with_reducible first|apply bA|apply bB|apply bC|apply bD|apply bE|apply bF)<;>intro h
  |((first|apply bG|apply bH);simp only[yP,yQ,W2,hpS,bxS,arS,stP hs hr hne,zTh,zTg,yN,zOg,h1,h2,w1,hlt,zGy,zG6,zGx,implies_true,yO,if_true,YAO];first|refine zIf (zEj t.ty) (.inl rfl) ?_|refine zIf (zEu t.ty) (.inl rfl) ?_|refine zIf (q) (.inl rfl) ?_|refine zIj (zEj t.ty) (.inl rfl) ?_|refine zIj (zEu t.ty) (.inl rfl) ?_|refine zIj (q) (.inl rfl) ?_|refine zIA (q2 _ (by first|exact hs|simp<;>omega) (by first|exact hr|simp<;>omega)) (.inl rfl) (fun hb=>zLV (by first|exact hs|simp<;>omega) (by first|exact hr|simp<;>omega) hne hb) ?_)
  |refine drA C_ok 3 0 ?_
  |skip)<;>simp only[h,↓zaL,↓zHC,WY,reduceIte,yA,yB,yC,yD,reduceCtorEq,yE,yF,W1,WS,hpS,bxS,arS,stP hs hr hne,zTh,zTg,yN,zOg,h1,h2,w1,hlt,zGy,zG6,zGx,implies_true,yO,if_true,YAO]
end
end
section
theorem zSo{rd:Int}(t:T)(L:Mem)(h:SI L rd)(hc:t.closed=true):SI (putM t L).1 rd/\(putM t L).2<(putM t L).1.length/\(putM t L).1.st.tree (putM t L).2=t.ty:=by
 have h1:=zSp t L
 have h2:=zSr t L.st h.wf hc
 rw[<-h1.1,<-h1.2]at h2
 exact⟨⟨h2.wf,zSm h.rd0 t L h.mb,h.rd0⟩,by have:=h2.lt;rwa[Mem.zXR]at this,h2.tree⟩
end
section
def zOJ(lvl:Int):T->Mem->List (Int×Int)->Mem×List (Int×Int)×Nat
 | .var k,S,vs=>match mget vs k with
  |some n=>(S,vs,n.toNat)
  |none=>(S++ [(⟨6,lvl,none,[]⟩,0)],mput vs k S.length,S.length)
 | .base k,S,vs=>(S,vs,k.val)
 | .dyn,S,vs=>(S,vs,4)
 | .pair a b,S,vs=>let p:=zOJ lvl a S vs;let q:=zOJ lvl b p.1 p.2.1;(q.1++ [(⟨7,0,none,[p.2.2,q.2.2]⟩,0)],q.2.1,q.1.length)
 | .fn a b,S,vs=>let p:=zOJ lvl a S vs;let q:=zOJ lvl b p.1 p.2.1;(q.1++ [(⟨9,0,none,[p.2.2,q.2.2]⟩,0)],q.2.1,q.1.length)
 | .list a,S,vs=>let p:=zOJ lvl a S vs;(p.1++ [(⟨8,0,none,[p.2.2]⟩,0)],p.2.1,p.1.length)
theorem zd9{F:List AObj}{b m:Nat}{X:AObj}(hX:X.bel b=true)(h:∀x∈F.take b,x.bel b=true):∀x∈(F.set m X).take b,x.bel b=true:=by
 intro x hx
 rw[List.take_set]at hx
 rcases List.mem_or_eq_of_mem_set hx with hx|rfl
 ·exact h x hx
 ·exact hX
section
variable {F : List AObj} {s r m : Nat}
def zAs(s r m:Nat)(lim rd lvl:Int)(t:Ty)(v:Nat)(L:Mem)(cnt:Int)(Z:List (Int×Int))(v':Nat)(L':Mem)(cnt':Int)(Z':List (Int×Int))(n:Nat):Prop:=
 ∀F:List AObj,s<F.length->r<F.length->m<F.length->DCalls Try.prog 22 [.bptr s 0,emb t,.int .i64 lvl,.mp m] (hpS (F.set m (.map (embM Z))) s r v L lim cnt rd) (.tup [.int .i64 n,.int .i64 0]) (hpS (F.set m (.map (embM Z'))) s r v' L' lim cnt' rd)
theorem zAs.at{lim rd lvl:Int}{t:Ty}{v:Nat}{L:Mem}{cnt:Int}{Z:List (Int×Int)}{v':Nat}{L':Mem}{cnt':Int}{Z':List (Int×Int)}{n:Nat}(h:zAs s r m lim rd lvl t v L cnt Z v' L' cnt' Z' n)(hs:s<F.length)(hr:r<F.length)(hm:m<F.length)(J:List AObj):
 DCalls Try.prog 22 [.bptr s 0,emb t,.int .i64 lvl,.mp m] (hpS (F.set m (.map (embM Z))++J) s r v L lim cnt rd) (.tup [.int .i64 n,.int .i64 0]) (hpS (F.set m (.map (embM Z'))++J) s r v' L' lim cnt' rd):=by
 have:=h (F++J) (zN3 hs) (zN3 hr) (zN3 hm)
 rwa[zCW hm,zCW hm]at this
end
section
variable {s r m v v1 v2 : Nat} {L L1 L2 : Mem} {lim cnt cnt1 cnt2 rd lvl : Int} {Z Z1 Z2 : List (Int × Int)}
end
end
section
section
variable {F : List AObj} {s r v : Nat} {L : Mem} {lim cnt rd : Int}
theorem zp5(hs:s<F.length)(hr:r<F.length)(hne:r≠s)(hw:Wf L.st)(hm:MB L rd)(hL:L.length<=1000000)(hrd:0<=rd/\rd<=1000000000000)(n:Nat)(hn:n<L.length):
 DCalls Try.prog 33 [.bptr s 0,.int .i64 n] (hpS F s r v L lim cnt rd) (.bool (!decide (4∈L.st.all n))) (hpS F s r v (mkL L (rd+1) (L.st.all n)) lim cnt (rd+1)):=by
 have q1:=zMI (v:=v) (L:=L) (lim:=lim) (cnt:=cnt) (rd:=rd) hs hr hne hn
 have q3:=zUT (v:=v) (lim:=lim) (cnt:=cnt) hs hr hne hw hm hL hrd n hn
 have q5:=zFI (kidI (L.st.all n)) 4
 rw[show decide ((4:Int)∈kidI (L.st.all n))=decide (4∈L.st.all n)by rw[decide_eq_decide];exact zPF (n:=4)]at q5
 unfold DCalls
 refine eD C_ok Try.func33 Try.results33 fun ok=> ?_
 have h:=YAN
 repeat' (first
  |(with_reducible first|apply bA|apply bB|apply bC|apply bD|apply bE|apply bF)<;>intro h
  |((first|apply bG|apply bH);simp only[yP,yQ,W2,hpS,bxS,arS,stP hs hr hne,zTh,zTg,yN,zOg,zLz];first|refine zIf (q5) (.inl rfl) ?_|refine zIj (q5) (.inl rfl) ?_|refine zIB (q1) (.inl rfl) ?_|refine zIA (q3) (.inl rfl) (fun hb=>zLV (by first|exact hs|simp<;>omega) (by first|exact hr|simp<;>omega) hne hb) ?_)
  |skip)<;>simp only[h,↓zaL,↓zHC,WY,reduceIte,yA,yB,yC,yD,reduceCtorEq,yE,yF,W1,WS,hpS,bxS,arS,stP hs hr hne,zTh,zTg,yN,zOg,zLz]
theorem znw(hs:s<F.length)(hr:r<F.length)(hne:r≠s)(n:Nat)(hn:n<L.length){lv:Int}(hlv:lv<0):
 DCalls Try.prog 37 [.bptr s 0,.int .i64 n,.int .i64 lv] (hpS F s r v L lim cnt rd) (.int .i64 1) (hpS F s r v L lim cnt rd):=by
 have q1:=zMI (v:=v) (L:=L) (lim:=lim) (cnt:=cnt) (rd:=rd) hs hr hne hn
 unfold DCalls
 refine eD C_ok Try.func37 Try.results37 fun ok=> ?_
 have h:=YAN
 repeat' (first
  |(with_reducible first|apply bA|apply bB|apply bC|apply bD|apply bE|apply bF)<;>intro h
  |((first|apply bG|apply bH);simp only[yP,yQ,W2,hpS,bxS,arS,stP hs hr hne,zTh,zTg,yN,zOg,hlv];refine zIB (q1) (.inl rfl) ?_)
  |skip)<;>simp only[h,↓zaL,↓zHC,WY,reduceIte,yA,yB,yC,yD,reduceCtorEq,yE,yF,W1,WS,hpS,bxS,arS,stP hs hr hne,zTh,zTg,yN,zOg,hlv]
theorem zAq(hs:s<F.length)(hr:r<F.length)(hne:r≠s)(hw:Wf L.st)(hm:MB L rd)(hL:L.length<=1000000)(hrd:0<=rd/\rd<=1000000000000)(n:Nat)(hn:n<L.length){lv:Int}(hlv:¬lv<0):
 DCalls Try.prog 37 [.bptr s 0,.int .i64 n,.int .i64 lv] (hpS F s r v L lim cnt rd) (.int .i64 0) (hpS F s r v (lowL (mkL L (rd+1) (L.st.all n)) lv (L.st.vars n)) lim cnt (rd+1)):=by
 have q1:=zMI (v:=v) (L:=L) (lim:=lim) (cnt:=cnt) (rd:=rd) hs hr hne hn
 have q3:=zN1 (v:=v) (lim:=lim) (cnt:=cnt) hs hr hne hw hm hL hrd n hn lv
 generalize lowL (mkL L (rd+1) (L.st.all n)) lv (L.st.vars n)=M at*
 unfold DCalls
 refine eD C_ok Try.func37 Try.results37 fun ok=> ?_
 have h:=YAN
 repeat' (first
  |(with_reducible first|apply bA|apply bB|apply bC|apply bD|apply bE|apply bF)<;>intro h
  |((first|apply bG|apply bH);simp only[yP,yQ,W2,hpS,bxS,arS,stP hs hr hne,zTh,zTg,yN,zOg,hlv];first|refine zIB (q1) (.inl rfl) ?_|refine zIA (q3) (.inl rfl) (fun hb=>zLV (by first|exact hs|simp<;>omega) (by first|exact hr|simp<;>omega) hne hb) ?_)
  |skip)<;>simp only[h,↓zaL,↓zHC,WY,reduceIte,yA,yB,yC,yD,reduceCtorEq,yE,yF,W1,WS,hpS,bxS,arS,stP hs hr hne,zTh,zTg,yN,zOg,hlv]
end
end
section
theorem belJ{G J J':List AObj}{s r v v' b:Nat}{L L':Mem}{lim cnt rd lim' cnt' rd':Int}(hs:s<G.length)(hr:r<G.length)(hne:r≠s)(hb:b<=G.length)
 (h:∀x∈(hpS (G++J) s r v L lim cnt rd).take b,x.bel b=true):∀x∈(hpS (G++J') s r v' L' lim' cnt' rd').take b,x.bel b=true:=by
 have e:∀(J:List AObj) v (L:Mem) (lim cnt rd:Int),(hpS (G++J) s r v L lim cnt rd).take b=(hpS G s r v L lim cnt rd).take b:=fun J v L lim cnt rd=>by
  unfold hpS;rw[<-zW9 hs hr,List.take_append_of_le_length (by rw[zXB];exact hb)]
 rw[e]at h⊢
 exact zLV hs hr hne h
theorem zAs.loc{s r j:Nat}{lim rd lvl:Int}{t:Ty}{v:Nat}{L:Mem}{cnt:Int}{Z:List (Int×Int)}{v':Nat}{L':Mem}{cnt':Int}{Z':List (Int×Int)}{n:Nat}{G:List AObj}(h:zAs s r (G.length+j) lim rd lvl t v L cnt Z v' L' cnt' Z' n)
 (hs:s<G.length) (hr:r<G.length) (J J':List AObj) (hj:j<J.length) (e1:J.set j (.map (embM Z))=J) (e2:J.set j (.map (embM Z'))=J'):
 DCalls Try.prog 22 [.bptr s 0,emb t,.int .i64 lvl,.mp (G.length+j)] (hpS (G++J) s r v L lim cnt rd) (.tup [.int .i64 n,.int .i64 0]) (hpS (G++J') s r v' L' lim cnt' rd):=by
 have:=h (G++J) (zN3 hs) (zN3 hr) (by simp;omega)
 rw[zCY rfl,zCY rfl,e1,e2]at this
 exact this
end
end Go.Proofs.Ytdngjamjccjlmaa
