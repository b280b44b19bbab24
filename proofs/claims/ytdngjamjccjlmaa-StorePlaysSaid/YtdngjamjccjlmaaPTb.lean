/- Lemmas: the store of the document, walked: what is put, read, touched. No condition. -/
import Derived.Test.YtdngjamjccjlmaaPRc
import Derived.Test.YtdngjamjccjlmaaPWe
set_option linter.unusedSimpArgs false
set_option linter.unusedVariables false
set_option maxHeartbeats 4000000
set_option maxRecDepth 100000
namespace Go.Proofs.Ytdngjamjccjlmaa
open Go Go.Ab
open Nat renaming reduceEqDiff -> yA, reduceAdd -> yB, reduceLT -> yC, reduceLeDiff -> yD, reduceMul -> yE, reducePow -> yF
open Int renaming reduceAdd -> yH, reduceLT -> yI, reduceToNat -> yJ, reduceBEq -> yK, reduceBNe -> yL, reduceLE -> yM
open AV renaming belL -> yO, bel -> yN, normL -> yQ, norm -> yP
attribute [local irreducible] zA0 zAA zAa zAi zAj GoIf GoGb zAk GoO GoD GoX GoDX GoG GoDG GoGv zAl Go zAB
section
theorem zpL(k n:Int):zA0 Try.prog 139 [emb (.mk k n [])] (.int .i64 0):=by
 refine eP C_ok Try.func139 Try.results139 fun ok H=> ?_
 have h:=YAN
 repeat' (first
  |(with_reducible first|apply bA|apply bB|apply bC|apply bD|apply bE|apply bF)<;>intro h
  |refine zJ9 ?_ C_ok Try.f139.ntmps rfl (by decide)
  |skip)<;>simp only[h,↓zaL,↓zHC,WZ,reduceIte,yA,yB,yC,yD,reduceCtorEq,yE,yF,W1,W3,yH,yI,yJ,yK,yL,yM,zFY]
theorem zpO{x y:Ty}{a b:Nat}(k n:Int)(ha:a<=1000000)(hb:b<=1000000)(i1:zA0 Try.prog 139 [emb x] (.int .i64 a))(i2:zA0 Try.prog 139 [emb y] (.int .i64 b)):
 zA0 Try.prog 139 [emb (.mk k n [x,y])] (.int .i64 ((a+b+1:Nat):Int)):=by
 have w1:IntKind.wrap .i64 (1+(a:Int))=((1+a:Nat):Int):=wrapN (by omega) (by omega)
 have w2:IntKind.wrap .i64 (((1+a:Nat):Int)+(b:Int))=((a+b+1:Nat):Int):=wrapN (by omega) (by omega)
 refine eP C_ok Try.func139 Try.results139 fun ok H=> ?_
 have h:=YAN
 repeat' (first
  |(with_reducible first|apply bA|apply bB|apply bC|apply bD|apply bE|apply bF)<;>intro h
  |((first|apply bG|apply bH);simp only[yP,yQ,W2,W3,yH,yI,yJ,yK,yL,yM,w1,w2];first|refine zIf (i1) (.inl rfl) ?_|refine zIf (i2) (.inl rfl) ?_|refine zIj (i1) (.inl rfl) ?_|refine zIj (i2) (.inl rfl) ?_)
  |refine zJ9 ?_ C_ok Try.f139.ntmps rfl (by decide)
  |skip)<;>simp only[h,↓zaL,↓zHC,WZ,reduceIte,yA,yB,yC,yD,reduceCtorEq,yE,yF,W1,W3,yH,yI,yJ,yK,yL,yM,w1,w2,zFY]
theorem zpN{x:Ty}{a:Nat}(k n:Int)(ha:a<=1000000)(i1:zA0 Try.prog 139 [emb x] (.int .i64 a)):
 zA0 Try.prog 139 [emb (.mk k n [x])] (.int .i64 ((a+1:Nat):Int)):=by
 have w1:IntKind.wrap .i64 (1+(a:Int))=((a+1:Nat):Int):=wrapN (by omega) (by omega)
 refine eP C_ok Try.func139 Try.results139 fun ok H=> ?_
 have h:=YAN
 repeat' (first
  |(with_reducible first|apply bA|apply bB|apply bC|apply bD|apply bE|apply bF)<;>intro h
  |((first|apply bG|apply bH);simp only[yP,yQ,W2,W3,yH,yI,yJ,yK,yL,yM,w1];first|refine zIf (i1) (.inl rfl) ?_|refine zIj (i1) (.inl rfl) ?_)
  |refine zJ9 ?_ C_ok Try.f139.ntmps rfl (by decide)
  |skip)<;>simp only[h,↓zaL,↓zHC,WZ,reduceIte,yA,yB,yC,yD,reduceCtorEq,yE,yF,W1,W3,yH,yI,yJ,yK,yL,yM,w1,zFY]
theorem zpM:∀t:T,t.inner<=1000000->zA0 Try.prog 139 [emb t.ty] (.int .i64 t.inner):=by
 intro t
 induction t with
 |base k=>intro h;exact zpL _ _
 |dyn=>intro h;exact zpL _ _
 |var n=>intro h;exact zpL _ _
 |pair a b ih1 ih2=>intro h;simp only[T.inner]at h;exact zpO _ _ (by omega) (by omega) (ih1 (by omega)) (ih2 (by omega))
 |fn a b ih1 ih2=>intro h;simp only[T.inner]at h;exact zpO _ _ (by omega) (by omega) (ih1 (by omega)) (ih2 (by omega))
 |list a ih1=>intro h;simp only[T.inner]at h;exact zpN _ _ (by omega) (ih1 (by omega))
section
variable {F : List AObj} {s r v v1 v2 : Nat} {S S1 S2 : St} {lim cnt cnt1 cnt2 : Int}
theorem zpb(hs:s<F.length)(hr:r<F.length)(hne:r≠s)(k n:Int)(w:IntKind.wrap .i64 (k-1)=k-1):DCalls Try.prog 140 [.bptr s 0,emb (.mk k n [])] (hpR F s r v S lim cnt) (.int .i64 (k-1)) (hpR F s r v S lim cnt):=by
 unfold DCalls
 refine eD C_ok Try.func140 Try.results140 fun ok=> ?_
 have h:=YAN
 repeat' (first
  |(with_reducible first|apply bA|apply bB|apply bC|apply bD|apply bE|apply bF)<;>intro h
  |refine zJ9 ?_ C_ok Try.f140.ntmps rfl (by decide)
  |skip)<;>simp only[h,↓zaL,↓zHC,WY,reduceIte,yA,yB,yC,yD,reduceCtorEq,yE,yF,W1,WS,W3,yH,yI,yJ,yK,yL,yM,hpR,bxR,arR,stP hs hr hne,zTh,zTg,yN,ze0,w,zGy,zG6,zGx,implies_true,zFY]
theorem zpd(hs:s<F.length)(hr:r<F.length)(hne:r≠s){x y:Ty}{i j:Nat}(k n:Int)(hk:k=7\/k=9)
 (i1:∀F:List AObj,s<F.length->r<F.length->DCalls Try.prog 140 [.bptr s 0,emb x] (hpR F s r v S lim cnt) (.int .i64 i) (hpR F s r v1 S1 lim cnt1))
 (i2:∀F:List AObj,s<F.length->r<F.length->DCalls Try.prog 140 [.bptr s 0,emb y] (hpR F s r v1 S1 lim cnt1) (.int .i64 j) (hpR F s r v2 S2 lim cnt2))
 (hi:i<S2.length) (hj:j<S2.length) (hl:¬cnt2≥lim) (hL:S2.length<=1000000) (hc:0<=cnt2/\cnt2<=1000000):
 DCalls Try.prog 140 [.bptr s 0,emb (.mk k n [x,y])] (hpR F s r v S lim cnt) (.int .i64 S2.length) (hpR F s r (v2+1) (S2++ [⟨k,0,none,[i,j]⟩]) lim (cnt2+1)):=by
 have q:=fun F hs hr=>zf5 (F:=F) (s:=s) (r:=r) (v:=v2) (S:=S2) (lim:=lim) (cnt:=cnt2) hs hr hne k i j hk hi hj hl hL hc
 unfold DCalls
 refine eD C_ok Try.func140 Try.results140 fun ok=> ?_
 have h:=YAN
 repeat' (first
  |(with_reducible first|apply bA|apply bB|apply bC|apply bD|apply bE|apply bF)<;>intro h
  |((first|apply bG|apply bH);simp only[yP,yQ,W2,W3,yH,yI,yJ,yK,yL,yM,hpR,bxR,arR,stP hs hr hne,zTh,zTg,yN,ze0,zGy,zG6,zGx,implies_true];first|refine zIA (i1 _ (by first|exact hs|simp<;>omega) (by first|exact hr|simp<;>omega)) (.inl rfl) (fun hb=>zeT (by first|exact hs|simp<;>omega) (by first|exact hr|simp<;>omega) hne hb) ?_|refine zIA (i2 _ (by first|exact hs|simp<;>omega) (by first|exact hr|simp<;>omega)) (.inl rfl) (fun hb=>zeT (by first|exact hs|simp<;>omega) (by first|exact hr|simp<;>omega) hne hb) ?_|refine zIA (q _ (by first|exact hs|simp<;>omega) (by first|exact hr|simp<;>omega)) (.inl rfl) (fun hb=>zeT (by first|exact hs|simp<;>omega) (by first|exact hr|simp<;>omega) hne hb) ?_)
  |refine zJ9 ?_ C_ok Try.f140.ntmps rfl (by decide)
  |skip)<;>simp only[h,↓zaL,↓zHC,WY,reduceIte,yA,yB,yC,yD,reduceCtorEq,yE,yF,W1,WS,W3,yH,yI,yJ,yK,yL,yM,hpR,bxR,arR,stP hs hr hne,zTh,zTg,yN,ze0,zGy,zG6,zGx,implies_true,zFY]
theorem zpc(hs:s<F.length)(hr:r<F.length)(hne:r≠s){x:Ty}{i:Nat}(n:Int)
 (i1:∀F:List AObj,s<F.length->r<F.length->DCalls Try.prog 140 [.bptr s 0,emb x] (hpR F s r v S lim cnt) (.int .i64 i) (hpR F s r v1 S1 lim cnt1))
 (hi:i<S1.length) (hl:¬cnt1≥lim) (hL:S1.length<=1000000) (hc:0<=cnt1/\cnt1<=1000000):
 DCalls Try.prog 140 [.bptr s 0,emb (.mk 8 n [x])] (hpR F s r v S lim cnt) (.int .i64 S1.length) (hpR F s r (v1+1) (S1++ [⟨8,0,none,[i]⟩]) lim (cnt1+1)):=by
 have q:=fun F hs hr=>zf3 (F:=F) (s:=s) (r:=r) (v:=v1) (S:=S1) (lim:=lim) (cnt:=cnt1) hs hr hne i i hi hl hL hc
 unfold DCalls
 refine eD C_ok Try.func140 Try.results140 fun ok=> ?_
 have h:=YAN
 repeat' (first
  |(with_reducible first|apply bA|apply bB|apply bC|apply bD|apply bE|apply bF)<;>intro h
  |((first|apply bG|apply bH);simp only[yP,yQ,W2,W3,yH,yI,yJ,yK,yL,yM,hpR,bxR,arR,stP hs hr hne,zTh,zTg,yN,ze0,zGy,zG6,zGx,implies_true];first|refine zIA (i1 _ (by first|exact hs|simp<;>omega) (by first|exact hr|simp<;>omega)) (.inl rfl) (fun hb=>zeT (by first|exact hs|simp<;>omega) (by first|exact hr|simp<;>omega) hne hb) ?_|refine zIA (q _ (by first|exact hs|simp<;>omega) (by first|exact hr|simp<;>omega)) (.inl rfl) (fun hb=>zeT (by first|exact hs|simp<;>omega) (by first|exact hr|simp<;>omega) hne hb) ?_)
  |refine zJ9 ?_ C_ok Try.f140.ntmps rfl (by decide)
  |skip)<;>simp only[h,↓zaL,↓zHC,WY,reduceIte,yA,yB,yC,yD,reduceCtorEq,yE,yF,W1,WS,W3,yH,yI,yJ,yK,yL,yM,hpR,bxR,arR,stP hs hr hne,zTh,zTg,yN,ze0,zGy,zG6,zGx,implies_true,zFY]
end
theorem zox:∀(t:T) (S:St),(putN t S).1.length=S.length+t.inner:=by
 intro t
 induction t with
 |base k=>intro L;rfl
 |dyn=>intro L;rfl
 |var k=>intro L;rfl
 |pair a b ih1 ih2=>intro L;simp only[putN,YAJ,List.length_cons,List.length_nil,ih1,ih2,T.inner];omega
 |fn a b ih1 ih2=>intro L;simp only[putN,YAJ,List.length_cons,List.length_nil,ih1,ih2,T.inner];omega
 |list a ih1=>intro L;simp only[putN,YAJ,List.length_cons,List.length_nil,ih1,T.inner];omega
theorem zoy:∀(t:T) (S:St),5<=S.length->(putN t S).2<(putN t S).1.length:=by
 intro t
 induction t with
 |base k=>intro S h;simp only[putN];have:=k.isLt;omega
 |dyn=>intro S h;simp only[putN];omega
 |var k=>intro S h;simp only[putN];omega
 |pair a b ih1 ih2=>intro S h;simp only[putN,YAJ,List.length_cons,List.length_nil];omega
 |fn a b ih1 ih2=>intro S h;simp only[putN,YAJ,List.length_cons,List.length_nil];omega
 |list a ih1=>intro S h;simp only[putN,YAJ,List.length_cons,List.length_nil];omega
theorem zpX{s r:Nat}{lim:Int}(hne:r≠s):∀(t:T) (F:List AObj) (v:Nat) (S:St) (cnt:Int),s<F.length->r<F.length->t.closed=true->5<=S.length->S.length+t.inner<=1000000->0<=cnt->cnt+t.inner<=lim->lim<=1000000->
 DCalls Try.prog 140 [.bptr s 0,emb t.ty] (hpR F s r v S lim cnt) (.int .i64 ((putN t S).2:Nat)) (hpR F s r (v+t.inner) (putN t S).1 lim (cnt+(t.inner:Nat))):=by
 intro t
 induction t with
 |base k=>
  intro F v L cnt hs hr hcl h5 h1 h2 h3 h4
  have:=zpb (v:=v) (S:=L) (lim:=lim) (cnt:=cnt) hs hr hne (k.val+1) 0 (zbT (by omega) (by omega))
  rw[show((k.val:Int)+1-1)=(k.val:Int)by omega]at this
  simpa only[T.ty,putN,T.inner,Int.natCast_zero,Int.add_zero,Nat.add_zero]using this
 |dyn=>
  intro F v L cnt hs hr hcl h5 h1 h2 h3 h4
  have:=zpb (v:=v) (S:=L) (lim:=lim) (cnt:=cnt) hs hr hne 5 0 (zbT (by omega) (by omega))
  rw[show(5:Int)-1=((4:Nat):Int)by decide]at this
  simpa only[T.ty,putN,T.inner,Int.natCast_zero,Int.add_zero,Nat.add_zero]using this
 |var n=>intro F v L cnt hs hr hcl;cases hcl
 |pair a b ih1 ih2=>
  intro F v L cnt hs hr hcl h5 h1 h2 h3 h4
  simp only[T.closed,YAA]at hcl
  simp only[T.inner]at h1 h3
  have l1:=zox a L
  have l2:=zox b (putN a L).1
  have m1:=zoy a L h5
  have m2:=zoy b (putN a L).1 (by omega)
  have:=zpd (F:=F) (s:=s) (r:=r) hs hr hne 7 0 (.inl rfl) (fun F hs hr=>ih1 F v L cnt hs hr hcl.1 h5 (by omega) h2 (by omega) h4) (fun F hs hr=>ih2 F (v+a.inner) (putN a L).1 (cnt+(a.inner:Nat)) hs hr hcl.2 (by omega) (by omega) (by omega) (by omega) h4) (by omega) (by omega) (by omega) (by omega) ⟨by omega,by omega⟩
  rw[show v+a.inner+b.inner+1=v+(a.inner+b.inner+1)by omega,show cnt+(a.inner:Nat)+(b.inner:Nat)+1=cnt+((a.inner+b.inner+1:Nat):Int)by omega]at this
  exact this
 |fn a b ih1 ih2=>
  intro F v L cnt hs hr hcl h5 h1 h2 h3 h4
  simp only[T.closed,YAA]at hcl
  simp only[T.inner]at h1 h3
  have l1:=zox a L
  have l2:=zox b (putN a L).1
  have m1:=zoy a L h5
  have m2:=zoy b (putN a L).1 (by omega)
  have:=zpd (F:=F) (s:=s) (r:=r) hs hr hne 9 0 (.inr rfl) (fun F hs hr=>ih1 F v L cnt hs hr hcl.1 h5 (by omega) h2 (by omega) h4) (fun F hs hr=>ih2 F (v+a.inner) (putN a L).1 (cnt+(a.inner:Nat)) hs hr hcl.2 (by omega) (by omega) (by omega) (by omega) h4) (by omega) (by omega) (by omega) (by omega) ⟨by omega,by omega⟩
  rw[show v+a.inner+b.inner+1=v+(a.inner+b.inner+1)by omega,show cnt+(a.inner:Nat)+(b.inner:Nat)+1=cnt+((a.inner+b.inner+1:Nat):Int)by omega]at this
  exact this
 |list a ih1=>
  intro F v L cnt hs hr hcl h5 h1 h2 h3 h4
  simp only[T.closed]at hcl
  simp only[T.inner]at h1 h3
  have l1:=zox a L
  have m1:=zoy a L h5
  have:=zpc (F:=F) (s:=s) (r:=r) hs hr hne 0 (fun F hs hr=>ih1 F v L cnt hs hr hcl h5 (by omega) h2 (by omega) h4) (by omega) (by omega) (by omega) ⟨by omega,by omega⟩
  rw[show v+a.inner+1=v+(a.inner+1)by omega,show cnt+(a.inner:Nat)+1=cnt+((a.inner+1:Nat):Int)by omega]at this
  exact this
section
variable {F : List AObj} {s r v : Nat} {S : St} {lim cnt : Int}
theorem zpY(hs:s<F.length)(hr:r<F.length)(hne:r≠s)(t:Ty)(hrc:(right t&&without 6 t)=false):DCalls Try.prog 113 [.bptr s 0,emb t] (hpR F s r v S lim cnt) (.tup [.int .i64 0,.int .i64 1]) (hpR F s r v S lim cnt):=by
 unfold DCalls
 by_cases h1:right t=true
 ·rw[h1,Bool.true_and]at hrc
  refine eD C_ok Try.func113 Try.results113 fun ok=> ?_
  have h:=YAN
  repeat' (first
   |(with_reducible first|apply bA|apply bB|apply bC|apply bD|apply bE|apply bF)<;>intro h
   |((first|apply bG|apply bH);simp only[yP,yQ,W2,hpR,bxR,arR,stP hs hr hne,zTh,zTg,yN,ze0,h1,hrc,zGy,zG6,zGx,implies_true,yO];first|refine zIf (zUa t) (.inl rfl) ?_|refine zIf (zcu t 6) (.inl rfl) ?_|refine zIj (zUa t) (.inl rfl) ?_|refine zIj (zcu t 6) (.inl rfl) ?_)
   |refine drA C_ok 3 0 ?_
   |skip)<;>simp only[h,↓zaL,↓zHC,WY,reduceIte,yA,yB,yC,yD,reduceCtorEq,yE,yF,W1,WS,hpR,bxR,arR,stP hs hr hne,zTh,zTg,yN,ze0,h1,hrc,zGy,zG6,zGx,implies_true,yO]
 ·rw[Bool.not_eq_true]at h1
  refine eD C_ok Try.func113 Try.results113 fun ok=> ?_
  have h:=YAN
  repeat' (first
   |(with_reducible first|apply bA|apply bB|apply bC|apply bD|apply bE|apply bF)<;>intro h
   |((first|apply bG|apply bH);simp only[yP,yQ,W2,hpR,bxR,arR,stP hs hr hne,zTh,zTg,yN,ze0,h1,zGy,zG6,zGx,implies_true,yO];first|refine zIf (zUa t) (.inl rfl) ?_|refine zIj (zUa t) (.inl rfl) ?_)
   |refine drA C_ok 3 0 ?_
   |skip)<;>simp only[h,↓zaL,↓zHC,WY,reduceIte,yA,yB,yC,yD,reduceCtorEq,yE,yF,W1,WS,hpR,bxR,arR,stP hs hr hne,zTh,zTg,yN,ze0,h1,zGy,zG6,zGx,implies_true,yO]
theorem zpa(hs:s<F.length)(hr:r<F.length)(hne:r≠s)(t:T)(ho:t.ok=true)(hcl:t.closed=true)(hc:0<=cnt/\cnt<=lim/\lim<=65536)(hi:t.inner<=1000000)(h:lim-cnt<t.inner):DCalls Try.prog 113 [.bptr s 0,emb t.ty] (hpR F s r v S lim cnt) (.tup [.int .i64 0,.int .i64 7]) (hpR F s r v S lim cnt):=by
 have w1:IntKind.wrap .i64 (lim-cnt)=lim-cnt:=zbT (by omega) (by omega)
 have h1:right t.ty=true:=by rw[T.zT5];exact ho
 have h2:without 6 t.ty=true:=by rw[T.zEw];exact hcl
 have q:=zpM t hi
 unfold DCalls
 refine eD C_ok Try.func113 Try.results113 fun ok=> ?_
 repeat' first
  |(with_reducible first|apply bA|apply bB|apply bC|apply bD|apply bE|apply bF)<;>intro h<;>try simp only[h,↓zaL,↓zHC,WY,reduceIte,yA,yB,yC,yD,reduceCtorEq,yE,yF,W1,WS,hpR,bxR,arR,stP hs hr hne,zTh,zTg,yN,ze0,h1,h2,w1,h,zGy,zG6,zGx,implies_true,yO]
  |((first|apply bG|apply bH);simp only[yP,yQ,W2,hpR,bxR,arR,stP hs hr hne,zTh,zTg,yN,ze0,h1,h2,w1,h,zGy,zG6,zGx,implies_true,yO];first|refine zIf (zUa t.ty) (.inl rfl) ?_|refine zIf (zcu t.ty 6) (.inl rfl) ?_|refine zIf (q) (.inl rfl) ?_|refine zIj (zUa t.ty) (.inl rfl) ?_|refine zIj (zcu t.ty 6) (.inl rfl) ?_|refine zIj (q) (.inl rfl) ?_)
  |refine drA C_ok 3 0 ?_
  |simp only[↓zaL,↓zHC,WY,reduceIte,yA,yB,yC,yD,reduceCtorEq,yE,yF,W1,WS,hpR,bxR,arR,stP hs hr hne,zTh,zTg,yN,ze0,h1,h2,w1,h,zGy,zG6,zGx,implies_true,yO]
theorem zpZ(hs:s<F.length)(hr:r<F.length)(hne:r≠s)(t:T)(ho:t.ok=true)(hcl:t.closed=true)(h5:5<=S.length)(hc:0<=cnt/\cnt<=lim/\lim<=65536)(hL:S.length+t.inner<=1000000)(h:(t.inner:Int)<=lim-cnt):DCalls Try.prog 113 [.bptr s 0,emb t.ty] (hpR F s r v S lim cnt) (.tup [.int .i64 ((putN t S).2:Nat),.int .i64 0]) (hpR F s r (v+t.inner) (putN t S).1 lim (cnt+(t.inner:Nat))):=by
 have w1:IntKind.wrap .i64 (lim-cnt)=lim-cnt:=zbT (by omega) (by omega)
 have h1:right t.ty=true:=by rw[T.zT5];exact ho
 have h2:without 6 t.ty=true:=by rw[T.zEw];exact hcl
 have hlt:¬lim-cnt<(t.inner:Int):=by omega
 have q:=zpM t (by omega)
 have q2:=fun F hs hr=>zpX (s:=s) (r:=r) (lim:=lim) hne t F v S cnt hs hr hcl h5 hL hc.1 (by omega) (by omega)
 unfold DCalls
 refine eD C_ok Try.func113 Try.results113 fun ok=> ?_
 have h:=YAN
 repeat' (first
  |(with_reducible first|apply bA|apply bB|apply bC|apply bD|apply bE|apply bF)<;>intro h
  |((first|apply bG|apply bH);simp only[yP,yQ,W2,hpR,bxR,arR,stP hs hr hne,zTh,zTg,yN,ze0,h1,h2,w1,hlt,zGy,zG6,zGx,implies_true,yO];first|refine zIf (zUa t.ty) (.inl rfl) ?_|refine zIf (zcu t.ty 6) (.inl rfl) ?_|refine zIf (q) (.inl rfl) ?_|refine zIj (zUa t.ty) (.inl rfl) ?_|refine zIj (zcu t.ty 6) (.inl rfl) ?_|refine zIj (q) (.inl rfl) ?_|refine zIA (q2 _ (by first|exact hs|simp<;>omega) (by first|exact hr|simp<;>omega)) (.inl rfl) (fun hb=>zeT (by first|exact hs|simp<;>omega) (by first|exact hr|simp<;>omega) hne hb) ?_)
  |refine drA C_ok 3 0 ?_
  |skip)<;>simp only[h,↓zaL,↓zHC,WY,reduceIte,yA,yB,yC,yD,reduceCtorEq,yE,yF,W1,WS,hpR,bxR,arR,stP hs hr hne,zTh,zTg,yN,ze0,h1,h2,w1,hlt,zGy,zG6,zGx,implies_true,yO]
end
end
section
section
variable {s r v : Nat} {S : St} {lim cnt : Int}
def znx(s r v:Nat)(S:St)(lim cnt:Int)(n:Nat):Prop:=∀(F:List AObj) (m:Nat),s<F.length->r<F.length->m<=100000->
 DCalls Try.prog 144 [.bptr s 0,.int .i64 n,.int .i64 m] (hpR F s r v S lim cnt) (.int .i64 (szc S m n:Nat)) (hpR F s r v S lim cnt)
theorem zp9(hw:Wf S)(m:Nat){n:Nat}(hn:n<S.length):szc S m n=min (1+zQW ((S.kids (S.root n)).map S.tree)) (m+1):=by
 unfold szc;rw[hw.zYe hn];simp only[nodes]
theorem zpi(hne:r≠s)(hw:Wf S)(n:Nat)(hn:n<S.length)(ih:∀k∈S.kids (S.root n),znx s r v S lim cnt k):znx s r v S lim cnt n:=by
 intro F m hs hr hm
 have qk:=fun F hs hr=>zfo (F:=F) (s:=s) (r:=r) (v:=v) (S:=S) (lim:=lim) (cnt:=cnt) hs hr hne hw n hn
 rw[zp9 hw m hn]
 have h1:∀t:Ty,1<=nodes t:=fun t=>by cases t;simp only[nodes];omega
 have hg1:(1<=(m:Int))\/¬(1<=(m:Int)):=Classical.em _
 unfold DCalls
 rcases hw.shape (hw.root_lt n hn) (hw.zUK n)with ⟨_,_,hk⟩|⟨_,_,hk⟩|⟨i,j,_,hk⟩|⟨i,_,hk⟩
 ·rw[hk]at qk
  have e:min (1+zQW (([]:List Nat).map S.tree)) (m+1)=1:=by simp only[List.map_nil,zQW];omega
  rw[hk,e]
  refine eD C_ok Try.func144 Try.results144 fun ok=> ?_
  have h:=YAN
  repeat' (first
   |(with_reducible first|apply bA|apply bB|apply bC|apply bD|apply bE|apply bF)<;>intro h
   |((first|apply bG|apply bH);simp only[yP,yQ,W2,W3,yH,yI,yJ,yK,yL,yM,hpR,bxR,arR,stP hs hr hne,zTh,zTg,yN,ze0,yO,kidI,I64];refine zIA (qk _ (by first|exact hs|simp<;>omega) (by first|exact hr|simp<;>omega)) (.inl rfl) (fun hb=>zeT (by first|exact hs|simp<;>omega) (by first|exact hr|simp<;>omega) hne hb) ?_)
   |refine zJ9 ?_ C_ok Try.f144.ntmps rfl (by decide)
   |skip)<;>simp only[h,↓zaL,↓zHC,WY,reduceIte,yA,yB,yC,yD,reduceCtorEq,yE,yF,W1,WS,W3,yH,yI,yJ,yK,yL,yM,hpR,bxR,arR,stP hs hr hne,zTh,zTg,yN,ze0,yO,kidI,I64,zFY]
 ·rw[hk]at qk
  have e:min (1+zQW (([]:List Nat).map S.tree)) (m+1)=1:=by simp only[List.map_nil,zQW];omega
  rw[hk,e]
  refine eD C_ok Try.func144 Try.results144 fun ok=> ?_
  have h:=YAN
  repeat' (first
   |(with_reducible first|apply bA|apply bB|apply bC|apply bD|apply bE|apply bF)<;>intro h
   |((first|apply bG|apply bH);simp only[yP,yQ,W2,W3,yH,yI,yJ,yK,yL,yM,hpR,bxR,arR,stP hs hr hne,zTh,zTg,yN,ze0,yO,kidI,I64];refine zIA (qk _ (by first|exact hs|simp<;>omega) (by first|exact hr|simp<;>omega)) (.inl rfl) (fun hb=>zeT (by first|exact hs|simp<;>omega) (by first|exact hr|simp<;>omega) hne hb) ?_)
   |refine zJ9 ?_ C_ok Try.f144.ntmps rfl (by decide)
   |skip)<;>simp only[h,↓zaL,↓zHC,WY,reduceIte,yA,yB,yC,yD,reduceCtorEq,yE,yF,W1,WS,W3,yH,yI,yJ,yK,yL,yM,hpR,bxR,arR,stP hs hr hne,zTh,zTg,yN,ze0,yO,kidI,I64,zFY]
 ·rw[hk]at qk ih⊢
  have e1:=zp9 (S:=S)
  by_cases g1:1<=(m:Int)
  ·have q1:=fun F hs hr=>ih i (by simp) F (m-1) hs hr (by omega)
   have w1:IntKind.wrap .i64 ((m:Int)-1)=((m-1:Nat):Int):=by rw[zbT (by omega) (by omega)];omega
   have b1:szc S (m-1) i=min (nodes (S.tree i)) m:=by unfold szc;omega
   have p1:=h1 (S.tree i)
   have p2:=h1 (S.tree j)
   have w2:IntKind.wrap .i64 (1+(szc S (m-1) i:Nat))=((1+szc S (m-1) i:Nat):Int):=by rw[zbT (by omega) (by omega)];omega
   by_cases g2:((1+szc S (m-1) i:Nat):Int)<=m
   ·have q2:=fun F hs hr=>ih j (by simp) F (m-(1+szc S (m-1) i)) hs hr (by omega)
    have w3:IntKind.wrap .i64 ((m:Int)-((1+szc S (m-1) i:Nat):Int))=((m-(1+szc S (m-1) i):Nat):Int):=by rw[zbT (by omega) (by omega)];omega
    have b2:szc S (m-(1+szc S (m-1) i)) j=min (nodes (S.tree j)) (m-(1+szc S (m-1) i)+1):=rfl
    have e:min (1+zQW (([i,j]:List Nat).map S.tree)) (m+1)=1+szc S (m-1) i+szc S (m-(1+szc S (m-1) i)) j:=by simp only[List.map_cons,List.map_nil,zQW];omega
    have w4:IntKind.wrap .i64 (((1+szc S (m-1) i:Nat):Int)+((szc S (m-(1+szc S (m-1) i)) j:Nat):Int))=((1+szc S (m-1) i+szc S (m-(1+szc S (m-1) i)) j:Nat):Int):=by rw[zbT (by omega) (by omega)];omega
    rw[e]
    generalize szc S (m-(1+szc S (m-1) i)) j=B at*
    generalize m-(1+szc S (m-1) i)=C0 at*
    generalize szc S (m-1) i=A at*
    refine eD C_ok Try.func144 Try.results144 fun ok=> ?_
    have h:=YAN
    repeat' (first
     |(with_reducible first|apply bA|apply bB|apply bC|apply bD|apply bE|apply bF)<;>intro h
     |((first|apply bG|apply bH);simp only[yP,yQ,W2,W3,yH,yI,yJ,yK,yL,yM,hpR,bxR,arR,stP hs hr hne,zTh,zTg,yN,ze0,yO,kidI,I64,g1,g2,w1,w2,w3,w4];first|refine zIA (qk _ (by first|exact hs|simp<;>omega) (by first|exact hr|simp<;>omega)) (.inl rfl) (fun hb=>zeT (by first|exact hs|simp<;>omega) (by first|exact hr|simp<;>omega) hne hb) ?_|refine zIA (q1 _ (by first|exact hs|simp<;>omega) (by first|exact hr|simp<;>omega)) (.inl rfl) (fun hb=>zeT (by first|exact hs|simp<;>omega) (by first|exact hr|simp<;>omega) hne hb) ?_|refine zIA (q2 _ (by first|exact hs|simp<;>omega) (by first|exact hr|simp<;>omega)) (.inl rfl) (fun hb=>zeT (by first|exact hs|simp<;>omega) (by first|exact hr|simp<;>omega) hne hb) ?_)
     |refine zJ9 ?_ C_ok Try.f144.ntmps rfl (by decide)
     |skip)<;>simp only[h,↓zaL,↓zHC,WY,reduceIte,yA,yB,yC,yD,reduceCtorEq,yE,yF,W1,WS,W3,yH,yI,yJ,yK,yL,yM,hpR,bxR,arR,stP hs hr hne,zTh,zTg,yN,ze0,yO,kidI,I64,g1,g2,w1,w2,w3,w4,zFY]
   ·have e:min (1+zQW (([i,j]:List Nat).map S.tree)) (m+1)=1+szc S (m-1) i:=by simp only[List.map_cons,List.map_nil,zQW];omega
    rw[e]
    generalize szc S (m-1) i=A at*
    refine eD C_ok Try.func144 Try.results144 fun ok=> ?_
    have h:=YAN
    repeat' (first
     |(with_reducible first|apply bA|apply bB|apply bC|apply bD|apply bE|apply bF)<;>intro h
     |((first|apply bG|apply bH);simp only[yP,yQ,W2,W3,yH,yI,yJ,yK,yL,yM,hpR,bxR,arR,stP hs hr hne,zTh,zTg,yN,ze0,yO,kidI,I64,g1,g2,w1,w2];first|refine zIA (qk _ (by first|exact hs|simp<;>omega) (by first|exact hr|simp<;>omega)) (.inl rfl) (fun hb=>zeT (by first|exact hs|simp<;>omega) (by first|exact hr|simp<;>omega) hne hb) ?_|refine zIA (q1 _ (by first|exact hs|simp<;>omega) (by first|exact hr|simp<;>omega)) (.inl rfl) (fun hb=>zeT (by first|exact hs|simp<;>omega) (by first|exact hr|simp<;>omega) hne hb) ?_)
     |refine zJ9 ?_ C_ok Try.f144.ntmps rfl (by decide)
     |skip)<;>simp only[h,↓zaL,↓zHC,WY,reduceIte,yA,yB,yC,yD,reduceCtorEq,yE,yF,W1,WS,W3,yH,yI,yJ,yK,yL,yM,hpR,bxR,arR,stP hs hr hne,zTh,zTg,yN,ze0,yO,kidI,I64,g1,g2,w1,w2,zFY]
  ·have e:min (1+zQW (([i,j]:List Nat).map S.tree)) (m+1)=1:=by simp only[List.map_cons,List.map_nil,zQW];omega
   rw[e]
   refine eD C_ok Try.func144 Try.results144 fun ok=> ?_
   have h:=YAN
   repeat' (first
    |(with_reducible first|apply bA|apply bB|apply bC|apply bD|apply bE|apply bF)<;>intro h
    |((first|apply bG|apply bH);simp only[yP,yQ,W2,W3,yH,yI,yJ,yK,yL,yM,hpR,bxR,arR,stP hs hr hne,zTh,zTg,yN,ze0,yO,kidI,I64,g1];refine zIA (qk _ (by first|exact hs|simp<;>omega) (by first|exact hr|simp<;>omega)) (.inl rfl) (fun hb=>zeT (by first|exact hs|simp<;>omega) (by first|exact hr|simp<;>omega) hne hb) ?_)
    |refine zJ9 ?_ C_ok Try.f144.ntmps rfl (by decide)
    |skip)<;>simp only[h,↓zaL,↓zHC,WY,reduceIte,yA,yB,yC,yD,reduceCtorEq,yE,yF,W1,WS,W3,yH,yI,yJ,yK,yL,yM,hpR,bxR,arR,stP hs hr hne,zTh,zTg,yN,ze0,yO,kidI,I64,g1,zFY]
 ·rw[hk]at qk ih⊢
  by_cases g1:1<=(m:Int)
  ·have q1:=fun F hs hr=>ih i (by simp) F (m-1) hs hr (by omega)
   have w1:IntKind.wrap .i64 ((m:Int)-1)=((m-1:Nat):Int):=by rw[zbT (by omega) (by omega)];omega
   have b1:szc S (m-1) i=min (nodes (S.tree i)) m:=by unfold szc;omega
   have p1:=h1 (S.tree i)
   have w2:IntKind.wrap .i64 (1+(szc S (m-1) i:Nat))=((1+szc S (m-1) i:Nat):Int):=by rw[zbT (by omega) (by omega)];omega
   have e:min (1+zQW (([i]:List Nat).map S.tree)) (m+1)=1+szc S (m-1) i:=by simp only[List.map_cons,List.map_nil,zQW];omega
   rw[e]
   generalize szc S (m-1) i=A at*
   refine eD C_ok Try.func144 Try.results144 fun ok=> ?_
   have h:=YAN
   repeat' (first
    |(with_reducible first|apply bA|apply bB|apply bC|apply bD|apply bE|apply bF)<;>intro h
    |((first|apply bG|apply bH);simp only[yP,yQ,W2,W3,yH,yI,yJ,yK,yL,yM,hpR,bxR,arR,stP hs hr hne,zTh,zTg,yN,ze0,yO,kidI,I64,g1,w1,w2];first|refine zIA (qk _ (by first|exact hs|simp<;>omega) (by first|exact hr|simp<;>omega)) (.inl rfl) (fun hb=>zeT (by first|exact hs|simp<;>omega) (by first|exact hr|simp<;>omega) hne hb) ?_|refine zIA (q1 _ (by first|exact hs|simp<;>omega) (by first|exact hr|simp<;>omega)) (.inl rfl) (fun hb=>zeT (by first|exact hs|simp<;>omega) (by first|exact hr|simp<;>omega) hne hb) ?_)
    |refine zJ9 ?_ C_ok Try.f144.ntmps rfl (by decide)
    |skip)<;>simp only[h,↓zaL,↓zHC,WY,reduceIte,yA,yB,yC,yD,reduceCtorEq,yE,yF,W1,WS,W3,yH,yI,yJ,yK,yL,yM,hpR,bxR,arR,stP hs hr hne,zTh,zTg,yN,ze0,yO,kidI,I64,g1,w1,w2,zFY]
  ·have e:min (1+zQW (([i]:List Nat).map S.tree)) (m+1)=1:=by simp only[List.map_cons,List.map_nil,zQW];omega
   rw[e]
   refine eD C_ok Try.func144 Try.results144 fun ok=> ?_
   have h:=YAN
   repeat' (first
    |(with_reducible first|apply bA|apply bB|apply bC|apply bD|apply bE|apply bF)<;>intro h
    |((first|apply bG|apply bH);simp only[yP,yQ,W2,W3,yH,yI,yJ,yK,yL,yM,hpR,bxR,arR,stP hs hr hne,zTh,zTg,yN,ze0,yO,kidI,I64,g1];refine zIA (qk _ (by first|exact hs|simp<;>omega) (by first|exact hr|simp<;>omega)) (.inl rfl) (fun hb=>zeT (by first|exact hs|simp<;>omega) (by first|exact hr|simp<;>omega) hne hb) ?_)
    |refine zJ9 ?_ C_ok Try.f144.ntmps rfl (by decide)
    |skip)<;>simp only[h,↓zaL,↓zHC,WY,reduceIte,yA,yB,yC,yD,reduceCtorEq,yE,yF,W1,WS,W3,yH,yI,yJ,yK,yL,yM,hpR,bxR,arR,stP hs hr hne,zTh,zTg,yN,ze0,yO,kidI,I64,g1,zFY]
theorem zph(hne:r≠s)(hw:Wf S):∀n,n<S.length->znx s r v S lim cnt n:=by
 refine hw.ind (p:=fun n=>n<S.length->znx s r v S lim cnt n) fun n ih hn=>zpi hne hw n hn fun k hk=>ih k hk (hw.zMa hk)
def CRt:Cfg:= {C with rdr:=fun f=>CR.rdr f||f==145||f==144}
theorem znp:zAb Try.prog CRt:=C_ok
theorem znq(t:Nat):CRt.ty t=C.ty t:=rfl
theorem zno(t:Nat):CRt.inpl t=false:=rfl
def zny(s r v:Nat)(S:St)(lim cnt:Int)(n:Nat):Prop:=∀(F:List AObj),s<F.length->r<F.length->
 DCalls Try.prog 145 [.bptr s 0,.int .i64 n] (hpR F s r v S lim cnt) (emb (S.tree n)) (hpR F s r v S lim cnt)
theorem zpl(hne:r≠s)(hw:Wf S)(n:Nat)(hn:n<S.length)(ih:∀k∈S.kids (S.root n),zny s r v S lim cnt k):zny s r v S lim cnt n:=by
 intro F hs hr
 have hrl:=hw.root_lt n hn
 have q0:=fun F hs hr=>zgO (F:=F) (s:=s) (r:=r) (v:=v) (S:=S) (lim:=lim) (cnt:=cnt) hs hr hne hw n hn
 have qk:=fun F hs hr=>zfo (F:=F) (s:=s) (r:=r) (v:=v) (S:=S) (lim:=lim) (cnt:=cnt) hs hr hne hw (S.root n) hrl
 rw[hw.zUQ]at qk
 have hkd:(S.nd (S.root n)).kind=S.kind (S.root n):=rfl
 have qt:=fun(k:Nat) {x:AV} (h:∀F:List AObj,s<F.length->r<F.length->DCalls Try.prog 145 [.bptr s 0,.int .i64 k] (hpR F s r v S lim cnt) x (hpR F s r v S lim cnt)) {e:Nat->AV} {b m:Nat} {G:List AObj} (hG:G[s]?=some (bxR r v S.length lim cnt)/\G[r]?=some (arR v S))=>(qcalls_st (s:=s) (r:=r) (bx:=bxR r v S.length lim cnt) (ar:=arR v S) h (by rw[zIP];exact hG.1) (by rw[zIP];exact hG.2) rfl rfl:zA5 Try.prog 145 [.bptr s 0,.int .i64 k] x (FS e G b m).obj)
 rw[hw.zYe hn]
 unfold DCalls
 rcases hw.shape hrl (hw.zUK n)with ⟨h5,h6,hk⟩|⟨_,h6,hk⟩|⟨i,j,h6,hk⟩|⟨i,h6,hk⟩
 ·rw[hk]at qk⊢
  have h7:(S.kind (S.root n)==6)=false:=by rw[YAZ,h6];omega
  rw[if_neg (by omega)]
  generalize S.kind (S.root n)=kd at*
  refine eD znp Try.func145 Try.results145 fun ok=> ?_
  have h:=YAN
  repeat' (first
   |(with_reducible first|apply bA|apply bB|apply bC|apply bD|apply bE|apply bF)<;>intro h
   |((first|apply bG|apply bH);simp only[yP,yQ,W2,W3,yH,yI,yJ,yK,yL,yM,znq,zno,hpR,bxR,arR,stP hs hr hne,zTh,zTg,yN,ze0,yO,kidI,I64,ze0,hrl,zez hrl,zeI,hkd,h7,zGy,zG6,zGx,implies_true];first|refine zIB (q0 _ (by first|exact hs|simp<;>omega) (by first|exact hr|simp<;>omega)) (.inl rfl) ?_|refine zIB (qk _ (by first|exact hs|simp<;>omega) (by first|exact hr|simp<;>omega)) (.inl rfl) ?_)
   |refine drA znp 9 0 ?_
   |refine zJ9 ?_ znp Try.f145.ntmps rfl (by decide)
   |skip)<;>simp only[h,↓zaL,↓zHC,WY,reduceIte,yA,yB,yC,yD,reduceCtorEq,yE,yF,W1,WS,W3,yH,yI,yJ,yK,yL,yM,znq,zno,hpR,bxR,arR,stP hs hr hne,zTh,zTg,yN,ze0,yO,kidI,I64,ze0,hrl,zez hrl,zeI,hkd,h7,zGy,zG6,zGx,implies_true,zFY]
 ·rw[hk]at qk⊢
  rw[h6,if_pos rfl]
  rw[h6]at hkd
  refine eD znp Try.func145 Try.results145 fun ok=> ?_
  have h:=YAN
  repeat' (first
   |(with_reducible first|apply bA|apply bB|apply bC|apply bD|apply bE|apply bF)<;>intro h
   |((first|apply bG|apply bH);simp only[yP,yQ,W2,W3,yH,yI,yJ,yK,yL,yM,znq,zno,hpR,bxR,arR,stP hs hr hne,zTh,zTg,yN,ze0,yO,kidI,I64,ze0,hrl,zez hrl,zeI,hkd,zGy,zG6,zGx,implies_true];first|refine zIB (q0 _ (by first|exact hs|simp<;>omega) (by first|exact hr|simp<;>omega)) (.inl rfl) ?_|refine zIB (qk _ (by first|exact hs|simp<;>omega) (by first|exact hr|simp<;>omega)) (.inl rfl) ?_)
   |refine drA znp 9 0 ?_
   |refine zJ9 ?_ znp Try.f145.ntmps rfl (by decide)
   |skip)<;>simp only[h,↓zaL,↓zHC,WY,reduceIte,yA,yB,yC,yD,reduceCtorEq,yE,yF,W1,WS,W3,yH,yI,yJ,yK,yL,yM,znq,zno,hpR,bxR,arR,stP hs hr hne,zTh,zTg,yN,ze0,yO,kidI,I64,ze0,hrl,zez hrl,zeI,hkd,zGy,zG6,zGx,implies_true,zFY]
 ·rw[hk]at qk ih⊢
  have h7:(S.kind (S.root n)==6)=false:=by rw[YAZ];omega
  rw[if_neg (by omega)]
  have q1:=fun F hs hr=>ih i (by simp) F hs hr
  have q2:=fun F hs hr=>ih j (by simp) F hs hr
  generalize S.kind (S.root n)=kd at*
  simp only[List.map_cons,List.map_nil]
  generalize S.tree i=ti at*
  generalize S.tree j=tj at*
  refine eD znp Try.func145 Try.results145 fun ok=> ?_
  have h:=YAN
  repeat' (first
   |(with_reducible first|apply bA|apply bB|apply bC|apply bD|apply bE|apply bF)<;>intro h
   |((first|apply bG|apply bH);simp only[yP,yQ,W2,W3,yH,yI,yJ,yK,yL,yM,znq,zno,hpR,bxR,arR,stP hs hr hne,zTh,zTg,yN,ze0,yO,kidI,I64,ze0,hrl,zez hrl,zeI,hkd,h7,zGy,zG6,zGx,implies_true];first|refine zIB (q0 _ (by first|exact hs|simp<;>omega) (by first|exact hr|simp<;>omega)) (.inl rfl) ?_|refine zIB (qk _ (by first|exact hs|simp<;>omega) (by first|exact hr|simp<;>omega)) (.inl rfl) ?_|refine zIk rfl (qt _ q1 (by simp[stP hs hr hne,bxR,arR])) (.inl rfl) ?_|refine zIk rfl (qt _ q2 (by simp[stP hs hr hne,bxR,arR])) (.inl rfl) ?_)
   |refine drA znp 9 0 ?_
   |refine zJ9 ?_ znp Try.f145.ntmps rfl (by decide)
   |skip)<;>simp only[h,↓zaL,↓zHC,WY,reduceIte,yA,yB,yC,yD,reduceCtorEq,yE,yF,W1,WS,W3,yH,yI,yJ,yK,yL,yM,znq,zno,hpR,bxR,arR,stP hs hr hne,zTh,zTg,yN,ze0,yO,kidI,I64,ze0,hrl,zez hrl,zeI,hkd,h7,zGy,zG6,zGx,implies_true,zFY]
 ·rw[hk]at qk ih⊢
  have h7:(S.kind (S.root n)==6)=false:=by rw[YAZ];omega
  rw[if_neg (by omega)]
  have q1:=fun F hs hr=>ih i (by simp) F hs hr
  generalize S.kind (S.root n)=kd at*
  simp only[List.map_cons,List.map_nil]
  generalize S.tree i=ti at*
  refine eD znp Try.func145 Try.results145 fun ok=> ?_
  have h:=YAN
  repeat' (first
   |(with_reducible first|apply bA|apply bB|apply bC|apply bD|apply bE|apply bF)<;>intro h
   |((first|apply bG|apply bH);simp only[yP,yQ,W2,W3,yH,yI,yJ,yK,yL,yM,znq,zno,hpR,bxR,arR,stP hs hr hne,zTh,zTg,yN,ze0,yO,kidI,I64,ze0,hrl,zez hrl,zeI,hkd,h7,zGy,zG6,zGx,implies_true];first|refine zIB (q0 _ (by first|exact hs|simp<;>omega) (by first|exact hr|simp<;>omega)) (.inl rfl) ?_|refine zIB (qk _ (by first|exact hs|simp<;>omega) (by first|exact hr|simp<;>omega)) (.inl rfl) ?_|refine zIk rfl (qt _ q1 (by simp[stP hs hr hne,bxR,arR])) (.inl rfl) ?_)
   |refine drA znp 9 0 ?_
   |refine zJ9 ?_ znp Try.f145.ntmps rfl (by decide)
   |skip)<;>simp only[h,↓zaL,↓zHC,WY,reduceIte,yA,yB,yC,yD,reduceCtorEq,yE,yF,W1,WS,W3,yH,yI,yJ,yK,yL,yM,znq,zno,hpR,bxR,arR,stP hs hr hne,zTh,zTg,yN,ze0,yO,kidI,I64,ze0,hrl,zez hrl,zeI,hkd,h7,zGy,zG6,zGx,implies_true,zFY]
theorem zpk(hne:r≠s)(hw:Wf S):∀n,n<S.length->zny s r v S lim cnt n:=by
 refine hw.ind (p:=fun n=>n<S.length->zny s r v S lim cnt n) fun n ih hn=>zpl hne hw n hn fun k hk=>ih k hk (hw.zMa hk)
end
section
variable {F : List AObj} {s r v : Nat} {S : St} {lim cnt : Int}
theorem zpe(hs:s<F.length)(hr:r<F.length)(hne:r≠s)(n:Int)(hn:n<0\/(S.length:Int)<=n):DCalls Try.prog 116 [.bptr s 0,.int .i64 n] (hpR F s r v S lim cnt) (.tup [emb (.mk 0 0 []),.int .i64 1]) (hpR F s r v S lim cnt):=by
 have q:=fun F hs hr=>zfj (F:=F) (s:=s) (r:=r) (v:=v) (S:=S) (lim:=lim) (cnt:=cnt) hs hr hne hn
 unfold DCalls
 refine eD C_ok Try.func116 Try.results116 fun ok=> ?_
 have h:=YAN
 repeat' (first
  |(with_reducible first|apply bA|apply bB|apply bC|apply bD|apply bE|apply bF)<;>intro h
  |((first|apply bG|apply bH);simp only[yP,yQ,W2,hpR,bxR,arR,stP hs hr hne,zTh,zTg,yN,ze0,yO,zG0];refine zIB (q _ (by first|exact hs|simp<;>omega) (by first|exact hr|simp<;>omega)) (.inl rfl) ?_)
  |refine drA C_ok 3 0 ?_
  |refine drA C_ok 4 0 ?_
  |skip)<;>simp only[h,↓zaL,↓zHC,WY,reduceIte,yA,yB,yC,yD,reduceCtorEq,yE,yF,W1,WS,hpR,bxR,arR,stP hs hr hne,zTh,zTg,yN,ze0,yO,zG0]
 all_goals exact zGx _ _
theorem zpf(hs:s<F.length)(hr:r<F.length)(hne:r≠s)(hw:Wf S)(n:Nat)(hn:n<S.length)(hc:0<=cnt/\cnt<=lim/\lim<=65536):
 DCalls Try.prog 116 [.bptr s 0,.int .i64 n] (hpR F s r v S lim cnt) (if(nodes (S.tree n):Int)<=lim-cnt then .tup [emb (S.tree n),.int .i64 0]else .tup [emb (.mk 0 0 []),.int .i64 7])
  (hpR F s r v S lim (if(nodes (S.tree n):Int)<=lim-cnt then cnt+nodes (S.tree n)else cnt)):=by
 obtain⟨most,hmost⟩:∃most:Nat,lim-cnt=(most:Int):=⟨(lim-cnt).toNat,by omega⟩
 have w1:IntKind.wrap .i64 (lim-cnt)=(most:Int):=by rw[zbT (by omega) (by omega)];exact hmost
 have q:=fun F hs hr=>zfl (F:=F) (s:=s) (r:=r) (v:=v) (S:=S) (lim:=lim) (cnt:=cnt) hs hr hne hn
 have qs0:=fun F hs hr=>zph (s:=s) (r:=r) (v:=v) (lim:=lim) (cnt:=cnt) hne hw n hn F most hs hr (by omega)
 have qs:=fun {e:Nat->AV} {b m:Nat} {G:List AObj} (hG:G[s]?=some (bxR r v S.length lim cnt)/\G[r]?=some (arR v S))=>(qcalls_st (s:=s) (r:=r) (bx:=bxR r v S.length lim cnt) (ar:=arR v S) qs0 (by rw[zIP];exact hG.1) (by rw[zIP];exact hG.2) rfl rfl:zA5 Try.prog 144 [.bptr s 0,.int .i64 n,.int .i64 most] (.int .i64 (szc S most n:Nat)) (FS e G b m).obj)
 clear qs0
 unfold DCalls
 by_cases hfit:(nodes (S.tree n):Int)<=lim-cnt
 ·simp only[if_pos hfit]
  have qt:=fun F hs hr=>zpk (s:=s) (r:=r) (v:=v) (lim:=lim) (cnt:=cnt+nodes (S.tree n)) hne hw n hn F hs hr
  have hk:szc S most n=nodes (S.tree n):=by unfold szc;omega
  simp only[hk]at qs
  have hgt:((most:Int)<(nodes (S.tree n):Nat))=False:=by simp only[YAb,iff_false];omega
  have w2:IntKind.wrap .i64 (cnt+(nodes (S.tree n):Nat))=cnt+(nodes (S.tree n):Nat):=zbT (by omega) (by omega)
  generalize nodes (S.tree n)=N at*
  generalize S.tree n=t at*
  refine eD znp Try.func116 Try.results116 fun ok=> ?_
  have h:=YAN
  repeat' (first
   |(with_reducible first|apply bA|apply bB|apply bC|apply bD|apply bE|apply bF)<;>intro h
   |((first|apply bG|apply bH);simp only[yP,yQ,W2,znq,zno,hpR,bxR,arR,stP hs hr hne,zTh,zTg,yN,ze0,yO,zG0,w1,w2,hgt];first|refine zIB (q _ (by first|exact hs|simp<;>omega) (by first|exact hr|simp<;>omega)) (.inl rfl) ?_|refine zIk rfl (qs (by simp[stP hs hr hne,bxR,arR])) (.inl rfl) ?_|refine zIA (qt _ (by first|exact hs|simp<;>omega) (by first|exact hr|simp<;>omega)) (.inl rfl) (fun hb=>zeT (by first|exact hs|simp<;>omega) (by first|exact hr|simp<;>omega) hne hb) ?_)
   |refine drA znp 3 0 ?_
   |refine drA znp 4 0 ?_
   |skip)<;>simp only[h,↓zaL,↓zHC,WY,reduceIte,yA,yB,yC,yD,reduceCtorEq,yE,yF,W1,WS,znq,zno,hpR,bxR,arR,stP hs hr hne,zTh,zTg,yN,ze0,yO,zG0,w1,w2,hgt]
  all_goals exact zGx _ _
 ·simp only[if_neg hfit]
  have hgt:((most:Int)<(szc S most n:Nat))=True:=by simp only[YAb,iff_true,szc];omega
  generalize szc S most n=N at*
  refine eD znp Try.func116 Try.results116 fun ok=> ?_
  have h:=YAN
  repeat' (first
   |(with_reducible first|apply bA|apply bB|apply bC|apply bD|apply bE|apply bF)<;>intro h
   |((first|apply bG|apply bH);simp only[yP,yQ,W2,znq,zno,hpR,bxR,arR,stP hs hr hne,zTh,zTg,yN,ze0,yO,zG0,w1,hgt];first|refine zIB (q _ (by first|exact hs|simp<;>omega) (by first|exact hr|simp<;>omega)) (.inl rfl) ?_|refine zIk rfl (qs (by simp[stP hs hr hne,bxR,arR])) (.inl rfl) ?_)
   |refine drA znp 3 0 ?_
   |refine drA znp 4 0 ?_
   |skip)<;>simp only[h,↓zaL,↓zHC,WY,reduceIte,yA,yB,yC,yD,reduceCtorEq,yE,yF,W1,WS,znq,zno,hpR,bxR,arR,stP hs hr hne,zTh,zTg,yN,ze0,yO,zG0,w1,hgt]
  all_goals exact zGx _ _
end
end
end Go.Proofs.Ytdngjamjccjlmaa
