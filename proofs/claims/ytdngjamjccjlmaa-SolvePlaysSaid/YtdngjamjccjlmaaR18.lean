/- The document's store, walked: a type with variables made in it, whatever the limit is. No condition. -/
import Derived.Test.YtdngjamjccjlmaaR2
import Derived.Test.YtdngjamjccjlmaaPWe
import Derived.Test.YtdngjamjccjlmaaPBa
set_option linter.unusedSimpArgs false
set_option linter.unusedVariables false
set_option maxHeartbeats 4000000
set_option maxRecDepth 100000
namespace Go.Proofs.Ytdngjamjccjlmaa
open Go Go.Ab
open Nat renaming reduceEqDiff -> yA, reduceAdd -> yB, reduceLT -> yC, reduceLeDiff -> yD, reduceMul -> yE, reducePow -> yF, reduceBEq -> yG
open Int renaming reduceAdd -> yH, reduceLT -> yI, reduceToNat -> yJ, reduceBEq -> yK, reduceBNe -> yL, reduceLE -> yM
attribute [local irreducible] zA0 zAA zAa zAi zAj GoIf GoGb zAk GoO GoD GoX GoDX GoG GoDG GoGv zAl Go zAB
section
variable {F : List AObj} {s r m : Nat}
theorem zeN{J:List AObj}{X Y:AObj}{v v' b:Nat}{S S':St}{lim cnt lim' cnt':Int}(hm:m<F.length)(hsm:s≠m)(hrm:r≠m)(hs:s<F.length)(hr:r<F.length)(hne:r≠s)(hY:Y.bel b=true)
 (h:∀x∈(hpR (F.set m X++J) s r v S lim cnt).take b,x.bel b=true):∀x∈(hpR (F.set m Y++J) s r v' S' lim' cnt').take b,x.bel b=true:=by
 have h1:=zeT (v':=v') (S':=S') (lim':=lim') (cnt':=cnt') (F:=F.set m X++J) (by simp;omega) (by simp;omega) hne h
 have h2:=zd9 (m:=m) hY h1
 unfold hpR at h2⊢
 rwa[zeS hm hsm hrm]at h2
theorem zeO{X Y:AObj}{v v' b:Nat}{S S':St}{lim cnt lim' cnt':Int}(hm:m<F.length)(hsm:s≠m)(hrm:r≠m)(hs:s<F.length)(hr:r<F.length)(hne:r≠s)(hY:Y.bel b=true)
 (h:∀x∈(hpR (F.set m X) s r v S lim cnt).take b,x.bel b=true):∀x∈(hpR (F.set m Y) s r v' S' lim' cnt').take b,x.bel b=true:=by
 have h1:=zeN (J:=[]) (X:=X) (Y:=Y) (v:=v) (v':=v') (S:=S) (S':=S') (lim:=lim) (cnt:=cnt) (lim':=lim') (cnt':=cnt') (b:=b) hm hsm hrm hs hr hne hY
 simp only[List.append_nil]at h1
 exact h1 h
structure MkS where
 v:Nat
 L:Mem
 cnt:Int
 Z:List (Int×Int)
def MkS.out(x:MkS)(d:Nd):MkS:=⟨x.v+1,x.L++ [(d,0)],x.cnt+1,x.Z⟩
def zdq(s r m:Nat)(lim rd lvl:Int)(t:Ty)(x y:MkS)(n e:Int):Prop:=
 ∀F:List AObj,s<F.length->r<F.length->m<F.length->zAd Try.prog 22 [.bptr s 0,emb t,.int .i64 lvl,.mp m] (hpS (F.set m (.map (embM x.Z))) s r x.v x.L lim x.cnt rd) (.tup [.int .i64 n,.int .i64 e]) (hpS (F.set m (.map (embM y.Z))) s r y.v y.L lim y.cnt rd)
def zdr(s r m:Nat)(lim lvl:Int)(t:Ty)(x y:MkS)(n e:Int):Prop:=
 ∀F:List AObj,s<F.length->r<F.length->m<F.length->zAd Try.prog 48 [.bptr s 0,emb t,.int .i64 lvl,.mp m] (hpR (F.set m (.map (embM x.Z))) s r x.v x.L.st lim x.cnt) (.tup [.int .i64 n,.int .i64 e]) (hpR (F.set m (.map (embM y.Z))) s r y.v y.L.st lim y.cnt)
theorem zdq.at{lim rd lvl:Int}{t:Ty}{x y:MkS}{n e:Int}(h:zdq s r m lim rd lvl t x y n e)(hs:s<F.length)(hr:r<F.length)(hm:m<F.length)(J:List AObj):
 zAd Try.prog 22 [.bptr s 0,emb t,.int .i64 lvl,.mp m] (hpS (F.set m (.map (embM x.Z))++J) s r x.v x.L lim x.cnt rd) (.tup [.int .i64 n,.int .i64 e]) (hpS (F.set m (.map (embM y.Z))++J) s r y.v y.L lim y.cnt rd):=by
 have:=h (F++J) (zN3 hs) (zN3 hr) (zN3 hm)
 rwa[zCW hm,zCW hm]at this
theorem zdr.at{lim lvl:Int}{t:Ty}{x y:MkS}{n e:Int}(h:zdr s r m lim lvl t x y n e)(hs:s<F.length)(hr:r<F.length)(hm:m<F.length)(J:List AObj):
 zAd Try.prog 48 [.bptr s 0,emb t,.int .i64 lvl,.mp m] (hpR (F.set m (.map (embM x.Z))++J) s r x.v x.L.st lim x.cnt) (.tup [.int .i64 n,.int .i64 e]) (hpR (F.set m (.map (embM y.Z))++J) s r y.v y.L.st lim y.cnt):=by
 have:=h (F++J) (zN3 hs) (zN3 hr) (zN3 hm)
 rwa[zCW hm,zCW hm]at this
end
section
variable {s r m : Nat} {lim rd lvl : Int}
theorem zf6(hne:r≠s)(hsm:s≠m)(hrm:r≠m){k:Int}(hk:1<=k/\k<=5){i:Nat}(hi:k-1=(i:Int))(x:MkS):zdr s r m lim lvl (.mk k 0 []) x x i 0:=by
 intro F hs hr hm
 have hp:=fun X:AObj=>stPN (G:=F.set m X) (s:=s) (r:=r) List.length_set hs hr hne
 have hmG:=fun J X bx ar=>zeR (F:=F) (J:=J) (X:=X) (bx:=bx) (ar:=ar) hm hsm hrm
 have hmS:=fun J X Y bx ar=>zeS (F:=F) (J:=J) (X:=X) (Y:=Y) (bx:=bx) (ar:=ar) hm hsm hrm
 have c6:(k==6)=false:=by rw[YAZ];omega
 have c7:(k==7)=false:=by rw[YAZ];omega
 have c8:(k==8)=false:=by rw[YAZ];omega
 have c9:(k==9)=false:=by rw[YAZ];omega
 have w:IntKind.wrap .i64 (k-1)=(i:Int):=by rw[zbT (by omega) (by omega)];exact hi
 unfold zAd
 refine zBN C_ok Try.func48 rfl (by decide) (YAL rfl) (by decide) fun ok=> ?_
 rw[Try.results48]
 have h:=YAN
 repeat' (first
  |(with_reducible first|apply bA|apply bB|apply bC|apply bD|apply bE|apply bF)<;>intro h
  |skip)<;>simp only[h,↓zaL,↓zHC,WY,reduceIte,yA,yB,yC,yD,reduceCtorEq,yE,yF,W1,WS,hpR,bxR,arR,hp,ze0,hmG,hmS,zTh,zTg,AV.bel,AV.belL,List.length_set,zGy,zG6,zGx,implies_true,beq_self_eq_true,YAO,Mem.zXM,MkS.out,c6,c7,c8,c9,w]
theorem zgG(hne:r≠s)(hsm:s≠m)(hrm:r≠m){k:Int}{n:Nat}(x:MkS)(hg:mget x.Z k=some (n:Int)):zdr s r m lim lvl (.mk 6 k []) x x n 0:=by
 intro F hs hr hm
 have hp:=fun X:AObj=>stPN (G:=F.set m X) (s:=s) (r:=r) List.length_set hs hr hne
 have hmG:=fun J X bx ar=>zeR (F:=F) (J:=J) (X:=X) (bx:=bx) (ar:=ar) hm hsm hrm
 have hmS:=fun J X Y bx ar=>zeS (F:=F) (J:=J) (X:=X) (Y:=Y) (bx:=bx) (ar:=ar) hm hsm hrm
 unfold zAd
 refine zBN C_ok Try.func48 rfl (by decide) (YAL rfl) (by decide) fun ok=> ?_
 rw[Try.results48]
 have h:=YAN
 repeat' (first
  |(with_reducible first|apply bA|apply bB|apply bC|apply bD|apply bE|apply bF)<;>intro h
  |skip)<;>simp only[h,↓zaL,↓zHC,WY,reduceIte,yA,yB,yC,yD,reduceCtorEq,yE,yF,W1,WS,hpR,bxR,arR,hp,ze0,hmG,hmS,zTh,zTg,AV.bel,AV.belL,List.length_set,zGy,zG6,zGx,implies_true,beq_self_eq_true,YAO,Mem.zXM,MkS.out,zHe,zHx,zPN,zOl,zMT,hg,Option.getD_some,Option.isSome_some,Option.getD_none,Option.isSome_none]
theorem zgE(hne:r≠s)(hsm:s≠m)(hrm:r≠m){k:Int}(x:MkS)(hg:mget x.Z k=none)(hlv:¬lvl<0)(hc:x.cnt<lim)(hL:x.L.length<=1000000)(hc':0<=x.cnt/\x.cnt<=1000000):zdr s r m lim lvl (.mk 6 k []) x {x.out ⟨6,lvl,none,[]⟩with Z:=mput x.Z k x.L.st.length} x.L.st.length 0:=by
 intro F hs hr hm
 have hp:=fun X:AObj=>stPN (G:=F.set m X) (s:=s) (r:=r) List.length_set hs hr hne
 have hmG:=fun J X bx ar=>zeR (F:=F) (J:=J) (X:=X) (bx:=bx) (ar:=ar) hm hsm hrm
 have hmS:=fun J X Y bx ar=>zeS (F:=F) (J:=J) (X:=X) (Y:=Y) (bx:=bx) (ar:=ar) hm hsm hrm
 have q:=fun(F:List AObj) (hs:s<F.length) (hr:r<F.length)=>zgb (F:=F) (v:=x.v) (S:=x.L.st) (lim:=lim) (cnt:=x.cnt) hs hr hne lvl hlv (by omega) (by rw[Mem.zXR];exact hL) hc'
 unfold zAd
 refine zBN C_ok Try.func48 rfl (by decide) (YAL rfl) (by decide) fun ok=> ?_
 rw[Try.results48]
 have h:=YAN
 repeat' (first
  |(with_reducible first|apply bA|apply bB|apply bC|apply bD|apply bE|apply bF)<;>intro h
  |((first|apply bG|apply bH);simp only[AV.norm,AV.zQg,W2,hpR,bxR,arR,hp,ze0,hmG,hmS,zTh,zTg,AV.bel,AV.belL,List.length_set,zGy,zG6,zGx,implies_true,beq_self_eq_true,YAO,Mem.zXM,MkS.out,zHe,zHx,zPN,zOl,zMT,hg,Option.getD_some,Option.isSome_some,Option.getD_none,Option.isSome_none];first|refine zIA (q _ (by first|exact hs|simp<;>omega) (by first|exact hr|simp<;>omega)) (.inl rfl) (fun hb=>zeT (by first|exact hs|simp<;>omega) (by first|exact hr|simp<;>omega) hne hb) ?_)
  |skip)<;>simp only[h,↓zaL,↓zHC,WY,reduceIte,yA,yB,yC,yD,reduceCtorEq,yE,yF,W1,WS,hpR,bxR,arR,hp,ze0,hmG,hmS,zTh,zTg,AV.bel,AV.belL,List.length_set,zGy,zG6,zGx,implies_true,beq_self_eq_true,YAO,Mem.zXM,MkS.out,zHe,zHx,zPN,zOl,zMT,hg,Option.getD_some,Option.isSome_some,Option.getD_none,Option.isSome_none]
theorem zgF(hne:r≠s)(hsm:s≠m)(hrm:r≠m){k:Int}(x:MkS)(hg:mget x.Z k=none)(hlv:¬lvl<0)(hc:x.cnt=lim):zdr s r m lim lvl (.mk 6 k []) x x 0 7:=by
 intro F hs hr hm
 have hp:=fun X:AObj=>stPN (G:=F.set m X) (s:=s) (r:=r) List.length_set hs hr hne
 have hmG:=fun J X bx ar=>zeR (F:=F) (J:=J) (X:=X) (bx:=bx) (ar:=ar) hm hsm hrm
 have hmS:=fun J X Y bx ar=>zeS (F:=F) (J:=J) (X:=X) (Y:=Y) (bx:=bx) (ar:=ar) hm hsm hrm
 have q:=fun(F:List AObj) (hs:s<F.length) (hr:r<F.length)=>zga (F:=F) (v:=x.v) (S:=x.L.st) (lim:=lim) (cnt:=x.cnt) hs hr hne lvl hlv (by omega)
 have e70:((7:Int)==0)=false:=rfl
 unfold zAd
 refine zBN C_ok Try.func48 rfl (by decide) (YAL rfl) (by decide) fun ok=> ?_
 rw[Try.results48]
 have h:=YAN
 repeat' (first
  |(with_reducible first|apply bA|apply bB|apply bC|apply bD|apply bE|apply bF)<;>intro h
  |((first|apply bG|apply bH);simp only[AV.norm,AV.zQg,W2,hpR,bxR,arR,hp,ze0,hmG,hmS,zTh,zTg,AV.bel,AV.belL,List.length_set,zGy,zG6,zGx,implies_true,e70,beq_self_eq_true,YAO,Mem.zXM,MkS.out,zHe,zHx,zPN,zOl,zMT,hg,Option.getD_some,Option.isSome_some,Option.getD_none,Option.isSome_none];first|refine zIA (q _ (by first|exact hs|simp<;>omega) (by first|exact hr|simp<;>omega)) (.inl rfl) (fun hb=>zeT (by first|exact hs|simp<;>omega) (by first|exact hr|simp<;>omega) hne hb) ?_)
  |skip)<;>simp only[h,↓zaL,↓zHC,WY,reduceIte,yA,yB,yC,yD,reduceCtorEq,yE,yF,W1,WS,hpR,bxR,arR,hp,ze0,hmG,hmS,zTh,zTg,AV.bel,AV.belL,List.length_set,zGy,zG6,zGx,implies_true,e70,beq_self_eq_true,YAO,Mem.zXM,MkS.out,zHe,zHx,zPN,zOl,zMT,hg,Option.getD_some,Option.isSome_some,Option.getD_none,Option.isSome_none]
theorem zgA(hne:r≠s)(hsm:s≠m)(hrm:r≠m){k:Int}{a b:Ty}{x y z:MkS}{i j:Nat}(hk:k=7\/k=9)(h1:zdr s r m lim lvl a x y i 0)(h2:zdr s r m lim lvl b y z j 0)(hi:i<z.L.length)(hj:j<z.L.length)(hc:z.cnt<lim)(hL:z.L.length<=1000000)(hc':0<=z.cnt/\z.cnt<=1000000):zdr s r m lim lvl (.mk k 0 [a,b]) x (z.out ⟨k,0,none,[i,j]⟩) z.L.st.length 0:=by
 intro F hs hr hm
 have hp:=fun X:AObj=>stPN (G:=F.set m X) (s:=s) (r:=r) List.length_set hs hr hne
 have hmG:=fun J X bx ar=>zeR (F:=F) (J:=J) (X:=X) (bx:=bx) (ar:=ar) hm hsm hrm
 have hmS:=fun J X Y bx ar=>zeS (F:=F) (J:=J) (X:=X) (Y:=Y) (bx:=bx) (ar:=ar) hm hsm hrm
 have q:=fun(F:List AObj) (hs:s<F.length) (hr:r<F.length)=>zf5 (F:=F) (v:=z.v) (S:=z.L.st) (lim:=lim) (cnt:=z.cnt) hs hr hne k i j hk (by rw[Mem.zXR];exact hi) (by rw[Mem.zXR];exact hj) (by omega) (by rw[Mem.zXR];exact hL) hc'
 have c6:(k==6)=false:=by rw[YAZ];omega
 have e7:((7:Int) !=0)=true:=rfl
 unfold zAd
 rcases hk with rfl|rfl
 ·refine zBN C_ok Try.func48 rfl (by decide) (YAL rfl) (by decide) fun ok=> ?_
  rw[Try.results48]
  have h:=YAN
  repeat' (first
   |(with_reducible first|apply bA|apply bB|apply bC|apply bD|apply bE|apply bF)<;>intro h
   |((first|apply bG|apply bH);simp only[AV.norm,AV.zQg,W2,W3,yH,yI,yJ,yK,yL,yM,hpR,bxR,arR,hp,ze0,hmG,hmS,zTh,zTg,AV.bel,AV.belL,List.length_set,zGy,zG6,zGx,implies_true,beq_self_eq_true,YAO,Mem.zXM,MkS.out,c6,e7,Int.toNat_zero,Int.toNat_one,YAQ];first|refine zIA (h1.at hs hr hm _) (.inl rfl) (fun hb=>by first|exact zeN hm hsm hrm hs hr hne (zGW _ _) hb|exact zeO hm hsm hrm hs hr hne (zGW _ _) hb) ?_|refine zIA (h2.at hs hr hm _) (.inl rfl) (fun hb=>by first|exact zeN hm hsm hrm hs hr hne (zGW _ _) hb|exact zeO hm hsm hrm hs hr hne (zGW _ _) hb) ?_|refine zIA (q _ (by first|exact hs|simp<;>omega) (by first|exact hr|simp<;>omega)) (.inl rfl) (fun hb=>zeT (by first|exact hs|simp<;>omega) (by first|exact hr|simp<;>omega) hne hb) ?_)
   |refine zJ9 ?_ C_ok Try.f48.ntmps rfl (by decide)
   |skip)<;>simp only[h,↓zaL,↓zHC,WY,reduceIte,yA,yB,yC,yD,reduceCtorEq,yE,yF,W1,WS,W3,yH,yI,yJ,yK,yL,yM,hpR,bxR,arR,hp,ze0,hmG,hmS,zTh,zTg,AV.bel,AV.belL,List.length_set,zGy,zG6,zGx,implies_true,beq_self_eq_true,YAO,Mem.zXM,MkS.out,c6,e7,Int.toNat_zero,Int.toNat_one,YAQ,zFY]
 ·refine zBN C_ok Try.func48 rfl (by decide) (YAL rfl) (by decide) fun ok=> ?_
  rw[Try.results48]
  have h:=YAN
  repeat' (first
   |(with_reducible first|apply bA|apply bB|apply bC|apply bD|apply bE|apply bF)<;>intro h
   |((first|apply bG|apply bH);simp only[AV.norm,AV.zQg,W2,W3,yH,yI,yJ,yK,yL,yM,hpR,bxR,arR,hp,ze0,hmG,hmS,zTh,zTg,AV.bel,AV.belL,List.length_set,zGy,zG6,zGx,implies_true,beq_self_eq_true,YAO,Mem.zXM,MkS.out,c6,e7,Int.toNat_zero,Int.toNat_one,YAQ];first|refine zIA (h1.at hs hr hm _) (.inl rfl) (fun hb=>by first|exact zeN hm hsm hrm hs hr hne (zGW _ _) hb|exact zeO hm hsm hrm hs hr hne (zGW _ _) hb) ?_|refine zIA (h2.at hs hr hm _) (.inl rfl) (fun hb=>by first|exact zeN hm hsm hrm hs hr hne (zGW _ _) hb|exact zeO hm hsm hrm hs hr hne (zGW _ _) hb) ?_|refine zIA (q _ (by first|exact hs|simp<;>omega) (by first|exact hr|simp<;>omega)) (.inl rfl) (fun hb=>zeT (by first|exact hs|simp<;>omega) (by first|exact hr|simp<;>omega) hne hb) ?_)
   |refine zJ9 ?_ C_ok Try.f48.ntmps rfl (by decide)
   |skip)<;>simp only[h,↓zaL,↓zHC,WY,reduceIte,yA,yB,yC,yD,reduceCtorEq,yE,yF,W1,WS,W3,yH,yI,yJ,yK,yL,yM,hpR,bxR,arR,hp,ze0,hmG,hmS,zTh,zTg,AV.bel,AV.belL,List.length_set,zGy,zG6,zGx,implies_true,beq_self_eq_true,YAO,Mem.zXM,MkS.out,c6,e7,Int.toNat_zero,Int.toNat_one,YAQ,zFY]
theorem zf7(hne:r≠s)(hsm:s≠m)(hrm:r≠m){a:Ty}{x y:MkS}{i:Nat}(h1:zdr s r m lim lvl a x y i 0)(hi:i<y.L.length)(hc:y.cnt<lim)(hL:y.L.length<=1000000)(hc':0<=y.cnt/\y.cnt<=1000000):zdr s r m lim lvl (.mk 8 0 [a]) x (y.out ⟨8,0,none,[i]⟩) y.L.st.length 0:=by
 intro F hs hr hm
 have hp:=fun X:AObj=>stPN (G:=F.set m X) (s:=s) (r:=r) List.length_set hs hr hne
 have hmG:=fun J X bx ar=>zeR (F:=F) (J:=J) (X:=X) (bx:=bx) (ar:=ar) hm hsm hrm
 have hmS:=fun J X Y bx ar=>zeS (F:=F) (J:=J) (X:=X) (Y:=Y) (bx:=bx) (ar:=ar) hm hsm hrm
 have e7:((7:Int) !=0)=true:=rfl
 have q:=fun(F:List AObj) (hs:s<F.length) (hr:r<F.length)=>zf3 (F:=F) (v:=y.v) (S:=y.L.st) (lim:=lim) (cnt:=y.cnt) hs hr hne i i (by rw[Mem.zXR];exact hi) (by omega) (by rw[Mem.zXR];exact hL) hc'
 unfold zAd
 refine zBN C_ok Try.func48 rfl (by decide) (YAL rfl) (by decide) fun ok=> ?_
 rw[Try.results48]
 have h:=YAN
 repeat' (first
  |(with_reducible first|apply bA|apply bB|apply bC|apply bD|apply bE|apply bF)<;>intro h
  |((first|apply bG|apply bH);simp only[AV.norm,AV.zQg,W2,W3,yH,yI,yJ,yK,yL,yM,hpR,bxR,arR,hp,ze0,hmG,hmS,zTh,zTg,AV.bel,AV.belL,List.length_set,zGy,zG6,zGx,implies_true,beq_self_eq_true,YAO,Mem.zXM,MkS.out,e7,Int.toNat_zero,Int.toNat_one,YAQ];first|refine zIA (h1.at hs hr hm _) (.inl rfl) (fun hb=>by first|exact zeN hm hsm hrm hs hr hne (zGW _ _) hb|exact zeO hm hsm hrm hs hr hne (zGW _ _) hb) ?_|refine zIA (q _ (by first|exact hs|simp<;>omega) (by first|exact hr|simp<;>omega)) (.inl rfl) (fun hb=>zeT (by first|exact hs|simp<;>omega) (by first|exact hr|simp<;>omega) hne hb) ?_)
  |refine zJ9 ?_ C_ok Try.f48.ntmps rfl (by decide)
  |skip)<;>simp only[h,↓zaL,↓zHC,WY,reduceIte,yA,yB,yC,yD,reduceCtorEq,yE,yF,W1,WS,W3,yH,yI,yJ,yK,yL,yM,hpR,bxR,arR,hp,ze0,hmG,hmS,zTh,zTg,AV.bel,AV.belL,List.length_set,zGy,zG6,zGx,implies_true,beq_self_eq_true,YAO,Mem.zXM,MkS.out,e7,Int.toNat_zero,Int.toNat_one,YAQ,zFY]
theorem zgB(hne:r≠s)(hsm:s≠m)(hrm:r≠m){k:Int}{a b:Ty}{x y z:MkS}{i j:Nat}(hk:k=7\/k=9)(h1:zdr s r m lim lvl a x y i 0)(h2:zdr s r m lim lvl b y z j 0)(hi:i<z.L.length)(hj:j<z.L.length)(hc:z.cnt=lim):zdr s r m lim lvl (.mk k 0 [a,b]) x z 0 7:=by
 intro F hs hr hm
 have hp:=fun X:AObj=>stPN (G:=F.set m X) (s:=s) (r:=r) List.length_set hs hr hne
 have hmG:=fun J X bx ar=>zeR (F:=F) (J:=J) (X:=X) (bx:=bx) (ar:=ar) hm hsm hrm
 have hmS:=fun J X Y bx ar=>zeS (F:=F) (J:=J) (X:=X) (Y:=Y) (bx:=bx) (ar:=ar) hm hsm hrm
 have q:=fun(F:List AObj) (hs:s<F.length) (hr:r<F.length)=>zf2 (F:=F) (v:=z.v) (S:=z.L.st) (lim:=lim) (cnt:=z.cnt) hs hr hne k i j hk (by rw[Mem.zXR];exact hi) (by rw[Mem.zXR];exact hj) (by omega)
 have c6:(k==6)=false:=by rw[YAZ];omega
 have e7:((7:Int) !=0)=true:=rfl
 unfold zAd
 rcases hk with rfl|rfl
 ·refine zBN C_ok Try.func48 rfl (by decide) (YAL rfl) (by decide) fun ok=> ?_
  rw[Try.results48]
  have h:=YAN
  repeat' (first
   |(with_reducible first|apply bA|apply bB|apply bC|apply bD|apply bE|apply bF)<;>intro h
   |((first|apply bG|apply bH);simp only[AV.norm,AV.zQg,W2,W3,yH,yI,yJ,yK,yL,yM,hpR,bxR,arR,hp,ze0,hmG,hmS,zTh,zTg,AV.bel,AV.belL,List.length_set,zGy,zG6,zGx,implies_true,beq_self_eq_true,YAO,Mem.zXM,MkS.out,c6,e7,Int.toNat_zero,Int.toNat_one,YAQ];first|refine zIA (h1.at hs hr hm _) (.inl rfl) (fun hb=>by first|exact zeN hm hsm hrm hs hr hne (zGW _ _) hb|exact zeO hm hsm hrm hs hr hne (zGW _ _) hb) ?_|refine zIA (h2.at hs hr hm _) (.inl rfl) (fun hb=>by first|exact zeN hm hsm hrm hs hr hne (zGW _ _) hb|exact zeO hm hsm hrm hs hr hne (zGW _ _) hb) ?_|refine zIA (q _ (by first|exact hs|simp<;>omega) (by first|exact hr|simp<;>omega)) (.inl rfl) (fun hb=>zeT (by first|exact hs|simp<;>omega) (by first|exact hr|simp<;>omega) hne hb) ?_)
   |refine zJ9 ?_ C_ok Try.f48.ntmps rfl (by decide)
   |skip)<;>simp only[h,↓zaL,↓zHC,WY,reduceIte,yA,yB,yC,yD,reduceCtorEq,yE,yF,W1,WS,W3,yH,yI,yJ,yK,yL,yM,hpR,bxR,arR,hp,ze0,hmG,hmS,zTh,zTg,AV.bel,AV.belL,List.length_set,zGy,zG6,zGx,implies_true,beq_self_eq_true,YAO,Mem.zXM,MkS.out,c6,e7,Int.toNat_zero,Int.toNat_one,YAQ,zFY]
 ·refine zBN C_ok Try.func48 rfl (by decide) (YAL rfl) (by decide) fun ok=> ?_
  rw[Try.results48]
  have h:=YAN
  repeat' (first
   |(with_reducible first|apply bA|apply bB|apply bC|apply bD|apply bE|apply bF)<;>intro h
   |((first|apply bG|apply bH);simp only[AV.norm,AV.zQg,W2,W3,yH,yI,yJ,yK,yL,yM,hpR,bxR,arR,hp,ze0,hmG,hmS,zTh,zTg,AV.bel,AV.belL,List.length_set,zGy,zG6,zGx,implies_true,beq_self_eq_true,YAO,Mem.zXM,MkS.out,c6,e7,Int.toNat_zero,Int.toNat_one,YAQ];first|refine zIA (h1.at hs hr hm _) (.inl rfl) (fun hb=>by first|exact zeN hm hsm hrm hs hr hne (zGW _ _) hb|exact zeO hm hsm hrm hs hr hne (zGW _ _) hb) ?_|refine zIA (h2.at hs hr hm _) (.inl rfl) (fun hb=>by first|exact zeN hm hsm hrm hs hr hne (zGW _ _) hb|exact zeO hm hsm hrm hs hr hne (zGW _ _) hb) ?_|refine zIA (q _ (by first|exact hs|simp<;>omega) (by first|exact hr|simp<;>omega)) (.inl rfl) (fun hb=>zeT (by first|exact hs|simp<;>omega) (by first|exact hr|simp<;>omega) hne hb) ?_)
   |refine zJ9 ?_ C_ok Try.f48.ntmps rfl (by decide)
   |skip)<;>simp only[h,↓zaL,↓zHC,WY,reduceIte,yA,yB,yC,yD,reduceCtorEq,yE,yF,W1,WS,W3,yH,yI,yJ,yK,yL,yM,hpR,bxR,arR,hp,ze0,hmG,hmS,zTh,zTg,AV.bel,AV.belL,List.length_set,zGy,zG6,zGx,implies_true,beq_self_eq_true,YAO,Mem.zXM,MkS.out,c6,e7,Int.toNat_zero,Int.toNat_one,YAQ,zFY]
theorem zgC(hne:r≠s)(hsm:s≠m)(hrm:r≠m){k:Int}{a b:Ty}{x y:MkS}(hk:k=7\/k=9)(h1:zdr s r m lim lvl a x y 0 7):zdr s r m lim lvl (.mk k 0 [a,b]) x y 0 7:=by
 intro F hs hr hm
 have hp:=fun X:AObj=>stPN (G:=F.set m X) (s:=s) (r:=r) List.length_set hs hr hne
 have hmG:=fun J X bx ar=>zeR (F:=F) (J:=J) (X:=X) (bx:=bx) (ar:=ar) hm hsm hrm
 have hmS:=fun J X Y bx ar=>zeS (F:=F) (J:=J) (X:=X) (Y:=Y) (bx:=bx) (ar:=ar) hm hsm hrm
 have c6:(k==6)=false:=by rw[YAZ];omega
 have e7:((7:Int) !=0)=true:=rfl
 unfold zAd
 rcases hk with rfl|rfl
 ·refine zBN C_ok Try.func48 rfl (by decide) (YAL rfl) (by decide) fun ok=> ?_
  rw[Try.results48]
  have h:=YAN
  repeat' (first
   |(with_reducible first|apply bA|apply bB|apply bC|apply bD|apply bE|apply bF)<;>intro h
   |((first|apply bG|apply bH);simp only[AV.norm,AV.zQg,W2,W3,yH,yI,yJ,yK,yL,yM,hpR,bxR,arR,hp,ze0,hmG,hmS,zTh,zTg,AV.bel,AV.belL,List.length_set,zGy,zG6,zGx,implies_true,beq_self_eq_true,YAO,Mem.zXM,MkS.out,c6,e7,Int.toNat_zero,Int.toNat_one,YAQ];first|refine zIA (h1.at hs hr hm _) (.inl rfl) (fun hb=>by first|exact zeN hm hsm hrm hs hr hne (zGW _ _) hb|exact zeO hm hsm hrm hs hr hne (zGW _ _) hb) ?_)
   |refine zJ9 ?_ C_ok Try.f48.ntmps rfl (by decide)
   |skip)<;>simp only[h,↓zaL,↓zHC,WY,reduceIte,yA,yB,yC,yD,reduceCtorEq,yE,yF,W1,WS,W3,yH,yI,yJ,yK,yL,yM,hpR,bxR,arR,hp,ze0,hmG,hmS,zTh,zTg,AV.bel,AV.belL,List.length_set,zGy,zG6,zGx,implies_true,beq_self_eq_true,YAO,Mem.zXM,MkS.out,c6,e7,Int.toNat_zero,Int.toNat_one,YAQ,zFY]
 ·refine zBN C_ok Try.func48 rfl (by decide) (YAL rfl) (by decide) fun ok=> ?_
  rw[Try.results48]
  have h:=YAN
  repeat' (first
   |(with_reducible first|apply bA|apply bB|apply bC|apply bD|apply bE|apply bF)<;>intro h
   |((first|apply bG|apply bH);simp only[AV.norm,AV.zQg,W2,W3,yH,yI,yJ,yK,yL,yM,hpR,bxR,arR,hp,ze0,hmG,hmS,zTh,zTg,AV.bel,AV.belL,List.length_set,zGy,zG6,zGx,implies_true,beq_self_eq_true,YAO,Mem.zXM,MkS.out,c6,e7,Int.toNat_zero,Int.toNat_one,YAQ];first|refine zIA (h1.at hs hr hm _) (.inl rfl) (fun hb=>by first|exact zeN hm hsm hrm hs hr hne (zGW _ _) hb|exact zeO hm hsm hrm hs hr hne (zGW _ _) hb) ?_)
   |refine zJ9 ?_ C_ok Try.f48.ntmps rfl (by decide)
   |skip)<;>simp only[h,↓zaL,↓zHC,WY,reduceIte,yA,yB,yC,yD,reduceCtorEq,yE,yF,W1,WS,W3,yH,yI,yJ,yK,yL,yM,hpR,bxR,arR,hp,ze0,hmG,hmS,zTh,zTg,AV.bel,AV.belL,List.length_set,zGy,zG6,zGx,implies_true,beq_self_eq_true,YAO,Mem.zXM,MkS.out,c6,e7,Int.toNat_zero,Int.toNat_one,YAQ,zFY]
theorem zgD(hne:r≠s)(hsm:s≠m)(hrm:r≠m){k:Int}{a b:Ty}{x y z:MkS}{i:Nat}(hk:k=7\/k=9)(h1:zdr s r m lim lvl a x y i 0)(h2:zdr s r m lim lvl b y z 0 7):zdr s r m lim lvl (.mk k 0 [a,b]) x z 0 7:=by
 intro F hs hr hm
 have hp:=fun X:AObj=>stPN (G:=F.set m X) (s:=s) (r:=r) List.length_set hs hr hne
 have hmG:=fun J X bx ar=>zeR (F:=F) (J:=J) (X:=X) (bx:=bx) (ar:=ar) hm hsm hrm
 have hmS:=fun J X Y bx ar=>zeS (F:=F) (J:=J) (X:=X) (Y:=Y) (bx:=bx) (ar:=ar) hm hsm hrm
 have c6:(k==6)=false:=by rw[YAZ];omega
 have e7:((7:Int) !=0)=true:=rfl
 unfold zAd
 rcases hk with rfl|rfl
 ·refine zBN C_ok Try.func48 rfl (by decide) (YAL rfl) (by decide) fun ok=> ?_
  rw[Try.results48]
  have h:=YAN
  repeat' (first
   |(with_reducible first|apply bA|apply bB|apply bC|apply bD|apply bE|apply bF)<;>intro h
   |((first|apply bG|apply bH);simp only[AV.norm,AV.zQg,W2,W3,yH,yI,yJ,yK,yL,yM,hpR,bxR,arR,hp,ze0,hmG,hmS,zTh,zTg,AV.bel,AV.belL,List.length_set,zGy,zG6,zGx,implies_true,beq_self_eq_true,YAO,Mem.zXM,MkS.out,c6,e7,Int.toNat_zero,Int.toNat_one,YAQ];first|refine zIA (h1.at hs hr hm _) (.inl rfl) (fun hb=>by first|exact zeN hm hsm hrm hs hr hne (zGW _ _) hb|exact zeO hm hsm hrm hs hr hne (zGW _ _) hb) ?_|refine zIA (h2.at hs hr hm _) (.inl rfl) (fun hb=>by first|exact zeN hm hsm hrm hs hr hne (zGW _ _) hb|exact zeO hm hsm hrm hs hr hne (zGW _ _) hb) ?_)
   |refine zJ9 ?_ C_ok Try.f48.ntmps rfl (by decide)
   |skip)<;>simp only[h,↓zaL,↓zHC,WY,reduceIte,yA,yB,yC,yD,reduceCtorEq,yE,yF,W1,WS,W3,yH,yI,yJ,yK,yL,yM,hpR,bxR,arR,hp,ze0,hmG,hmS,zTh,zTg,AV.bel,AV.belL,List.length_set,zGy,zG6,zGx,implies_true,beq_self_eq_true,YAO,Mem.zXM,MkS.out,c6,e7,Int.toNat_zero,Int.toNat_one,YAQ,zFY]
 ·refine zBN C_ok Try.func48 rfl (by decide) (YAL rfl) (by decide) fun ok=> ?_
  rw[Try.results48]
  have h:=YAN
  repeat' (first
   |(with_reducible first|apply bA|apply bB|apply bC|apply bD|apply bE|apply bF)<;>intro h
   |((first|apply bG|apply bH);simp only[AV.norm,AV.zQg,W2,W3,yH,yI,yJ,yK,yL,yM,hpR,bxR,arR,hp,ze0,hmG,hmS,zTh,zTg,AV.bel,AV.belL,List.length_set,zGy,zG6,zGx,implies_true,beq_self_eq_true,YAO,Mem.zXM,MkS.out,c6,e7,Int.toNat_zero,Int.toNat_one,YAQ];first|refine zIA (h1.at hs hr hm _) (.inl rfl) (fun hb=>by first|exact zeN hm hsm hrm hs hr hne (zGW _ _) hb|exact zeO hm hsm hrm hs hr hne (zGW _ _) hb) ?_|refine zIA (h2.at hs hr hm _) (.inl rfl) (fun hb=>by first|exact zeN hm hsm hrm hs hr hne (zGW _ _) hb|exact zeO hm hsm hrm hs hr hne (zGW _ _) hb) ?_)
   |refine zJ9 ?_ C_ok Try.f48.ntmps rfl (by decide)
   |skip)<;>simp only[h,↓zaL,↓zHC,WY,reduceIte,yA,yB,yC,yD,reduceCtorEq,yE,yF,W1,WS,W3,yH,yI,yJ,yK,yL,yM,hpR,bxR,arR,hp,ze0,hmG,hmS,zTh,zTg,AV.bel,AV.belL,List.length_set,zGy,zG6,zGx,implies_true,beq_self_eq_true,YAO,Mem.zXM,MkS.out,c6,e7,Int.toNat_zero,Int.toNat_one,YAQ,zFY]
theorem zf8(hne:r≠s)(hsm:s≠m)(hrm:r≠m){a:Ty}{x y:MkS}{i:Nat}(h1:zdr s r m lim lvl a x y i 0)(hi:i<y.L.length)(hc:y.cnt=lim):zdr s r m lim lvl (.mk 8 0 [a]) x y 0 7:=by
 intro F hs hr hm
 have hp:=fun X:AObj=>stPN (G:=F.set m X) (s:=s) (r:=r) List.length_set hs hr hne
 have hmG:=fun J X bx ar=>zeR (F:=F) (J:=J) (X:=X) (bx:=bx) (ar:=ar) hm hsm hrm
 have hmS:=fun J X Y bx ar=>zeS (F:=F) (J:=J) (X:=X) (Y:=Y) (bx:=bx) (ar:=ar) hm hsm hrm
 have e7:((7:Int) !=0)=true:=rfl
 have q:=fun(F:List AObj) (hs:s<F.length) (hr:r<F.length)=>zf4 (F:=F) (v:=y.v) (S:=y.L.st) (lim:=lim) (cnt:=y.cnt) hs hr hne i i (by rw[Mem.zXR];exact hi) (by omega)
 unfold zAd
 refine zBN C_ok Try.func48 rfl (by decide) (YAL rfl) (by decide) fun ok=> ?_
 rw[Try.results48]
 have h:=YAN
 repeat' (first
  |(with_reducible first|apply bA|apply bB|apply bC|apply bD|apply bE|apply bF)<;>intro h
  |((first|apply bG|apply bH);simp only[AV.norm,AV.zQg,W2,W3,yH,yI,yJ,yK,yL,yM,hpR,bxR,arR,hp,ze0,hmG,hmS,zTh,zTg,AV.bel,AV.belL,List.length_set,zGy,zG6,zGx,implies_true,beq_self_eq_true,YAO,Mem.zXM,MkS.out,e7,Int.toNat_zero,Int.toNat_one,YAQ];first|refine zIA (h1.at hs hr hm _) (.inl rfl) (fun hb=>by first|exact zeN hm hsm hrm hs hr hne (zGW _ _) hb|exact zeO hm hsm hrm hs hr hne (zGW _ _) hb) ?_|refine zIA (q _ (by first|exact hs|simp<;>omega) (by first|exact hr|simp<;>omega)) (.inl rfl) (fun hb=>zeT (by first|exact hs|simp<;>omega) (by first|exact hr|simp<;>omega) hne hb) ?_)
  |refine zJ9 ?_ C_ok Try.f48.ntmps rfl (by decide)
  |skip)<;>simp only[h,↓zaL,↓zHC,WY,reduceIte,yA,yB,yC,yD,reduceCtorEq,yE,yF,W1,WS,W3,yH,yI,yJ,yK,yL,yM,hpR,bxR,arR,hp,ze0,hmG,hmS,zTh,zTg,AV.bel,AV.belL,List.length_set,zGy,zG6,zGx,implies_true,beq_self_eq_true,YAO,Mem.zXM,MkS.out,e7,Int.toNat_zero,Int.toNat_one,YAQ,zFY]
theorem zf9(hne:r≠s)(hsm:s≠m)(hrm:r≠m){a:Ty}{x y:MkS}(h1:zdr s r m lim lvl a x y 0 7):zdr s r m lim lvl (.mk 8 0 [a]) x y 0 7:=by
 intro F hs hr hm
 have hp:=fun X:AObj=>stPN (G:=F.set m X) (s:=s) (r:=r) List.length_set hs hr hne
 have hmG:=fun J X bx ar=>zeR (F:=F) (J:=J) (X:=X) (bx:=bx) (ar:=ar) hm hsm hrm
 have hmS:=fun J X Y bx ar=>zeS (F:=F) (J:=J) (X:=X) (Y:=Y) (bx:=bx) (ar:=ar) hm hsm hrm
 have e7:((7:Int) !=0)=true:=rfl
 unfold zAd
 refine zBN C_ok Try.func48 rfl (by decide) (YAL rfl) (by decide) fun ok=> ?_
 rw[Try.results48]
 have h:=YAN
 repeat' (first
  |(with_reducible first|apply bA|apply bB|apply bC|apply bD|apply bE|apply bF)<;>intro h
  |((first|apply bG|apply bH);simp only[AV.norm,AV.zQg,W2,W3,yH,yI,yJ,yK,yL,yM,hpR,bxR,arR,hp,ze0,hmG,hmS,zTh,zTg,AV.bel,AV.belL,List.length_set,zGy,zG6,zGx,implies_true,beq_self_eq_true,YAO,Mem.zXM,MkS.out,e7,Int.toNat_zero,Int.toNat_one,YAQ];first|refine zIA (h1.at hs hr hm _) (.inl rfl) (fun hb=>by first|exact zeN hm hsm hrm hs hr hne (zGW _ _) hb|exact zeO hm hsm hrm hs hr hne (zGW _ _) hb) ?_)
  |refine zJ9 ?_ C_ok Try.f48.ntmps rfl (by decide)
  |skip)<;>simp only[h,↓zaL,↓zHC,WY,reduceIte,yA,yB,yC,yD,reduceCtorEq,yE,yF,W1,WS,W3,yH,yI,yJ,yK,yL,yM,hpR,bxR,arR,hp,ze0,hmG,hmS,zTh,zTg,AV.bel,AV.belL,List.length_set,zGy,zG6,zGx,implies_true,beq_self_eq_true,YAO,Mem.zXM,MkS.out,e7,Int.toNat_zero,Int.toNat_one,YAQ,zFY]
theorem zfC(hne:r≠s)(hsm:s≠m)(hrm:r≠m){k:Int}(x:MkS)(hg:mget x.Z k=none)(hlv:¬lvl<0)(hc:x.cnt=lim):zdq s r m lim rd lvl (.mk 6 k []) x x 0 7:=by
 intro F hs hr hm
 have hp:=fun X:AObj=>stPN (G:=F.set m X) (s:=s) (r:=r) List.length_set hs hr hne
 have hmG:=fun J X bx ar=>zeR (F:=F) (J:=J) (X:=X) (bx:=bx) (ar:=ar) hm hsm hrm
 have hmS:=fun J X Y bx ar=>zeS (F:=F) (J:=J) (X:=X) (Y:=Y) (bx:=bx) (ar:=ar) hm hsm hrm
 have q:=fun(F:List AObj) (hs:s<F.length) (hr:r<F.length)=>zg3 (F:=F) (v:=x.v) (L:=x.L) (lim:=lim) (cnt:=x.cnt) (rd:=rd) hs hr hne lvl hlv (by rw[beq_iff_eq];exact hc)
 have e70:((7:Int)==0)=false:=rfl
 unfold zAd
 refine zBN C_ok Try.func22 rfl (by decide) (YAL rfl) (by decide) fun ok=> ?_
 rw[Try.results22]
 have h:=YAN
 repeat' (first
  |(with_reducible first|apply bA|apply bB|apply bC|apply bD|apply bE|apply bF)<;>intro h
  |((first|apply bG|apply bH);simp only[AV.norm,AV.zQg,W2,hpS,bxS,arS,hp,zOg,hmG,hmS,zTh,zTg,AV.bel,AV.belL,List.length_set,zGy,zG6,zGx,implies_true,e70,beq_self_eq_true,YAO,Mem.zXM,MkS.out,zHe,zHx,zPN,zOl,zMT,hg,Option.getD_some,Option.isSome_some,Option.getD_none,Option.isSome_none];first|refine zIA (q _ (by first|exact hs|simp<;>omega) (by first|exact hr|simp<;>omega)) (.inl rfl) (fun hb=>zLV (by first|exact hs|simp<;>omega) (by first|exact hr|simp<;>omega) hne hb) ?_)
  |skip)<;>simp only[h,↓zaL,↓zHC,WY,reduceIte,yA,yB,yC,yD,reduceCtorEq,yE,yF,W1,WS,hpS,bxS,arS,hp,zOg,hmG,hmS,zTh,zTg,AV.bel,AV.belL,List.length_set,zGy,zG6,zGx,implies_true,e70,beq_self_eq_true,YAO,Mem.zXM,MkS.out,zHe,zHx,zPN,zOl,zMT,hg,Option.getD_some,Option.isSome_some,Option.getD_none,Option.isSome_none]
theorem ze9(hne:r≠s)(hsm:s≠m)(hrm:r≠m){k:Int}{a b:Ty}{x y z:MkS}{i j:Nat}(hk:k=7\/k=9)(h1:zdq s r m lim rd lvl a x y i 0)(h2:zdq s r m lim rd lvl b y z j 0)(hi:i<z.L.length)(hj:j<z.L.length)(hc:z.cnt=lim):zdq s r m lim rd lvl (.mk k 0 [a,b]) x z 0 7:=by
 intro F hs hr hm
 have hp:=fun X:AObj=>stPN (G:=F.set m X) (s:=s) (r:=r) List.length_set hs hr hne
 have hmG:=fun J X bx ar=>zeR (F:=F) (J:=J) (X:=X) (bx:=bx) (ar:=ar) hm hsm hrm
 have hmS:=fun J X Y bx ar=>zeS (F:=F) (J:=J) (X:=X) (Y:=Y) (bx:=bx) (ar:=ar) hm hsm hrm
 have q:=fun(F:List AObj) (hs:s<F.length) (hr:r<F.length)=>zes (F:=F) (v:=z.v) (L:=z.L) (lim:=lim) (cnt:=z.cnt) (rd:=rd) hs hr hne k i j hk hi hj (by rw[beq_iff_eq];exact hc)
 have c6:(k==6)=false:=by rw[YAZ];omega
 have e7:((7:Int) !=0)=true:=rfl
 unfold zAd
 rcases hk with rfl|rfl
 ·refine zBN C_ok Try.func22 rfl (by decide) (YAL rfl) (by decide) fun ok=> ?_
  rw[Try.results22]
  have h:=YAN
  repeat' (first
   |(with_reducible first|apply bA|apply bB|apply bC|apply bD|apply bE|apply bF)<;>intro h
   |((first|apply bG|apply bH);simp only[AV.norm,AV.zQg,W2,W3,yH,yI,yJ,yK,yL,yM,hpS,bxS,arS,hp,zOg,hmG,hmS,zTh,zTg,AV.bel,AV.belL,List.length_set,zGy,zG6,zGx,implies_true,beq_self_eq_true,YAO,Mem.zXM,MkS.out,c6,e7,Int.toNat_zero,Int.toNat_one,YAQ];first|refine zIA (h1.at hs hr hm _) (.inl rfl) (fun hb=>by first|exact zeP hm hsm hrm hs hr hne (zGW _ _) hb|exact zeQ hm hsm hrm hs hr hne (zGW _ _) hb) ?_|refine zIA (h2.at hs hr hm _) (.inl rfl) (fun hb=>by first|exact zeP hm hsm hrm hs hr hne (zGW _ _) hb|exact zeQ hm hsm hrm hs hr hne (zGW _ _) hb) ?_|refine zIA (q _ (by first|exact hs|simp<;>omega) (by first|exact hr|simp<;>omega)) (.inl rfl) (fun hb=>zLV (by first|exact hs|simp<;>omega) (by first|exact hr|simp<;>omega) hne hb) ?_)
   |refine zJ9 ?_ C_ok Try.f22.ntmps rfl (by decide)
   |skip)<;>simp only[h,↓zaL,↓zHC,WY,reduceIte,yA,yB,yC,yD,reduceCtorEq,yE,yF,W1,WS,W3,yH,yI,yJ,yK,yL,yM,hpS,bxS,arS,hp,zOg,hmG,hmS,zTh,zTg,AV.bel,AV.belL,List.length_set,zGy,zG6,zGx,implies_true,beq_self_eq_true,YAO,Mem.zXM,MkS.out,c6,e7,Int.toNat_zero,Int.toNat_one,YAQ,zFY]
 ·refine zBN C_ok Try.func22 rfl (by decide) (YAL rfl) (by decide) fun ok=> ?_
  rw[Try.results22]
  have h:=YAN
  repeat' (first
   |(with_reducible first|apply bA|apply bB|apply bC|apply bD|apply bE|apply bF)<;>intro h
   |((first|apply bG|apply bH);simp only[AV.norm,AV.zQg,W2,W3,yH,yI,yJ,yK,yL,yM,hpS,bxS,arS,hp,zOg,hmG,hmS,zTh,zTg,AV.bel,AV.belL,List.length_set,zGy,zG6,zGx,implies_true,beq_self_eq_true,YAO,Mem.zXM,MkS.out,c6,e7,Int.toNat_zero,Int.toNat_one,YAQ];first|refine zIA (h1.at hs hr hm _) (.inl rfl) (fun hb=>by first|exact zeP hm hsm hrm hs hr hne (zGW _ _) hb|exact zeQ hm hsm hrm hs hr hne (zGW _ _) hb) ?_|refine zIA (h2.at hs hr hm _) (.inl rfl) (fun hb=>by first|exact zeP hm hsm hrm hs hr hne (zGW _ _) hb|exact zeQ hm hsm hrm hs hr hne (zGW _ _) hb) ?_|refine zIA (q _ (by first|exact hs|simp<;>omega) (by first|exact hr|simp<;>omega)) (.inl rfl) (fun hb=>zLV (by first|exact hs|simp<;>omega) (by first|exact hr|simp<;>omega) hne hb) ?_)
   |refine zJ9 ?_ C_ok Try.f22.ntmps rfl (by decide)
   |skip)<;>simp only[h,↓zaL,↓zHC,WY,reduceIte,yA,yB,yC,yD,reduceCtorEq,yE,yF,W1,WS,W3,yH,yI,yJ,yK,yL,yM,hpS,bxS,arS,hp,zOg,hmG,hmS,zTh,zTg,AV.bel,AV.belL,List.length_set,zGy,zG6,zGx,implies_true,beq_self_eq_true,YAO,Mem.zXM,MkS.out,c6,e7,Int.toNat_zero,Int.toNat_one,YAQ,zFY]
theorem zfA(hne:r≠s)(hsm:s≠m)(hrm:r≠m){k:Int}{a b:Ty}{x y:MkS}(hk:k=7\/k=9)(h1:zdq s r m lim rd lvl a x y 0 7):zdq s r m lim rd lvl (.mk k 0 [a,b]) x y 0 7:=by
 intro F hs hr hm
 have hp:=fun X:AObj=>stPN (G:=F.set m X) (s:=s) (r:=r) List.length_set hs hr hne
 have hmG:=fun J X bx ar=>zeR (F:=F) (J:=J) (X:=X) (bx:=bx) (ar:=ar) hm hsm hrm
 have hmS:=fun J X Y bx ar=>zeS (F:=F) (J:=J) (X:=X) (Y:=Y) (bx:=bx) (ar:=ar) hm hsm hrm
 have c6:(k==6)=false:=by rw[YAZ];omega
 have e7:((7:Int) !=0)=true:=rfl
 unfold zAd
 rcases hk with rfl|rfl
 ·refine zBN C_ok Try.func22 rfl (by decide) (YAL rfl) (by decide) fun ok=> ?_
  rw[Try.results22]
  have h:=YAN
  repeat' (first
   |(with_reducible first|apply bA|apply bB|apply bC|apply bD|apply bE|apply bF)<;>intro h
   |((first|apply bG|apply bH);simp only[AV.norm,AV.zQg,W2,W3,yH,yI,yJ,yK,yL,yM,hpS,bxS,arS,hp,zOg,hmG,hmS,zTh,zTg,AV.bel,AV.belL,List.length_set,zGy,zG6,zGx,implies_true,beq_self_eq_true,YAO,Mem.zXM,MkS.out,c6,e7,Int.toNat_zero,Int.toNat_one,YAQ];first|refine zIA (h1.at hs hr hm _) (.inl rfl) (fun hb=>by first|exact zeP hm hsm hrm hs hr hne (zGW _ _) hb|exact zeQ hm hsm hrm hs hr hne (zGW _ _) hb) ?_)
   |refine zJ9 ?_ C_ok Try.f22.ntmps rfl (by decide)
   |skip)<;>simp only[h,↓zaL,↓zHC,WY,reduceIte,yA,yB,yC,yD,reduceCtorEq,yE,yF,W1,WS,W3,yH,yI,yJ,yK,yL,yM,hpS,bxS,arS,hp,zOg,hmG,hmS,zTh,zTg,AV.bel,AV.belL,List.length_set,zGy,zG6,zGx,implies_true,beq_self_eq_true,YAO,Mem.zXM,MkS.out,c6,e7,Int.toNat_zero,Int.toNat_one,YAQ,zFY]
 ·refine zBN C_ok Try.func22 rfl (by decide) (YAL rfl) (by decide) fun ok=> ?_
  rw[Try.results22]
  have h:=YAN
  repeat' (first
   |(with_reducible first|apply bA|apply bB|apply bC|apply bD|apply bE|apply bF)<;>intro h
   |((first|apply bG|apply bH);simp only[AV.norm,AV.zQg,W2,W3,yH,yI,yJ,yK,yL,yM,hpS,bxS,arS,hp,zOg,hmG,hmS,zTh,zTg,AV.bel,AV.belL,List.length_set,zGy,zG6,zGx,implies_true,beq_self_eq_true,YAO,Mem.zXM,MkS.out,c6,e7,Int.toNat_zero,Int.toNat_one,YAQ];first|refine zIA (h1.at hs hr hm _) (.inl rfl) (fun hb=>by first|exact zeP hm hsm hrm hs hr hne (zGW _ _) hb|exact zeQ hm hsm hrm hs hr hne (zGW _ _) hb) ?_)
   |refine zJ9 ?_ C_ok Try.f22.ntmps rfl (by decide)
   |skip)<;>simp only[h,↓zaL,↓zHC,WY,reduceIte,yA,yB,yC,yD,reduceCtorEq,yE,yF,W1,WS,W3,yH,yI,yJ,yK,yL,yM,hpS,bxS,arS,hp,zOg,hmG,hmS,zTh,zTg,AV.bel,AV.belL,List.length_set,zGy,zG6,zGx,implies_true,beq_self_eq_true,YAO,Mem.zXM,MkS.out,c6,e7,Int.toNat_zero,Int.toNat_one,YAQ,zFY]
theorem zfB(hne:r≠s)(hsm:s≠m)(hrm:r≠m){k:Int}{a b:Ty}{x y z:MkS}{i:Nat}(hk:k=7\/k=9)(h1:zdq s r m lim rd lvl a x y i 0)(h2:zdq s r m lim rd lvl b y z 0 7):zdq s r m lim rd lvl (.mk k 0 [a,b]) x z 0 7:=by
 intro F hs hr hm
 have hp:=fun X:AObj=>stPN (G:=F.set m X) (s:=s) (r:=r) List.length_set hs hr hne
 have hmG:=fun J X bx ar=>zeR (F:=F) (J:=J) (X:=X) (bx:=bx) (ar:=ar) hm hsm hrm
 have hmS:=fun J X Y bx ar=>zeS (F:=F) (J:=J) (X:=X) (Y:=Y) (bx:=bx) (ar:=ar) hm hsm hrm
 have c6:(k==6)=false:=by rw[YAZ];omega
 have e7:((7:Int) !=0)=true:=rfl
 unfold zAd
 rcases hk with rfl|rfl
 ·refine zBN C_ok Try.func22 rfl (by decide) (YAL rfl) (by decide) fun ok=> ?_
  rw[Try.results22]
  have h:=YAN
  repeat' (first
   |(with_reducible first|apply bA|apply bB|apply bC|apply bD|apply bE|apply bF)<;>intro h
   |((first|apply bG|apply bH);simp only[AV.norm,AV.zQg,W2,W3,yH,yI,yJ,yK,yL,yM,hpS,bxS,arS,hp,zOg,hmG,hmS,zTh,zTg,AV.bel,AV.belL,List.length_set,zGy,zG6,zGx,implies_true,beq_self_eq_true,YAO,Mem.zXM,MkS.out,c6,e7,Int.toNat_zero,Int.toNat_one,YAQ];first|refine zIA (h1.at hs hr hm _) (.inl rfl) (fun hb=>by first|exact zeP hm hsm hrm hs hr hne (zGW _ _) hb|exact zeQ hm hsm hrm hs hr hne (zGW _ _) hb) ?_|refine zIA (h2.at hs hr hm _) (.inl rfl) (fun hb=>by first|exact zeP hm hsm hrm hs hr hne (zGW _ _) hb|exact zeQ hm hsm hrm hs hr hne (zGW _ _) hb) ?_)
   |refine zJ9 ?_ C_ok Try.f22.ntmps rfl (by decide)
   |skip)<;>simp only[h,↓zaL,↓zHC,WY,reduceIte,yA,yB,yC,yD,reduceCtorEq,yE,yF,W1,WS,W3,yH,yI,yJ,yK,yL,yM,hpS,bxS,arS,hp,zOg,hmG,hmS,zTh,zTg,AV.bel,AV.belL,List.length_set,zGy,zG6,zGx,implies_true,beq_self_eq_true,YAO,Mem.zXM,MkS.out,c6,e7,Int.toNat_zero,Int.toNat_one,YAQ,zFY]
 ·refine zBN C_ok Try.func22 rfl (by decide) (YAL rfl) (by decide) fun ok=> ?_
  rw[Try.results22]
  have h:=YAN
  repeat' (first
   |(with_reducible first|apply bA|apply bB|apply bC|apply bD|apply bE|apply bF)<;>intro h
   |((first|apply bG|apply bH);simp only[AV.norm,AV.zQg,W2,W3,yH,yI,yJ,yK,yL,yM,hpS,bxS,arS,hp,zOg,hmG,hmS,zTh,zTg,AV.bel,AV.belL,List.length_set,zGy,zG6,zGx,implies_true,beq_self_eq_true,YAO,Mem.zXM,MkS.out,c6,e7,Int.toNat_zero,Int.toNat_one,YAQ];first|refine zIA (h1.at hs hr hm _) (.inl rfl) (fun hb=>by first|exact zeP hm hsm hrm hs hr hne (zGW _ _) hb|exact zeQ hm hsm hrm hs hr hne (zGW _ _) hb) ?_|refine zIA (h2.at hs hr hm _) (.inl rfl) (fun hb=>by first|exact zeP hm hsm hrm hs hr hne (zGW _ _) hb|exact zeQ hm hsm hrm hs hr hne (zGW _ _) hb) ?_)
   |refine zJ9 ?_ C_ok Try.f22.ntmps rfl (by decide)
   |skip)<;>simp only[h,↓zaL,↓zHC,WY,reduceIte,yA,yB,yC,yD,reduceCtorEq,yE,yF,W1,WS,W3,yH,yI,yJ,yK,yL,yM,hpS,bxS,arS,hp,zOg,hmG,hmS,zTh,zTg,AV.bel,AV.belL,List.length_set,zGy,zG6,zGx,implies_true,beq_self_eq_true,YAO,Mem.zXM,MkS.out,c6,e7,Int.toNat_zero,Int.toNat_one,YAQ,zFY]
theorem ze7(hne:r≠s)(hsm:s≠m)(hrm:r≠m){a:Ty}{x y:MkS}{i:Nat}(h1:zdq s r m lim rd lvl a x y i 0)(hi:i<y.L.length)(hc:y.cnt=lim):zdq s r m lim rd lvl (.mk 8 0 [a]) x y 0 7:=by
 intro F hs hr hm
 have hp:=fun X:AObj=>stPN (G:=F.set m X) (s:=s) (r:=r) List.length_set hs hr hne
 have hmG:=fun J X bx ar=>zeR (F:=F) (J:=J) (X:=X) (bx:=bx) (ar:=ar) hm hsm hrm
 have hmS:=fun J X Y bx ar=>zeS (F:=F) (J:=J) (X:=X) (Y:=Y) (bx:=bx) (ar:=ar) hm hsm hrm
 have e7:((7:Int) !=0)=true:=rfl
 have q:=fun(F:List AObj) (hs:s<F.length) (hr:r<F.length)=>zet (F:=F) (v:=y.v) (L:=y.L) (lim:=lim) (cnt:=y.cnt) (rd:=rd) hs hr hne i i hi (by rw[beq_iff_eq];exact hc)
 unfold zAd
 refine zBN C_ok Try.func22 rfl (by decide) (YAL rfl) (by decide) fun ok=> ?_
 rw[Try.results22]
 have h:=YAN
 repeat' (first
  |(with_reducible first|apply bA|apply bB|apply bC|apply bD|apply bE|apply bF)<;>intro h
  |((first|apply bG|apply bH);simp only[AV.norm,AV.zQg,W2,W3,yH,yI,yJ,yK,yL,yM,hpS,bxS,arS,hp,zOg,hmG,hmS,zTh,zTg,AV.bel,AV.belL,List.length_set,zGy,zG6,zGx,implies_true,beq_self_eq_true,YAO,Mem.zXM,MkS.out,e7,Int.toNat_zero,Int.toNat_one,YAQ];first|refine zIA (h1.at hs hr hm _) (.inl rfl) (fun hb=>by first|exact zeP hm hsm hrm hs hr hne (zGW _ _) hb|exact zeQ hm hsm hrm hs hr hne (zGW _ _) hb) ?_|refine zIA (q _ (by first|exact hs|simp<;>omega) (by first|exact hr|simp<;>omega)) (.inl rfl) (fun hb=>zLV (by first|exact hs|simp<;>omega) (by first|exact hr|simp<;>omega) hne hb) ?_)
  |refine zJ9 ?_ C_ok Try.f22.ntmps rfl (by decide)
  |skip)<;>simp only[h,↓zaL,↓zHC,WY,reduceIte,yA,yB,yC,yD,reduceCtorEq,yE,yF,W1,WS,W3,yH,yI,yJ,yK,yL,yM,hpS,bxS,arS,hp,zOg,hmG,hmS,zTh,zTg,AV.bel,AV.belL,List.length_set,zGy,zG6,zGx,implies_true,beq_self_eq_true,YAO,Mem.zXM,MkS.out,e7,Int.toNat_zero,Int.toNat_one,YAQ,zFY]
theorem ze8(hne:r≠s)(hsm:s≠m)(hrm:r≠m){a:Ty}{x y:MkS}(h1:zdq s r m lim rd lvl a x y 0 7):zdq s r m lim rd lvl (.mk 8 0 [a]) x y 0 7:=by
 intro F hs hr hm
 have hp:=fun X:AObj=>stPN (G:=F.set m X) (s:=s) (r:=r) List.length_set hs hr hne
 have hmG:=fun J X bx ar=>zeR (F:=F) (J:=J) (X:=X) (bx:=bx) (ar:=ar) hm hsm hrm
 have hmS:=fun J X Y bx ar=>zeS (F:=F) (J:=J) (X:=X) (Y:=Y) (bx:=bx) (ar:=ar) hm hsm hrm
 have e7:((7:Int) !=0)=true:=rfl
 unfold zAd
 refine zBN C_ok Try.func22 rfl (by decide) (YAL rfl) (by decide) fun ok=> ?_
 rw[Try.results22]
 have h:=YAN
 repeat' (first
  |(with_reducible first|apply bA|apply bB|apply bC|apply bD|apply bE|apply bF)<;>intro h
  |((first|apply bG|apply bH);simp only[AV.norm,AV.zQg,W2,W3,yH,yI,yJ,yK,yL,yM,hpS,bxS,arS,hp,zOg,hmG,hmS,zTh,zTg,AV.bel,AV.belL,List.length_set,zGy,zG6,zGx,implies_true,beq_self_eq_true,YAO,Mem.zXM,MkS.out,e7,Int.toNat_zero,Int.toNat_one,YAQ];first|refine zIA (h1.at hs hr hm _) (.inl rfl) (fun hb=>by first|exact zeP hm hsm hrm hs hr hne (zGW _ _) hb|exact zeQ hm hsm hrm hs hr hne (zGW _ _) hb) ?_)
  |refine zJ9 ?_ C_ok Try.f22.ntmps rfl (by decide)
  |skip)<;>simp only[h,↓zaL,↓zHC,WY,reduceIte,yA,yB,yC,yD,reduceCtorEq,yE,yF,W1,WS,W3,yH,yI,yJ,yK,yL,yM,hpS,bxS,arS,hp,zOg,hmG,hmS,zTh,zTg,AV.bel,AV.belL,List.length_set,zGy,zG6,zGx,implies_true,beq_self_eq_true,YAO,Mem.zXM,MkS.out,e7,Int.toNat_zero,Int.toNat_one,YAQ,zFY]
end
end Go.Proofs.Ytdngjamjccjlmaa
