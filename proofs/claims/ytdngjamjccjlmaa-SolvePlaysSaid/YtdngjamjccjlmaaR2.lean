/- The document's store, walked: new nodes. No condition. -/
import Derived.Test.YtdngjamjccjlmaaR1
set_option linter.unusedSimpArgs false
set_option linter.unusedVariables false
set_option maxHeartbeats 4000000
set_option maxRecDepth 100000
namespace Go.Proofs.Ytdngjamjccjlmaa
open Go Go.Ab
open Nat renaming reduceEqDiff -> yA, reduceAdd -> yB, reduceLT -> yC, reduceLeDiff -> yD, reduceMul -> yE, reducePow -> yF, reduceBEq -> yG
open Int renaming reduceAdd -> yH, reduceLT -> yI, reduceToNat -> yJ, reduceBEq -> yK, reduceBNe -> yL, reduceLE -> yM
attribute [local irreducible] zA0 zAA zAa zAi zAj GoIf GoGb zAk GoO GoD GoX GoDX GoG GoDG GoGv zAl Go zAB
theorem zg0(S:St):(S.map embW).take S.length=S.map embW:=by rw[List.take_of_length_le (by simp)]
def CRa:Cfg:= {C with inpl:=fun d=>d==30}
theorem zdi:zAb Try.prog CRa:=C_ok
theorem zdj(t:Nat):CRa.ty t=C.ty t:=rfl
theorem zdh(t:Nat):CRa.inpl t=(t==30):=rfl
section
variable {F : List AObj} {s r v : Nat} {S : St} {lim cnt : Int}
theorem zfS(hs:s<F.length)(hr:r<F.length)(hne:r≠s)(d:Nd)(hd:d.link=none)(lk:Int)(hl:¬cnt≥lim)(hL:S.length<=1000000)(hc:0<=cnt/\cnt<=1000000):
 zAd Try.prog 137 [.bptr s 0,.agg [.int .i64 d.kind,.int .i64 (kA d),.int .i64 (kB d),.int .i64 d.level,.int .i64 lk]] (hpR F s r v S lim cnt) (.tup [.int .i64 S.length,.int .i64 0]) (hpR F s r (v+1) (S++ [d]) lim (cnt+1)):=by
 have w1:IntKind.wrap .i64 (cnt+1)=cnt+1:=zbT (by omega) (by omega)
 have w2:IntKind.wrap .i64 (((S.length+1:Nat):Int)-1)=(S.length:Int):=by rw[zbT (by omega) (by omega)];omega
 have b1:(S.length+1<=9223372036854775807)=True:=by simp only[YAb,iff_true];omega
 have b2:((S.length+1)*40<=140737488355328)=True:=by simp only[YAb,iff_true];omega
 unfold zAd
 refine zBN zdi Try.func137 rfl (by decide) (YAL rfl) (by decide) fun ok=> ?_
 rw[Try.results137]
 have h:=YAN
 repeat' (first
  |(with_reducible first|apply bA|apply bB|apply bC|apply bD|apply bE|apply bF)<;>intro h
  |refine zKh (id:=1) zdi (fun _=>trivial) mixed 0 Try.f137.ntmps (by first|(simp;done)|(simp;omega)) rfl (by kernel_rfl) (by decide) ?_
  |refine zKh (id:=5) zdi (fun _=>trivial) mixed 0 Try.f137.ntmps (by first|(simp;done)|(simp;omega)) rfl (by kernel_rfl) (by decide) ?_
  |skip)<;>simp only[h,↓zaL,↓zHC,WY,reduceIte,yA,yB,yC,yD,reduceCtorEq,yE,yF,W1,WS,zdj,zdh,hpR,bxR,arR,stP hs hr hne,zTh,zTg,AV.bel,ze0,yG,hl,zeI,zeJ,zg0,w1,w2,b1,b2,isMs,zWF,AV.belL]
 exact⟨fun _=>by simpa using hr,by simp[embW,hd,lnk]⟩
theorem zfR(hs:s<F.length)(hr:r<F.length)(hne:r≠s)(x0 x1 x2 x3 x4:Int)(hl:cnt≥lim):
 zAd Try.prog 137 [.bptr s 0,.agg [.int .i64 x0,.int .i64 x1,.int .i64 x2,.int .i64 x3,.int .i64 x4]] (hpR F s r v S lim cnt) (.tup [.int .i64 0,.int .i64 7]) (hpR F s r v S lim cnt):=by
 unfold zAd
 refine zBN zdi Try.func137 rfl (by decide) (YAL rfl) (by decide) fun ok=> ?_
 rw[Try.results137]
 have h:=YAN
 repeat' (first
  |(with_reducible first|apply bA|apply bB|apply bC|apply bD|apply bE|apply bF)<;>intro h
  |refine zKh (id:=1) zdi (fun _=>trivial) mixed 0 Try.f137.ntmps (by first|(simp;done)|(simp;omega)) rfl (by kernel_rfl) (by decide) ?_
  |refine zKh (id:=5) zdi (fun _=>trivial) mixed 0 Try.f137.ntmps (by first|(simp;done)|(simp;omega)) rfl (by kernel_rfl) (by decide) ?_
  |skip)<;>simp only[h,↓zaL,↓zHC,WY,reduceIte,yA,yB,yC,yD,reduceCtorEq,yE,yF,W1,WS,zdj,zdh,hpR,bxR,arR,stP hs hr hne,zTh,zTg,AV.bel,ze0,yG,hl,AV.belL]
theorem zga(hs:s<F.length)(hr:r<F.length)(hne:r≠s)(lv:Int)(h:¬lv<0)(hl:cnt≥lim):zAd Try.prog 99 [.bptr s 0,.int .i64 lv] (hpR F s r v S lim cnt) (.tup [.int .i64 0,.int .i64 7]) (hpR F s r v S lim cnt):=by
 have q:=zfR (v:=v) (S:=S) hs hr hne 6 0 0 lv 0 hl
 unfold zAd
 refine zBN C_ok Try.func99 rfl (by decide) (YAL rfl) (by decide) fun ok=> ?_
 rw[Try.results99]
 repeat' first
  |(with_reducible first|apply bA|apply bB|apply bC|apply bD|apply bE|apply bF)<;>intro h<;>try simp only[h,↓zaL,↓zHC,WY,reduceIte,yA,yB,yC,yD,reduceCtorEq,yE,yF,W1,WS,hpR,bxR,arR,stP hs hr hne,zTh,zTg,AV.bel,ze0,h,AV.belL]
  |((first|apply bG|apply bH);simp only[AV.norm,AV.zQg,W2,hpR,bxR,arR,stP hs hr hne,zTh,zTg,AV.bel,ze0,h,AV.belL];first|refine zIB (q) (.inl rfl) ?_)
  |simp only[↓zaL,↓zHC,WY,reduceIte,yA,yB,yC,yD,reduceCtorEq,yE,yF,W1,WS,hpR,bxR,arR,stP hs hr hne,zTh,zTg,AV.bel,ze0,h,AV.belL]
theorem zgb(hs:s<F.length)(hr:r<F.length)(hne:r≠s)(lv:Int)(h:¬lv<0)(hl:¬cnt≥lim)(hL:S.length<=1000000)(hc:0<=cnt/\cnt<=1000000):zAd Try.prog 99 [.bptr s 0,.int .i64 lv] (hpR F s r v S lim cnt) (.tup [.int .i64 S.length,.int .i64 0]) (hpR F s r (v+1) (S++ [⟨6,lv,none,[]⟩]) lim (cnt+1)):=by
 have q:=zfS (v:=v) (S:=S) hs hr hne ⟨6,lv,none,[]⟩ rfl 0 hl hL hc
 unfold zAd
 refine zBN C_ok Try.func99 rfl (by decide) (YAL rfl) (by decide) fun ok=> ?_
 rw[Try.results99]
 repeat' first
  |(with_reducible first|apply bA|apply bB|apply bC|apply bD|apply bE|apply bF)<;>intro h<;>try simp only[h,↓zaL,↓zHC,WY,reduceIte,yA,yB,yC,yD,reduceCtorEq,yE,yF,W1,WS,hpR,bxR,arR,stP hs hr hne,zTh,zTg,AV.bel,ze0,h,AV.belL]
  |((first|apply bG|apply bH);simp only[AV.norm,AV.zQg,W2,hpR,bxR,arR,stP hs hr hne,zTh,zTg,AV.bel,ze0,h,AV.belL];first|refine zIA (q) (.inl rfl) (fun hb=>zeT (by first|exact hs|simp<;>omega) (by first|exact hr|simp<;>omega) hne hb) ?_)
  |simp only[↓zaL,↓zHC,WY,reduceIte,yA,yB,yC,yD,reduceCtorEq,yE,yF,W1,WS,hpR,bxR,arR,stP hs hr hne,zTh,zTg,AV.bel,ze0,h,AV.belL]
theorem zf5(hs:s<F.length)(hr:r<F.length)(hne:r≠s)(kd:Int)(a b:Nat)(hk:kd=7\/kd=9)(ha:a<S.length)(hb':b<S.length)(hl:¬cnt≥lim)(hL:S.length<=1000000)(hc':0<=cnt/\cnt<=1000000):
 zAd Try.prog 100 [.bptr s 0,.int .i64 kd,.int .i64 a,.int .i64 b] (hpR F s r v S lim cnt) (.tup [.int .i64 S.length,.int .i64 0]) (hpR F s r (v+1) (S++ [⟨kd,0,none,[a,b]⟩]) lim (cnt+1)):=by
 have q:=zfS (v:=v) (S:=S) hs hr hne ⟨kd,0,none,[a,b]⟩ rfl 0 hl hL hc'
 simp only[kA,kB,List.headD_cons,List.getD_cons_succ,List.getD_cons_zero]at q
 have i1:=zfl (v:=v) (S:=S) (lim:=lim) (cnt:=cnt) hs hr hne ha
 have i2:=zfl (v:=v) (S:=S) (lim:=lim) (cnt:=cnt) hs hr hne hb'
 unfold zAd
 rcases hk with rfl|rfl
 ·refine zBN C_ok Try.func100 rfl (by decide) (YAL rfl) (by decide) fun ok=> ?_
  rw[Try.results100]
  have h:=YAN
  repeat' (first
   |(with_reducible first|apply bA|apply bB|apply bC|apply bD|apply bE|apply bF)<;>intro h
   |((first|apply bG|apply bH);simp only[AV.norm,AV.zQg,W2,W3,yH,yI,yJ,yK,yL,yM,hpR,bxR,arR,stP hs hr hne,zTh,zTg,AV.bel,ze0,AV.belL];first|refine zIB (i1) (.inl rfl) ?_|refine zIB (i2) (.inl rfl) ?_|refine zIA (q) (.inl rfl) (fun hb=>zeT (by first|exact hs|simp<;>omega) (by first|exact hr|simp<;>omega) hne hb) ?_)
   |refine zJ9 ?_ C_ok Try.f100.ntmps rfl (by decide)
   |skip)<;>simp only[h,↓zaL,↓zHC,WY,reduceIte,yA,yB,yC,yD,reduceCtorEq,yE,yF,W1,WS,W3,yH,yI,yJ,yK,yL,yM,hpR,bxR,arR,stP hs hr hne,zTh,zTg,AV.bel,ze0,AV.belL,zFY]
 ·refine zBN C_ok Try.func100 rfl (by decide) (YAL rfl) (by decide) fun ok=> ?_
  rw[Try.results100]
  have h:=YAN
  repeat' (first
   |(with_reducible first|apply bA|apply bB|apply bC|apply bD|apply bE|apply bF)<;>intro h
   |((first|apply bG|apply bH);simp only[AV.norm,AV.zQg,W2,W3,yH,yI,yJ,yK,yL,yM,hpR,bxR,arR,stP hs hr hne,zTh,zTg,AV.bel,ze0,AV.belL];first|refine zIB (i1) (.inl rfl) ?_|refine zIB (i2) (.inl rfl) ?_|refine zIA (q) (.inl rfl) (fun hb=>zeT (by first|exact hs|simp<;>omega) (by first|exact hr|simp<;>omega) hne hb) ?_)
   |refine zJ9 ?_ C_ok Try.f100.ntmps rfl (by decide)
   |skip)<;>simp only[h,↓zaL,↓zHC,WY,reduceIte,yA,yB,yC,yD,reduceCtorEq,yE,yF,W1,WS,W3,yH,yI,yJ,yK,yL,yM,hpR,bxR,arR,stP hs hr hne,zTh,zTg,AV.bel,ze0,AV.belL,zFY]
theorem zf3(hs:s<F.length)(hr:r<F.length)(hne:r≠s)(a:Nat)(b:Int)(ha:a<S.length)(hl:¬cnt≥lim)(hL:S.length<=1000000)(hc':0<=cnt/\cnt<=1000000):
 zAd Try.prog 100 [.bptr s 0,.int .i64 8,.int .i64 a,.int .i64 b] (hpR F s r v S lim cnt) (.tup [.int .i64 S.length,.int .i64 0]) (hpR F s r (v+1) (S++ [⟨8,0,none,[a]⟩]) lim (cnt+1)):=by
 have q:=zfS (v:=v) (S:=S) hs hr hne ⟨8,0,none,[a]⟩ rfl 0 hl hL hc'
 simp only[kA,kB,List.headD_cons,List.getD_cons_succ,List.getD_nil]at q
 have i1:=zfl (v:=v) (S:=S) (lim:=lim) (cnt:=cnt) hs hr hne ha
 unfold zAd
 refine zBN C_ok Try.func100 rfl (by decide) (YAL rfl) (by decide) fun ok=> ?_
 rw[Try.results100]
 have h:=YAN
 repeat' (first
  |(with_reducible first|apply bA|apply bB|apply bC|apply bD|apply bE|apply bF)<;>intro h
  |((first|apply bG|apply bH);simp only[AV.norm,AV.zQg,W2,W3,yH,yI,yJ,yK,yL,yM,hpR,bxR,arR,stP hs hr hne,zTh,zTg,AV.bel,ze0,AV.belL];first|refine zIB (i1) (.inl rfl) ?_|refine zIA (q) (.inl rfl) (fun hb=>zeT (by first|exact hs|simp<;>omega) (by first|exact hr|simp<;>omega) hne hb) ?_)
  |refine zJ9 ?_ C_ok Try.f100.ntmps rfl (by decide)
  |skip)<;>simp only[h,↓zaL,↓zHC,WY,reduceIte,yA,yB,yC,yD,reduceCtorEq,yE,yF,W1,WS,W3,yH,yI,yJ,yK,yL,yM,hpR,bxR,arR,stP hs hr hne,zTh,zTg,AV.bel,ze0,AV.belL,zFY]
theorem zf2(hs:s<F.length)(hr:r<F.length)(hne:r≠s)(kd:Int)(a b:Nat)(hk:kd=7\/kd=9)(ha:a<S.length)(hb':b<S.length)(hl:cnt≥lim):
 zAd Try.prog 100 [.bptr s 0,.int .i64 kd,.int .i64 a,.int .i64 b] (hpR F s r v S lim cnt) (.tup [.int .i64 0,.int .i64 7]) (hpR F s r v S lim cnt):=by
 have q:=zfR (v:=v) (S:=S) hs hr hne kd a b 0 0 hl
 have i1:=zfl (v:=v) (S:=S) (lim:=lim) (cnt:=cnt) hs hr hne ha
 have i2:=zfl (v:=v) (S:=S) (lim:=lim) (cnt:=cnt) hs hr hne hb'
 unfold zAd
 rcases hk with rfl|rfl
 ·refine zBN C_ok Try.func100 rfl (by decide) (YAL rfl) (by decide) fun ok=> ?_
  rw[Try.results100]
  have h:=YAN
  repeat' (first
   |(with_reducible first|apply bA|apply bB|apply bC|apply bD|apply bE|apply bF)<;>intro h
   |((first|apply bG|apply bH);simp only[AV.norm,AV.zQg,W2,W3,yH,yI,yJ,yK,yL,yM,hpR,bxR,arR,stP hs hr hne,zTh,zTg,AV.bel,ze0,AV.belL];first|refine zIB (i1) (.inl rfl) ?_|refine zIB (i2) (.inl rfl) ?_|refine zIB (q) (.inl rfl) ?_)
   |refine zJ9 ?_ C_ok Try.f100.ntmps rfl (by decide)
   |skip)<;>simp only[h,↓zaL,↓zHC,WY,reduceIte,yA,yB,yC,yD,reduceCtorEq,yE,yF,W1,WS,W3,yH,yI,yJ,yK,yL,yM,hpR,bxR,arR,stP hs hr hne,zTh,zTg,AV.bel,ze0,AV.belL,zFY]
 ·refine zBN C_ok Try.func100 rfl (by decide) (YAL rfl) (by decide) fun ok=> ?_
  rw[Try.results100]
  have h:=YAN
  repeat' (first
   |(with_reducible first|apply bA|apply bB|apply bC|apply bD|apply bE|apply bF)<;>intro h
   |((first|apply bG|apply bH);simp only[AV.norm,AV.zQg,W2,W3,yH,yI,yJ,yK,yL,yM,hpR,bxR,arR,stP hs hr hne,zTh,zTg,AV.bel,ze0,AV.belL];first|refine zIB (i1) (.inl rfl) ?_|refine zIB (i2) (.inl rfl) ?_|refine zIB (q) (.inl rfl) ?_)
   |refine zJ9 ?_ C_ok Try.f100.ntmps rfl (by decide)
   |skip)<;>simp only[h,↓zaL,↓zHC,WY,reduceIte,yA,yB,yC,yD,reduceCtorEq,yE,yF,W1,WS,W3,yH,yI,yJ,yK,yL,yM,hpR,bxR,arR,stP hs hr hne,zTh,zTg,AV.bel,ze0,AV.belL,zFY]
theorem zf4(hs:s<F.length)(hr:r<F.length)(hne:r≠s)(a:Nat)(b:Int)(ha:a<S.length)(hl:cnt≥lim):
 zAd Try.prog 100 [.bptr s 0,.int .i64 8,.int .i64 a,.int .i64 b] (hpR F s r v S lim cnt) (.tup [.int .i64 0,.int .i64 7]) (hpR F s r v S lim cnt):=by
 have q:=zfR (v:=v) (S:=S) hs hr hne 8 a a 0 0 hl
 have i1:=zfl (v:=v) (S:=S) (lim:=lim) (cnt:=cnt) hs hr hne ha
 unfold zAd
 refine zBN C_ok Try.func100 rfl (by decide) (YAL rfl) (by decide) fun ok=> ?_
 rw[Try.results100]
 have h:=YAN
 repeat' (first
  |(with_reducible first|apply bA|apply bB|apply bC|apply bD|apply bE|apply bF)<;>intro h
  |((first|apply bG|apply bH);simp only[AV.norm,AV.zQg,W2,W3,yH,yI,yJ,yK,yL,yM,hpR,bxR,arR,stP hs hr hne,zTh,zTg,AV.bel,ze0,AV.belL];first|refine zIB (i1) (.inl rfl) ?_|refine zIB (q) (.inl rfl) ?_)
  |refine zJ9 ?_ C_ok Try.f100.ntmps rfl (by decide)
  |skip)<;>simp only[h,↓zaL,↓zHC,WY,reduceIte,yA,yB,yC,yD,reduceCtorEq,yE,yF,W1,WS,W3,yH,yI,yJ,yK,yL,yM,hpR,bxR,arR,stP hs hr hne,zTh,zTg,AV.bel,ze0,AV.belL,zFY]
end
end Go.Proofs.Ytdngjamjccjlmaa
