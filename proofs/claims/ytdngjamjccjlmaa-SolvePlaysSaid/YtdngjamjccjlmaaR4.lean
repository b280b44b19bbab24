/- The document's store, walked: all within a node, variables, lowering. No condition. -/
import Derived.Test.YtdngjamjccjlmaaR3
import Derived.Test.YtdngjamjccjlmaaPWb
import Derived.Test.YtdngjamjccjlmaaPVa
set_option linter.unusedSimpArgs false
set_option linter.unusedVariables false
set_option maxHeartbeats 4000000
set_option maxRecDepth 100000
namespace Go.Proofs.Ytdngjamjccjlmaa
open Go Go.Ab
open Nat renaming reduceEqDiff -> yA, reduceAdd -> yB, reduceLT -> yC, reduceLeDiff -> yD, reduceMul -> yE, reducePow -> yF, reduceBEq -> yG
open Int renaming reduceAdd -> yH, reduceLT -> yI, reduceToNat -> yJ, reduceBEq -> yK, reduceBNe -> yL, reduceLE -> yM
attribute [local irreducible] zA0 zAA zAa zAi zAj GoIf GoGb zAk GoO GoD GoX GoDX GoG GoDG GoGv zAl Go zAB
theorem zd2{S:St}(hw:Wf S){n:Nat}(hn:n<S.length):(S.all n).length<=S.length:=by
 have h:=hw.zQc (n:=n) hn
 have hsub:S.all n ⊆ List.range S.length:=fun x hx=>by
  rw[List.mem_range]
  exact((hw.zPE hn).1 hx).lt hw hn
 have:=h.length_le_of_subset hsub
 simpa using this
def CRl:Cfg:= {C with inpl:=fun d=>d==16,rdr:=fun f=>CR.rdr f||f==118}
theorem zdl:zAb Try.prog CRl:=C_ok
theorem zdm(t:Nat):CRl.ty t=C.ty t:=rfl
theorem zdk(t:Nat):CRl.inpl t=(t==16):=rfl
section
variable {F : List AObj} {s r v : Nat} {S : St} {lim cnt : Int}
theorem zg2(hs:s<F.length)(hr:r<F.length)(hne:r≠s)(X y bx ar:AObj)(J:List AObj):tri (stF (F++ [X]) s r bx ar++J) s r F.length bx ar y=stF (F++(y::J)) s r bx ar:=by
 unfold tri
 rw[zW9 (zN3 hs) (zN3 hr),zXG (by omega) (by omega),List.append_assoc,zCX rfl,zXD hne]
 rfl
theorem zfU(hs:s<F.length)(hr:r<F.length)(hne:r≠s)(hw:Wf S)(hL:S.length<=1000000)(n:Nat)(hn:n<S.length):
 zAd Try.prog 118 [.bptr s 0,.int .i64 n] (hpR F s r v S lim cnt) (.sl ((kidI (S.all n)).map I64) .no) (hpR F s r v S lim cnt):=by
 have hi:=zfl (v:=v) (S:=S) (lim:=lim) (cnt:=cnt) hs hr hne hn
 have hlk:=zfV (s:=s) (r:=r) (q:=F.length) (v:=v) (lim:=lim) (cnt:=cnt) hw ⟨fun e=>hne e.symm,by omega,by omega⟩ n hn (stF (F++ [snO S []]) s r (bxR r v S.length lim cnt) (arR v S)) [] (.sl [] .full)
  ⟨_,zXF (zN3 hs) hne,fun m=>by simp[bxR]⟩ ⟨_,zXE (zN3 hr),fun m=>by simp[arR]⟩ ⟨snO S [],by rw[zXC (by omega) (by omega),zCT rfl];rfl,fun m=>by simp[snO]⟩ (.inl ⟨rfl,rfl⟩) (Nat.le_trans (zd2 hw hn) hL)
 have hB:tR (stF (F++ [snO S []]) s r (bxR r v S.length lim cnt) (arR v S)) s r F.length v S lim cnt []=stF (F++ [snO S []]) s r (bxR r v S.length lim cnt) (arR v S):=by
  have:=zg2 hs hr hne (snO S []) (snO S []) (bxR r v S.length lim cnt) (arR v S) []
  rw[List.append_nil]at this
  exact this
 rw[hB]at hlk
 have e0:snO S []= .arr 0 1 (List.replicate S.length (.bool false)):=by rw[snO,zgq]
 have b1:((S.length:Int)<=140737488355328)=True:=by simp only[YAb,iff_true];omega
 have b2:((0:Int)<=(S.length:Int))=True:=by simp
 unfold zAd
 refine zBN zdl Try.func118 rfl (by decide) (YAL rfl) (by decide) fun ok=> ?_
 rw[Try.results118]
 have h:=YAN
 repeat' (first
  |(with_reducible first|apply bA|apply bB|apply bC|apply bD|apply bE|apply bF)<;>intro h
  |((first|apply bG|apply bH);simp only[AV.norm,AV.zQg,W2,zdm,zdk,yG,hpR,bxR,arR,stP hs hr hne,zTh,zTg,AV.bel,ze0,b1,b2,Int.mul_one,Int.toNat_natCast];first|refine zIB (hi) (.inl rfl) ?_)
  |skip)<;>simp only[h,↓zaL,↓zHC,WY,reduceIte,yA,yB,yC,yD,reduceCtorEq,yE,yF,W1,WS,zdm,zdk,yG,hpR,bxR,arR,stP hs hr hne,zTh,zTg,AV.bel,ze0,b1,b2,Int.mul_one,Int.toNat_natCast]
 refine⟨by omega,?_⟩
 rw[e0]at hlk
 unfold bxR arR at hlk
 refine fsCall hlk (.inl rfl) fun x G hG hlen=> ?_
 obtain⟨F',rfl,hx⟩:=hG
 obtain⟨hxn,J,rfl⟩:=hx.out
 rw[zLz]at hxn
 have hG:tR (stF (F++ [.arr 0 1 (List.replicate S.length (.bool false))]) s r (.box [.int .i64 lim,.int .i64 cnt,.ms r v S.length]) (.arr v 5 (S.map embW))++J) s r F.length v S lim cnt (S.look n [])=stF (F++(snO S (S.look n [])::J)) s r (.box [.int .i64 lim,.int .i64 cnt,.ms r v S.length]) (.arr v 5 (S.map embW)):=
  zg2 hs hr hne _ _ _ _ J
 rw[hG]
 refine⟨fun hbel=> ?_,?_⟩
 ·rw[zXK hs hr]at hbel⊢
  exact hbel
 ·simp only[↓zaL,↓zHC,WY,reduceIte,yA,yB,yC,yD,reduceCtorEq,yE,yF,W1,WS,zdm,zdk,hpR,bxR,arR,stP hs hr hne,zTh,zTg,AV.bel,ze0,hxn,zLy]
  rfl
theorem zfW(hs:s<F.length)(hr:r<F.length)(hne:r≠s)(n:Int)(hn:n<0\/(S.length:Int)<=n):zAd Try.prog 118 [.bptr s 0,.int .i64 n] (hpR F s r v S lim cnt) (.sl [] .no) (hpR F s r v S lim cnt):=by
 have hi:=zfj (v:=v) (S:=S) (lim:=lim) (cnt:=cnt) hs hr hne hn
 unfold zAd
 refine zBN zdl Try.func118 rfl (by decide) (YAL rfl) (by decide) fun ok=> ?_
 rw[Try.results118]
 have h:=YAN
 repeat' (first
  |(with_reducible first|apply bA|apply bB|apply bC|apply bD|apply bE|apply bF)<;>intro h
  |((first|apply bG|apply bH);simp only[AV.norm,AV.zQg,W2,zdm,zdk,yG,hpR,bxR,arR,stP hs hr hne,zTh,zTg,AV.bel,ze0,AV.belL];first|refine zIB (hi) (.inl rfl) ?_)
  |skip)<;>simp only[h,↓zaL,↓zHC,WY,reduceIte,yA,yB,yC,yD,reduceCtorEq,yE,yF,W1,WS,zdm,zdk,yG,hpR,bxR,arR,stP hs hr hne,zTh,zTg,AV.bel,ze0,AV.belL]
theorem zge(hs:s<F.length)(hr:r<F.length)(hne:r≠s)(hw:Wf S)(hL:S.length<=1000000)(a n:Nat)(ha:a<S.length)(hn:n<S.length):
 zAd Try.prog 55 [.bptr s 0,.int .i64 a,.int .i64 n] (hpR F s r v S lim cnt) (.bool (decide (S.root a∈S.all n))) (hpR F s r v S lim cnt):=by
 have q1:=zfl (v:=v) (S:=S) (lim:=lim) (cnt:=cnt) hs hr hne ha
 have q3:=zfU (v:=v) (lim:=lim) (cnt:=cnt) hs hr hne hw hL n hn
 have q4:=zgO (v:=v) (lim:=lim) (cnt:=cnt) hs hr hne hw a ha
 have q5:=zLc (kidI (S.all n)) (S.root a)
 rw[show decide ((S.root a:Int)∈kidI (S.all n))=decide (S.root a∈S.all n)by rw[decide_eq_decide];exact zPF]at q5
 unfold zAd
 refine zBN C_ok Try.func55 rfl (by decide) (YAL rfl) (by decide) fun ok=> ?_
 rw[Try.results55]
 have h:=YAN
 repeat' (first
  |(with_reducible first|apply bA|apply bB|apply bC|apply bD|apply bE|apply bF)<;>intro h
  |((first|apply bG|apply bH);simp only[AV.norm,AV.zQg,W2,hpR,bxR,arR,stP hs hr hne,zTh,zTg,AV.bel,ze0,zLz];first|refine zIf (q5) (.inl rfl) ?_|refine zIj (q5) (.inl rfl) ?_|refine zIB (q1) (.inl rfl) ?_|refine zIB (q3) (.inl rfl) ?_|refine zIB (q4) (.inl rfl) ?_)
  |skip)<;>simp only[h,↓zaL,↓zHC,WY,reduceIte,yA,yB,yC,yD,reduceCtorEq,yE,yF,W1,WS,hpR,bxR,arR,stP hs hr hne,zTh,zTg,AV.bel,ze0,zLz]
theorem zgU(hs:s<F.length)(hr:r<F.length)(hne:r≠s)(hw:Wf S)(hL:S.length<=1000000)(n:Nat)(hn:n<S.length):
 zAd Try.prog 111 [.bptr s 0,.int .i64 n] (hpR F s r v S lim cnt) (.bool (decide (4 ∉ S.all n))) (hpR F s r v S lim cnt):=by
 have q1:=zfl (v:=v) (S:=S) (lim:=lim) (cnt:=cnt) hs hr hne hn
 have q3:=zfU (v:=v) (lim:=lim) (cnt:=cnt) hs hr hne hw hL n hn
 have q5:=zLc (kidI (S.all n)) 4
 rw[show decide ((4:Int)∈kidI (S.all n))=decide (4∈S.all n)by rw[decide_eq_decide];exact zPF (n:=4)]at q5
 have e:(!decide (4∈S.all n))=decide (4 ∉ S.all n):=by simp
 unfold zAd
 refine zBN C_ok Try.func111 rfl (by decide) (YAL rfl) (by decide) fun ok=> ?_
 rw[Try.results111]
 have h:=YAN
 repeat' (first
  |(with_reducible first|apply bA|apply bB|apply bC|apply bD|apply bE|apply bF)<;>intro h
  |((first|apply bG|apply bH);simp only[AV.norm,AV.zQg,W2,hpR,bxR,arR,stP hs hr hne,zTh,zTg,AV.bel,ze0,zLz,e];first|refine zIf (q5) (.inl rfl) ?_|refine zIj (q5) (.inl rfl) ?_|refine zIB (q1) (.inl rfl) ?_|refine zIB (q3) (.inl rfl) ?_)
  |skip)<;>simp only[h,↓zaL,↓zHC,WY,reduceIte,yA,yB,yC,yD,reduceCtorEq,yE,yF,W1,WS,hpR,bxR,arR,stP hs hr hne,zTh,zTg,AV.bel,ze0,zLz,e]
theorem zgV(hs:s<F.length)(hr:r<F.length)(hne:r≠s)(n:Int)(hn:n<0\/(S.length:Int)<=n):zAd Try.prog 111 [.bptr s 0,.int .i64 n] (hpR F s r v S lim cnt) (.bool false) (hpR F s r v S lim cnt):=by
 have hi:=zfj (v:=v) (S:=S) (lim:=lim) (cnt:=cnt) hs hr hne hn
 unfold zAd
 refine zBN C_ok Try.func111 rfl (by decide) (YAL rfl) (by decide) fun ok=> ?_
 rw[Try.results111]
 have h:=YAN
 repeat' (first
  |(with_reducible first|apply bA|apply bB|apply bC|apply bD|apply bE|apply bF)<;>intro h
  |((first|apply bG|apply bH);simp only[AV.norm,AV.zQg,W2,hpR,bxR,arR,stP hs hr hne,zTh,zTg,AV.bel,ze0];first|refine zIB (hi) (.inl rfl) ?_)
  |skip)<;>simp only[h,↓zaL,↓zHC,WY,reduceIte,yA,yB,yC,yD,reduceCtorEq,yE,yF,W1,WS,hpR,bxR,arR,stP hs hr hne,zTh,zTg,AV.bel,ze0]
theorem zgd(hs:s<F.length)(hr:r<F.length)(hne:r≠s)(n:Int)(hn:n<0\/(S.length:Int)<=n):zAd Try.prog 110 [.bptr s 0,.int .i64 n] (hpR F s r v S lim cnt) (.sl [] .no) (hpR F s r v S lim cnt):=by
 have hi:=zfW (v:=v) (S:=S) (lim:=lim) (cnt:=cnt) hs hr hne n hn
 unfold zAd
 refine zBN C_ok Try.func110 rfl (by decide) (YAL rfl) (by decide) fun ok=> ?_
 rw[Try.results110]
 have h:=YAN
 repeat' (first
  |(with_reducible first|apply bA|apply bB|apply bC|apply bD|apply bE|apply bF)<;>intro h
  |((first|apply bG|apply bH);simp only[AV.norm,AV.zQg,W2,W3,yH,yI,yJ,yK,yL,yM,hpR,bxR,arR,stP hs hr hne,zTh,zTg,AV.bel,ze0,AV.belL,List.length_nil];first|refine zIB (hi) (.inl rfl) ?_)
  |refine zKh (id:=6) C_ok (fun _=>trivial) mixed 0 Try.f110.ntmps (by first|(simp;done)|(simp;omega)) rfl (by kernel_rfl) (by decide) ?_
  |refine zJ9 ?_ C_ok Try.f110.ntmps rfl (by decide)
  |skip)<;>simp only[h,↓zaL,↓zHC,WY,reduceIte,yA,yB,yC,yD,reduceCtorEq,yE,yF,W1,WS,W3,yH,yI,yJ,yK,yL,yM,hpR,bxR,arR,stP hs hr hne,zTh,zTg,AV.bel,ze0,AV.belL,List.length_nil,zFY]
end
end Go.Proofs.Ytdngjamjccjlmaa
