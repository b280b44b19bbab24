/- Layer 11: what is under what. No condition. -/
import Derived.Test.YtmpegnogdgbleaaUF
import Derived.Test.YtmpegnogdgbleaaEC
import Derived.Test.YtmpegnogdgbleaaPFa
set_option linter.unusedSimpArgs false
set_option linter.unusedVariables false
set_option maxHeartbeats 4000000
set_option maxRecDepth 100000
namespace Go.Proofs.Ytmpegnogdgbleaa
open Go Go.Ab
open Nat renaming reduceEqDiff -> yA, reduceAdd -> yB, reduceLT -> yC, reduceLeDiff -> yD, reduceMul -> yE, reducePow -> yF, reduceBEq -> yG
open Int renaming reduceAdd -> yH, reduceLT -> yI, reduceToNat -> yJ, reduceBEq -> yK, reduceBNe -> yL, reduceLE -> yM
attribute [local irreducible] zA0 zAA zAa zAi zAj GoIf GoGb zAk GoO GoD GoX GoDX GoG GoDG GoGv zAl Go zAB
theorem zk9(x y:T)(hx:x.ok=true)(hy:y.ok=true)(hs:x.size+y.size<=900000):∃r:Bool,(r=true ↔ UndT x y)/\zA0 Try.prog 16 [emb x.ty,emb y.ty] (.bool r):=by
 have h1:right x.ty=true:=by rw[T.zT5];exact hx
 have h2:right y.ty=true:=by rw[T.zT5];exact hy
 by_cases h:UndT x y
 ·exact⟨true,by simp[h],zjL x y h1 h2 hs (by simp[h])⟩
 ·exact⟨false,by simp[h],zjL x y h1 h2 hs (by simp[h])⟩
theorem zlH{x y:T}(hx:x.ok=true)(hy:y.ok=true)(hs:x.size+y.size<=900000)(h:UndT x y):zA0 Try.prog 16 [emb x.ty,emb y.ty] (.bool true):=
 zjL x y (by rw[T.zT5];exact hx) (by rw[T.zT5];exact hy) hs (by simp[h])
theorem zkU(t u:Ty)(l m:List Ty):zA0 Try.prog 7 [emb t,emb u,.sl (l.map emb) .no,.sl (m.map emb) .no] (.bool true):=by
 cases hv:small [t,u]with
 |false=>
  refine zSa C_ok Try.func7 rfl (by decide) (YAL rfl) (by decide) rfl fun ok H=> ?_
  rw[Try.results7]
  have h:=YAN
  repeat' (first
   |(with_reducible first|apply bA|apply bB|apply bC|apply bD|apply bE|apply bF)<;>intro h
   |((first|apply bG|apply bH);simp only[AV.norm,AV.zQg,W2,W2B,hv,hv,YAK];first|refine zIf (zj0 _ _) (.inl rfl) ?_|refine zIf (ziN _ _) (.inl rfl) ?_|refine zIf (zWQ _) (.inl rfl) ?_|refine zIf (zUa _) (.inl rfl) ?_|refine zIf (zHl _) (.inl rfl) ?_|refine zIj (zj0 _ _) (.inl rfl) ?_|refine zIj (ziN _ _) (.inl rfl) ?_|refine zIj (zWQ _) (.inl rfl) ?_|refine zIj (zUa _) (.inl rfl) ?_|refine zIj (zHl _) (.inl rfl) ?_)
   |refine zKg (id:=3) C_ok (fun _=>trivial) mixed 1 Try.f7.ntmps rfl (by kernel_rfl) (by decide) ?_
   |refine zKg (id:=4) C_ok (fun _=>trivial) mixed 1 Try.f7.ntmps rfl (by kernel_rfl) (by decide) ?_
   |refine zKg (id:=5) C_ok (fun _=>trivial) mixed 0 Try.f7.ntmps rfl (by kernel_rfl) (by decide) ?_
   |refine zKg (id:=9) C_ok (fun _=>trivial) mixed 0 Try.f7.ntmps rfl (by kernel_rfl) (by decide) ?_
   |skip)<;>simp only[h,↓zaL,↓zHC,WZ,reduceIte,yA,yB,yC,yD,reduceCtorEq,yE,yF,W1,W1B,hv,hv,YAK]
 |true=>
 have na:=zkd hv (t:=t) (by simp)
 have nb:=zkd hv (t:=u) (by simp)
 cases hw:few t u with
 |false=>
  refine zSa C_ok Try.func7 rfl (by decide) (YAL rfl) (by decide) rfl fun ok H=> ?_
  rw[Try.results7]
  have h:=YAN
  repeat' (first
   |(with_reducible first|apply bA|apply bB|apply bC|apply bD|apply bE|apply bF)<;>intro h
   |((first|apply bG|apply bH);simp only[AV.norm,AV.zQg,W2,W2B,hv,hw,YAK];first|refine zIf (zj0 _ _) (.inl rfl) ?_|refine zIf (ziN _ _) (.inl rfl) ?_|refine zIf (zWQ _) (.inl rfl) ?_|refine zIf (zUa _) (.inl rfl) ?_|refine zIf (zHl _) (.inl rfl) ?_|refine zIj (zj0 _ _) (.inl rfl) ?_|refine zIj (ziN _ _) (.inl rfl) ?_|refine zIj (zWQ _) (.inl rfl) ?_|refine zIj (zUa _) (.inl rfl) ?_|refine zIj (zHl _) (.inl rfl) ?_)
   |refine zKg (id:=3) C_ok (fun _=>trivial) mixed 1 Try.f7.ntmps rfl (by kernel_rfl) (by decide) ?_
   |refine zKg (id:=4) C_ok (fun _=>trivial) mixed 1 Try.f7.ntmps rfl (by kernel_rfl) (by decide) ?_
   |refine zKg (id:=5) C_ok (fun _=>trivial) mixed 0 Try.f7.ntmps rfl (by kernel_rfl) (by decide) ?_
   |refine zKg (id:=9) C_ok (fun _=>trivial) mixed 0 Try.f7.ntmps rfl (by kernel_rfl) (by decide) ?_
   |skip)<;>simp only[h,↓zaL,↓zHC,WZ,reduceIte,yA,yB,yC,yD,reduceCtorEq,yE,yF,W1,W1B,hv,hw,YAK]
 |true=>
 cases hs1:small l with
 |false=>
  refine zSa C_ok Try.func7 rfl (by decide) (YAL rfl) (by decide) rfl fun ok H=> ?_
  rw[Try.results7]
  have h:=YAN
  repeat' (first
   |(with_reducible first|apply bA|apply bB|apply bC|apply bD|apply bE|apply bF)<;>intro h
   |((first|apply bG|apply bH);simp only[AV.norm,AV.zQg,W2,W2B,hv,hw,hs1,YAK];first|refine zIf (zj0 _ _) (.inl rfl) ?_|refine zIf (ziN _ _) (.inl rfl) ?_|refine zIf (zWQ _) (.inl rfl) ?_|refine zIf (zUa _) (.inl rfl) ?_|refine zIf (zHl _) (.inl rfl) ?_|refine zIj (zj0 _ _) (.inl rfl) ?_|refine zIj (ziN _ _) (.inl rfl) ?_|refine zIj (zWQ _) (.inl rfl) ?_|refine zIj (zUa _) (.inl rfl) ?_|refine zIj (zHl _) (.inl rfl) ?_)
   |refine zKg (id:=3) C_ok (fun _=>trivial) mixed 1 Try.f7.ntmps rfl (by kernel_rfl) (by decide) ?_
   |refine zKg (id:=4) C_ok (fun _=>trivial) mixed 1 Try.f7.ntmps rfl (by kernel_rfl) (by decide) ?_
   |refine zKg (id:=5) C_ok (fun _=>trivial) mixed 0 Try.f7.ntmps rfl (by kernel_rfl) (by decide) ?_
   |refine zKg (id:=9) C_ok (fun _=>trivial) mixed 0 Try.f7.ntmps rfl (by kernel_rfl) (by decide) ?_
   |skip)<;>simp only[h,↓zaL,↓zHC,WZ,reduceIte,yA,yB,yC,yD,reduceCtorEq,yE,yF,W1,W1B,hv,hw,hs1,YAK]
 |true=>
 cases hs2:small m with
 |false=>
  refine zSa C_ok Try.func7 rfl (by decide) (YAL rfl) (by decide) rfl fun ok H=> ?_
  rw[Try.results7]
  have h:=YAN
  repeat' (first
   |(with_reducible first|apply bA|apply bB|apply bC|apply bD|apply bE|apply bF)<;>intro h
   |((first|apply bG|apply bH);simp only[AV.norm,AV.zQg,W2,W2B,hv,hw,hs1,hs2,YAK];first|refine zIf (zj0 _ _) (.inl rfl) ?_|refine zIf (ziN _ _) (.inl rfl) ?_|refine zIf (zWQ _) (.inl rfl) ?_|refine zIf (zUa _) (.inl rfl) ?_|refine zIf (zHl _) (.inl rfl) ?_|refine zIj (zj0 _ _) (.inl rfl) ?_|refine zIj (ziN _ _) (.inl rfl) ?_|refine zIj (zWQ _) (.inl rfl) ?_|refine zIj (zUa _) (.inl rfl) ?_|refine zIj (zHl _) (.inl rfl) ?_)
   |refine zKg (id:=3) C_ok (fun _=>trivial) mixed 1 Try.f7.ntmps rfl (by kernel_rfl) (by decide) ?_
   |refine zKg (id:=4) C_ok (fun _=>trivial) mixed 1 Try.f7.ntmps rfl (by kernel_rfl) (by decide) ?_
   |refine zKg (id:=5) C_ok (fun _=>trivial) mixed 0 Try.f7.ntmps rfl (by kernel_rfl) (by decide) ?_
   |refine zKg (id:=9) C_ok (fun _=>trivial) mixed 0 Try.f7.ntmps rfl (by kernel_rfl) (by decide) ?_
   |skip)<;>simp only[h,↓zaL,↓zHC,WZ,reduceIte,yA,yB,yC,yD,reduceCtorEq,yE,yF,W1,W1B,hv,hw,hs1,hs2,YAK]
 |true=>
 by_cases l1:20<l.length
 ·have hl1:((20:Int)<l.length)=True:=by simp only[YAb,iff_true];omega
  refine zSa C_ok Try.func7 rfl (by decide) (YAL rfl) (by decide) rfl fun ok H=> ?_
  rw[Try.results7]
  have h:=YAN
  repeat' (first
   |(with_reducible first|apply bA|apply bB|apply bC|apply bD|apply bE|apply bF)<;>intro h
   |((first|apply bG|apply bH);simp only[AV.norm,AV.zQg,W2,W2B,hv,hw,hs1,hs2,hl1,YAK];first|refine zIf (zj0 _ _) (.inl rfl) ?_|refine zIf (ziN _ _) (.inl rfl) ?_|refine zIf (zWQ _) (.inl rfl) ?_|refine zIf (zUa _) (.inl rfl) ?_|refine zIf (zHl _) (.inl rfl) ?_|refine zIj (zj0 _ _) (.inl rfl) ?_|refine zIj (ziN _ _) (.inl rfl) ?_|refine zIj (zWQ _) (.inl rfl) ?_|refine zIj (zUa _) (.inl rfl) ?_|refine zIj (zHl _) (.inl rfl) ?_)
   |refine zKg (id:=3) C_ok (fun _=>trivial) mixed 1 Try.f7.ntmps rfl (by kernel_rfl) (by decide) ?_
   |refine zKg (id:=4) C_ok (fun _=>trivial) mixed 1 Try.f7.ntmps rfl (by kernel_rfl) (by decide) ?_
   |refine zKg (id:=5) C_ok (fun _=>trivial) mixed 0 Try.f7.ntmps rfl (by kernel_rfl) (by decide) ?_
   |refine zKg (id:=9) C_ok (fun _=>trivial) mixed 0 Try.f7.ntmps rfl (by kernel_rfl) (by decide) ?_
   |skip)<;>simp only[h,↓zaL,↓zHC,WZ,reduceIte,yA,yB,yC,yD,reduceCtorEq,yE,yF,W1,W1B,hv,hw,hs1,hs2,hl1,YAK]
 have hl1:((20:Int)<l.length)=False:=by simp only[YAb,iff_false];omega
 by_cases l2:20<m.length
 ·have hl2:((20:Int)<m.length)=True:=by simp only[YAb,iff_true];omega
  refine zSa C_ok Try.func7 rfl (by decide) (YAL rfl) (by decide) rfl fun ok H=> ?_
  rw[Try.results7]
  have h:=YAN
  repeat' (first
   |(with_reducible first|apply bA|apply bB|apply bC|apply bD|apply bE|apply bF)<;>intro h
   |((first|apply bG|apply bH);simp only[AV.norm,AV.zQg,W2,W2B,hv,hw,hs1,hs2,hl1,hl2,YAK];first|refine zIf (zj0 _ _) (.inl rfl) ?_|refine zIf (ziN _ _) (.inl rfl) ?_|refine zIf (zWQ _) (.inl rfl) ?_|refine zIf (zUa _) (.inl rfl) ?_|refine zIf (zHl _) (.inl rfl) ?_|refine zIj (zj0 _ _) (.inl rfl) ?_|refine zIj (ziN _ _) (.inl rfl) ?_|refine zIj (zWQ _) (.inl rfl) ?_|refine zIj (zUa _) (.inl rfl) ?_|refine zIj (zHl _) (.inl rfl) ?_)
   |refine zKg (id:=3) C_ok (fun _=>trivial) mixed 1 Try.f7.ntmps rfl (by kernel_rfl) (by decide) ?_
   |refine zKg (id:=4) C_ok (fun _=>trivial) mixed 1 Try.f7.ntmps rfl (by kernel_rfl) (by decide) ?_
   |refine zKg (id:=5) C_ok (fun _=>trivial) mixed 0 Try.f7.ntmps rfl (by kernel_rfl) (by decide) ?_
   |refine zKg (id:=9) C_ok (fun _=>trivial) mixed 0 Try.f7.ntmps rfl (by kernel_rfl) (by decide) ?_
   |skip)<;>simp only[h,↓zaL,↓zHC,WZ,reduceIte,yA,yB,yC,yD,reduceCtorEq,yE,yF,W1,W1B,hv,hw,hs1,hs2,hl1,hl2,YAK]
 have hl2:((20:Int)<m.length)=False:=by simp only[YAb,iff_false];omega
 cases hf1:zHk l with
 |false=>
  refine zSa C_ok Try.func7 rfl (by decide) (YAL rfl) (by decide) rfl fun ok H=> ?_
  rw[Try.results7]
  have h:=YAN
  repeat' (first
   |(with_reducible first|apply bA|apply bB|apply bC|apply bD|apply bE|apply bF)<;>intro h
   |((first|apply bG|apply bH);simp only[AV.norm,AV.zQg,W2,W2B,hv,hw,hs1,hs2,hl1,hl2,hf1,YAK];first|refine zIf (zj0 _ _) (.inl rfl) ?_|refine zIf (ziN _ _) (.inl rfl) ?_|refine zIf (zWQ _) (.inl rfl) ?_|refine zIf (zUa _) (.inl rfl) ?_|refine zIf (zHl _) (.inl rfl) ?_|refine zIj (zj0 _ _) (.inl rfl) ?_|refine zIj (ziN _ _) (.inl rfl) ?_|refine zIj (zWQ _) (.inl rfl) ?_|refine zIj (zUa _) (.inl rfl) ?_|refine zIj (zHl _) (.inl rfl) ?_)
   |refine zKg (id:=3) C_ok (fun _=>trivial) mixed 1 Try.f7.ntmps rfl (by kernel_rfl) (by decide) ?_
   |refine zKg (id:=4) C_ok (fun _=>trivial) mixed 1 Try.f7.ntmps rfl (by kernel_rfl) (by decide) ?_
   |refine zKg (id:=5) C_ok (fun _=>trivial) mixed 0 Try.f7.ntmps rfl (by kernel_rfl) (by decide) ?_
   |refine zKg (id:=9) C_ok (fun _=>trivial) mixed 0 Try.f7.ntmps rfl (by kernel_rfl) (by decide) ?_
   |skip)<;>simp only[h,↓zaL,↓zHC,WZ,reduceIte,yA,yB,yC,yD,reduceCtorEq,yE,yF,W1,W1B,hv,hw,hs1,hs2,hl1,hl2,hf1,YAK]
 |true=>
 cases hf2:zHk m with
 |false=>
  refine zSa C_ok Try.func7 rfl (by decide) (YAL rfl) (by decide) rfl fun ok H=> ?_
  rw[Try.results7]
  have h:=YAN
  repeat' (first
   |(with_reducible first|apply bA|apply bB|apply bC|apply bD|apply bE|apply bF)<;>intro h
   |((first|apply bG|apply bH);simp only[AV.norm,AV.zQg,W2,W2B,hv,hw,hs1,hs2,hl1,hl2,hf1,hf2,YAK];first|refine zIf (zj0 _ _) (.inl rfl) ?_|refine zIf (ziN _ _) (.inl rfl) ?_|refine zIf (zWQ _) (.inl rfl) ?_|refine zIf (zUa _) (.inl rfl) ?_|refine zIf (zHl _) (.inl rfl) ?_|refine zIj (zj0 _ _) (.inl rfl) ?_|refine zIj (ziN _ _) (.inl rfl) ?_|refine zIj (zWQ _) (.inl rfl) ?_|refine zIj (zUa _) (.inl rfl) ?_|refine zIj (zHl _) (.inl rfl) ?_)
   |refine zKg (id:=3) C_ok (fun _=>trivial) mixed 1 Try.f7.ntmps rfl (by kernel_rfl) (by decide) ?_
   |refine zKg (id:=4) C_ok (fun _=>trivial) mixed 1 Try.f7.ntmps rfl (by kernel_rfl) (by decide) ?_
   |refine zKg (id:=5) C_ok (fun _=>trivial) mixed 0 Try.f7.ntmps rfl (by kernel_rfl) (by decide) ?_
   |refine zKg (id:=9) C_ok (fun _=>trivial) mixed 0 Try.f7.ntmps rfl (by kernel_rfl) (by decide) ?_
   |skip)<;>simp only[h,↓zaL,↓zHC,WZ,reduceIte,yA,yB,yC,yD,reduceCtorEq,yE,yF,W1,W1B,hv,hw,hs1,hs2,hl1,hl2,hf1,hf2,YAK]
 |true=>
 cases h0:right t with
 |false=>
  refine zSa C_ok Try.func7 rfl (by decide) (YAL rfl) (by decide) rfl fun ok H=> ?_
  rw[Try.results7]
  have h:=YAN
  repeat' (first
   |(with_reducible first|apply bA|apply bB|apply bC|apply bD|apply bE|apply bF)<;>intro h
   |((first|apply bG|apply bH);simp only[AV.norm,AV.zQg,W2,W2B,hv,hw,hs1,hs2,hl1,hl2,hf1,hf2,h0,YAK];first|refine zIf (zj0 _ _) (.inl rfl) ?_|refine zIf (ziN _ _) (.inl rfl) ?_|refine zIf (zWQ _) (.inl rfl) ?_|refine zIf (zUa _) (.inl rfl) ?_|refine zIf (zHl _) (.inl rfl) ?_|refine zIj (zj0 _ _) (.inl rfl) ?_|refine zIj (ziN _ _) (.inl rfl) ?_|refine zIj (zWQ _) (.inl rfl) ?_|refine zIj (zUa _) (.inl rfl) ?_|refine zIj (zHl _) (.inl rfl) ?_)
   |refine zKg (id:=3) C_ok (fun _=>trivial) mixed 1 Try.f7.ntmps rfl (by kernel_rfl) (by decide) ?_
   |refine zKg (id:=4) C_ok (fun _=>trivial) mixed 1 Try.f7.ntmps rfl (by kernel_rfl) (by decide) ?_
   |refine zKg (id:=5) C_ok (fun _=>trivial) mixed 0 Try.f7.ntmps rfl (by kernel_rfl) (by decide) ?_
   |refine zKg (id:=9) C_ok (fun _=>trivial) mixed 0 Try.f7.ntmps rfl (by kernel_rfl) (by decide) ?_
   |skip)<;>simp only[h,↓zaL,↓zHC,WZ,reduceIte,yA,yB,yC,yD,reduceCtorEq,yE,yF,W1,W1B,hv,hw,hs1,hs2,hl1,hl2,hf1,hf2,h0,YAK]
 |true=>
 cases h1:right u with
 |false=>
  refine zSa C_ok Try.func7 rfl (by decide) (YAL rfl) (by decide) rfl fun ok H=> ?_
  rw[Try.results7]
  have h:=YAN
  repeat' (first
   |(with_reducible first|apply bA|apply bB|apply bC|apply bD|apply bE|apply bF)<;>intro h
   |((first|apply bG|apply bH);simp only[AV.norm,AV.zQg,W2,W2B,hv,hw,hs1,hs2,hl1,hl2,hf1,hf2,h0,h1,YAK];first|refine zIf (zj0 _ _) (.inl rfl) ?_|refine zIf (ziN _ _) (.inl rfl) ?_|refine zIf (zWQ _) (.inl rfl) ?_|refine zIf (zUa _) (.inl rfl) ?_|refine zIf (zHl _) (.inl rfl) ?_|refine zIj (zj0 _ _) (.inl rfl) ?_|refine zIj (ziN _ _) (.inl rfl) ?_|refine zIj (zWQ _) (.inl rfl) ?_|refine zIj (zUa _) (.inl rfl) ?_|refine zIj (zHl _) (.inl rfl) ?_)
   |refine zKg (id:=3) C_ok (fun _=>trivial) mixed 1 Try.f7.ntmps rfl (by kernel_rfl) (by decide) ?_
   |refine zKg (id:=4) C_ok (fun _=>trivial) mixed 1 Try.f7.ntmps rfl (by kernel_rfl) (by decide) ?_
   |refine zKg (id:=5) C_ok (fun _=>trivial) mixed 0 Try.f7.ntmps rfl (by kernel_rfl) (by decide) ?_
   |refine zKg (id:=9) C_ok (fun _=>trivial) mixed 0 Try.f7.ntmps rfl (by kernel_rfl) (by decide) ?_
   |skip)<;>simp only[h,↓zaL,↓zHC,WZ,reduceIte,yA,yB,yC,yD,reduceCtorEq,yE,yF,W1,W1B,hv,hw,hs1,hs2,hl1,hl2,hf1,hf2,h0,h1,YAK]
 |true=>
 have r1:∀y∈l,right y=true:=by
  simp only[zHk,YAA]at hf1
  exact fun y hy=>zTw hf1.2 hy
 have r2:∀y∈m,right y=true:=by
  simp only[zHk,YAA]at hf2
  exact fun y hy=>zTw hf2.2 hy
 obtain⟨x,rfl,hx⟩:=T.zRB h0
 obtain⟨y,rfl,hy⟩:=T.zRB h1
 obtain⟨z1,z2⟩:=ziO hw
 have q0:=zEx x.ty l (by omega) (by omega) r1
 have q0':=zEx y.ty m (by omega) (by omega) r2
 rw[zab]at q0 q0'
 have q1:=zXx x.ty (zXW (x.zaU []) l true)
 rw[zXv,if_pos ⟨h0,zXY hx r1 true⟩,zX5]at q1
 have q1':=zXx y.ty (zXW (y.zaU []) m true)
 rw[zXv,if_pos ⟨h1,zXY hy r2 true⟩,zX5]at q1'
 have o1:=zh9 hx r1
 have o2:=zh9 hy r2
 have s1:=ziA hs1 r1 z1
 have s2:=ziA hs2 r2 z2
 have g1:∀k,x.has k=true->Gnd (sigB (zXW (x.zaU []) l true) k):=fun k hk=>zh8 l hk
 have g2:∀k,y.has k=true->Gnd (sigB (zXW (y.zaU []) m true) k):=fun k hk=>zh8 m hk
 generalize sigB (zXW (x.zaU []) l true)=σ at*
 generalize sigB (zXW (y.zaU []) m true)=τ at*
 generalize zXW (x.zaU []) l true=bs1 at*
 generalize zXW (y.zaU []) m true=bs2 at*
 have c1:(putS σ x).closed=true:=zkC x fun k hk=>(g1 k hk).2
 have c2:(putS τ y).closed=true:=zkC y fun k hk=>(g2 k hk).2
 have G1:∀k,Gnd (gndS σ x k):=fun k=>by
  unfold gndS;split
  ·exact g1 k (by assumption)
  ·exact⟨rfl,rfl⟩
 have G2:∀k,Gnd (gndS τ y k):=fun k=>by
  unfold gndS;split
  ·exact g2 k (by assumption)
  ·exact⟨rfl,rfl⟩
 have qb:=zj1 (putS σ x).ty (putS τ y).ty
 rw[T.zT5,T.zT5,o1,o2,T.zh2,Bool.true_and,Bool.true_and]at qb
 have u0:=zlH hx (y:= .dyn) rfl (by simp only[T.size];omega) (UndT.dyn x)
 have lf:=zM8 5
 have lfe:zM6 5=(T.dyn).ty:=rfl
 rw[lfe]at lf
 cases hb:zDd (putS σ x) (putS τ y)with
 |true=>
  rw[hb]at qb
  have u1:=zlH o1 o2 (by omega) ((zlA c1 c2).2 hb)
  have u2:=zlH hx hy (by omega) ⟨gndS σ x,gndS τ y,G1,G2,by rw[zie,zie];exact hb⟩
  have u3:=zlH o1 hy (by omega) ⟨gndS σ x,gndS τ y,G1,G2,by rw[zkD c1,zie];exact hb⟩
  have u4:=zlH hx o2 (by omega) ⟨gndS σ x,gndS τ y,G1,G2,by rw[zkD c2,zie];exact hb⟩
  clear na nb z1 z2 s1 s2 o1 o2 g1 g2 c1 c2 G1 G2 hb hx hy lfe r1 r2
  generalize (putS σ x).ty=S at*
  generalize (putS τ y).ty=U at*
  generalize x.ty=t at*
  generalize y.ty=u at*
  generalize T.dyn.ty=D at*
  refine zSa C_ok Try.func7 rfl (by decide) (YAL rfl) (by decide) rfl fun ok H=> ?_
  rw[Try.results7]
  have h:=YAN
  repeat' (first
   |(with_reducible first|apply bA|apply bB|apply bC|apply bD|apply bE|apply bF)<;>intro h
   |((first|apply bG|apply bH);simp only[AV.norm,AV.zQg,W2,W2B,hv,hw,hs1,hs2,hl1,hl2,hf1,hf2,h0,h1,YAK,zOZ,YAO];first|refine zIf (zj0 _ _) (.inl rfl) ?_|refine zIf (ziN _ _) (.inl rfl) ?_|refine zIf (zWQ _) (.inl rfl) ?_|refine zIf (zUa _) (.inl rfl) ?_|refine zIf (zHl _) (.inl rfl) ?_|refine zIf (q0) (.inl rfl) ?_|refine zIf (q0') (.inl rfl) ?_|refine zIf (q1) (.inl rfl) ?_|refine zIf (q1') (.inl rfl) ?_|refine zIf (qb) (.inl rfl) ?_|refine zIf (lf) (.inl rfl) ?_|refine zIf (u0) (.inl rfl) ?_|refine zIf (u1) (.inl rfl) ?_|refine zIf (u2) (.inl rfl) ?_|refine zIf (u3) (.inl rfl) ?_|refine zIf (u4) (.inl rfl) ?_|refine zIf (zlO) (.inl rfl) ?_|refine zIj (zj0 _ _) (.inl rfl) ?_|refine zIj (ziN _ _) (.inl rfl) ?_|refine zIj (zWQ _) (.inl rfl) ?_|refine zIj (zUa _) (.inl rfl) ?_|refine zIj (zHl _) (.inl rfl) ?_|refine zIj (q0) (.inl rfl) ?_|refine zIj (q0') (.inl rfl) ?_|refine zIj (q1) (.inl rfl) ?_|refine zIj (q1') (.inl rfl) ?_|refine zIj (qb) (.inl rfl) ?_|refine zIj (lf) (.inl rfl) ?_|refine zIj (u0) (.inl rfl) ?_|refine zIj (u1) (.inl rfl) ?_|refine zIj (u2) (.inl rfl) ?_|refine zIj (u3) (.inl rfl) ?_|refine zIj (u4) (.inl rfl) ?_|refine zIj (zlO) (.inl rfl) ?_)
   |refine zKg (id:=3) C_ok (fun _=>trivial) mixed 1 Try.f7.ntmps rfl (by kernel_rfl) (by decide) ?_
   |refine zKg (id:=4) C_ok (fun _=>trivial) mixed 1 Try.f7.ntmps rfl (by kernel_rfl) (by decide) ?_
   |refine zKg (id:=5) C_ok (fun _=>trivial) mixed 0 Try.f7.ntmps rfl (by kernel_rfl) (by decide) ?_
   |refine zKg (id:=9) C_ok (fun _=>trivial) mixed 0 Try.f7.ntmps rfl (by kernel_rfl) (by decide) ?_
   |skip)<;>simp only[h,↓zaL,↓zHC,WZ,reduceIte,yA,yB,yC,yD,reduceCtorEq,yE,yF,W1,W1B,hv,hw,hs1,hs2,hl1,hl2,hf1,hf2,h0,h1,YAK,zOZ,YAO]
 |false=>
  rw[hb]at qb
  have u1:zA0 Try.prog 16 [emb (putS σ x).ty,emb (putS τ y).ty] (.bool false):=
   zjL _ _ (by rw[T.zT5];exact o1) (by rw[T.zT5];exact o2) (by omega) (by rw[zlA c1 c2,hb])
  clear na nb z1 z2 s1 s2 o1 o2 g1 g2 c1 c2 G1 G2 hb hx hy lfe r1 r2
  generalize (putS σ x).ty=S at*
  generalize (putS τ y).ty=U at*
  generalize x.ty=t at*
  generalize y.ty=u at*
  generalize T.dyn.ty=D at*
  refine zSa C_ok Try.func7 rfl (by decide) (YAL rfl) (by decide) rfl fun ok H=> ?_
  rw[Try.results7]
  have h:=YAN
  repeat' (first
   |(with_reducible first|apply bA|apply bB|apply bC|apply bD|apply bE|apply bF)<;>intro h
   |((first|apply bG|apply bH);simp only[AV.norm,AV.zQg,W2,W2B,hv,hw,hs1,hs2,hl1,hl2,hf1,hf2,h0,h1,YAK,zOZ,YAO];first|refine zIf (zj0 _ _) (.inl rfl) ?_|refine zIf (ziN _ _) (.inl rfl) ?_|refine zIf (zWQ _) (.inl rfl) ?_|refine zIf (zUa _) (.inl rfl) ?_|refine zIf (zHl _) (.inl rfl) ?_|refine zIf (q0) (.inl rfl) ?_|refine zIf (q0') (.inl rfl) ?_|refine zIf (q1) (.inl rfl) ?_|refine zIf (q1') (.inl rfl) ?_|refine zIf (qb) (.inl rfl) ?_|refine zIf (lf) (.inl rfl) ?_|refine zIf (u0) (.inl rfl) ?_|refine zIf (u1) (.inl rfl) ?_|refine zIf (zlO) (.inl rfl) ?_|refine zIj (zj0 _ _) (.inl rfl) ?_|refine zIj (ziN _ _) (.inl rfl) ?_|refine zIj (zWQ _) (.inl rfl) ?_|refine zIj (zUa _) (.inl rfl) ?_|refine zIj (zHl _) (.inl rfl) ?_|refine zIj (q0) (.inl rfl) ?_|refine zIj (q0') (.inl rfl) ?_|refine zIj (q1) (.inl rfl) ?_|refine zIj (q1') (.inl rfl) ?_|refine zIj (qb) (.inl rfl) ?_|refine zIj (lf) (.inl rfl) ?_|refine zIj (u0) (.inl rfl) ?_|refine zIj (u1) (.inl rfl) ?_|refine zIj (zlO) (.inl rfl) ?_)
   |refine zKg (id:=3) C_ok (fun _=>trivial) mixed 1 Try.f7.ntmps rfl (by kernel_rfl) (by decide) ?_
   |refine zKg (id:=4) C_ok (fun _=>trivial) mixed 1 Try.f7.ntmps rfl (by kernel_rfl) (by decide) ?_
   |refine zKg (id:=5) C_ok (fun _=>trivial) mixed 0 Try.f7.ntmps rfl (by kernel_rfl) (by decide) ?_
   |refine zKg (id:=9) C_ok (fun _=>trivial) mixed 0 Try.f7.ntmps rfl (by kernel_rfl) (by decide) ?_
   |skip)<;>simp only[h,↓zaL,↓zHC,WZ,reduceIte,yA,yB,yC,yD,reduceCtorEq,yE,yF,W1,W1B,hv,hw,hs1,hs2,hl1,hl2,hf1,hf2,h0,h1,YAK,zOZ,YAO]
end Go.Proofs.Ytmpegnogdgbleaa
