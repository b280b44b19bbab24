/- The document's store, walked: a variable becomes a node. No condition. -/
import Derived.Test.YtdngjamjccjlmaaR10
import Derived.Test.YtdngjamjccjlmaaPNb
set_option linter.unusedSimpArgs false
set_option linter.unusedVariables false
set_option maxHeartbeats 4000000
set_option maxRecDepth 100000
namespace Go.Proofs.Ytdngjamjccjlmaa
open Go Go.Ab
open Nat renaming reduceEqDiff -> yA, reduceAdd -> yB, reduceLT -> yC, reduceLeDiff -> yD, reduceMul -> yE, reducePow -> yF, reduceBEq -> yG
open Int renaming reduceAdd -> yH, reduceLT -> yI, reduceToNat -> yJ, reduceBEq -> yK, reduceBNe -> yL, reduceLE -> yM
attribute [local irreducible] zA0 zAA zAa zAi zAj GoIf GoGb zAk GoO GoD GoX GoDX GoG GoDG GoGv zAl Go zAB
theorem Sto.ze1(σ:Sto)(n:Nat)(F:List AObj)(p q:Nat)(lim:Int):(σ.mark n).zeM F p q lim=σ.zeM F p q lim:=by
 unfold Sto.zeM;rw[Sto.zO0];rfl
theorem zhD(F:List AObj)(p q w a:Nat)(lim:Int)(σ:Sto)(n ver len:Nat)(ps:List (Nat×Nat)):wK F p q w a lim (σ.mark n) ver len ps=wK F p q w a lim σ ver len ps:=by
 unfold wK;rw[Sto.zO0];rfl
section
variable {F : List AObj} {p q : Nat} {lim : Int}
theorem zfw(hs:p<F.length)(hr:q<F.length)(hne:q≠p){σ:Sto}(hg:GoodS σ)(hL:σ.L.length<=1000000){x y:Nat}(hx:x<σ.L.length)(hy:y<σ.L.length)(ex:σ.L.st.root x=x)(ey:σ.L.st.root y=y)(h6:σ.L.st.kind x=6)(hxy:x≠y):
 zAd Try.prog 114 [.bptr p 0,.int .i64 x,.int .i64 y] (σ.zeM F p q lim) (.int .i64 (σ.link x y).1) ((σ.link x y).2.zeM F p q lim):=by
 have hx':x<σ.L.st.length:=by rw[Mem.zXR];exact hx
 have hy':y<σ.L.st.length:=by rw[Mem.zXR];exact hy
 have hL':σ.L.st.length<=1000000:=by rw[Mem.zXR];exact hL
 have lx:σ.L.st.link x=none:=by have:=hg.si.wf.zUK x;rwa[ex]at this
 have ly:σ.L.st.link y=none:=by have:=hg.si.wf.zUK y;rwa[ey]at this
 unfold Sto.link
 by_cases hin:x∈σ.L.st.all y
 ·rw[if_pos hin,Sto.ze1]
  exact zfx hs hr hne hg.si.wf hL' x y hx' hy' (by rw[ex];exact h6) (by rw[ex,ey];exact hxy) (by rw[ex];exact hin)
 ·rw[if_neg hin]
  have h:=zfy (v:=σ.v) (lim:=lim) (cnt:=σ.cnt) hs hr hne hg.si.wf hL' x y hx' hy' (by rw[ex];exact h6) (by rw[ex,ey];exact hxy) (by rw[ex];exact hin)
  rw[ex,ey]at h
  unfold Sto.zeM
  show zAd _ _ _ _ _ (hpR F p q σ.v (zNL σ.L σ.rd x y).st lim σ.cnt)
  rw[zef hg.si hx hy lx h6 ly hin]
  exact h
theorem zft{e:Nat->AV}{b m v:Nat}{S:St}{cnt:Int}{G:List AObj}(hne:q≠p)(hw:Wf S)(n:Nat)(hn:n<S.length)(hG:G[p]?=some (bxR q v S.length lim cnt)/\G[q]?=some (arR v S)):zA5 Try.prog 104 [.bptr p 0,.int .i64 n] (.int .i64 (S.kind (S.root n))) (FS e G b m).obj:=
 qcalls_st (s:=p) (r:=q) (bx:=bxR q v S.length lim cnt) (ar:=arR v S) (fun F' h1 h2=>zfq h1 h2 hne hw n hn) (by rw[zIP];exact hG.1) (by rw[zIP];exact hG.2) rfl rfl
end
section
variable {F : List AObj} {p q w a : Nat} {lim : Int}
def CBe:Cfg:= {C with rdr:=CR.rdr,zwr:=fun f=>f==100}
theorem zdZ:zAb Try.prog CBe:=C_ok
theorem zda(t:Nat):CBe.ty t=C.ty t:=rfl
theorem zdY(t:Nat):CBe.inpl t=false:=rfl
theorem zfY(hD:QuaD F p q w a){σ:Sto}(hg:GoodS σ)(hL:σ.L.length<=1000000){x y:Nat}(hx:x<σ.L.length)(hy:y<σ.L.length)(ex:σ.L.st.root x=x)(ey:σ.L.st.root y=y)(h6:σ.L.st.kind x=6)(hxy:x≠y)(left:Bool)(ver len:Nat)(ps:List (Nat×Nat))
 (hk:σ.L.st.kind y=6\/4 ∉ σ.L.st.all y):zAd Try.prog 105 [.bptr w 0,.int .i64 x,.int .i64 y,.bool left] (wK F p q w a lim σ ver len ps) (.int .i64 (σ.link x y).1) (wK F p q w a lim (σ.link x y).2 ver len ps):=by
 have hne:q≠p:=fun e=>hD.d1.1 e.symm
 have hy':y<σ.L.st.length:=by rw[Mem.zXR];exact hy
 have hL':σ.L.st.length<=1000000:=by rw[Mem.zXR];exact hL
 have q1:=dK (lim:=lim) (fun G hs hr=>zfq (F:=G) (v:=σ.v) (lim:=lim) (cnt:=σ.cnt) hs hr hne hg.si.wf y hy') hD ver len ps
 have q2:=dK (lim:=lim) (fun G hs hr=>zgU (F:=G) (v:=σ.v) (lim:=lim) (cnt:=σ.cnt) hs hr hne hg.si.wf hL' y hy') hD ver len ps
 have q3:=dK (lim:=lim) (fun G hs hr=>zfw (F:=G) (lim:=lim) hs hr hne hg hL hx hy ex ey h6 hxy) hD ver len ps
 rw[ey]at q1
 unfold zAd
 by_cases hk6:σ.L.st.kind y=6
 ·have b1:(σ.L.st.kind y==6)=true:=by rw[beq_iff_eq];exact hk6
  refine zBN zdZ Try.func105 rfl (by decide) (YAL rfl) (by decide) fun ok=> ?_
  rw[Try.results105]
  have h:=YAN
  repeat' (first
   |(with_reducible first|apply bA|apply bB|apply bC|apply bD|apply bE|apply bF)<;>intro h
   |((first|apply bG|apply bH);simp only[AV.norm,AV.zQg,W2,zda,zdY,wK,bxR,arR,bxK,arK,quaP hD,zTh,zTg,AV.bel,ze0,b1];first|refine zIB (q1) (.inl rfl) ?_|refine zIA (q3) (.inl rfl) (fun hb=>kdB (by first|exact hD|exact hD.app _) hb) ?_)
   |refine zKh (id:=15) zdZ (fun _=>trivial) mixed 0 Try.f105.ntmps (by first|(simp;done)|(simp;omega)) rfl (by kernel_rfl) (by decide) ?_
   |skip)<;>simp only[h,↓zaL,↓zHC,WY,reduceIte,yA,yB,yC,yD,reduceCtorEq,yE,yF,W1,WS,zda,zdY,wK,bxR,arR,bxK,arK,quaP hD,zTh,zTg,AV.bel,ze0,b1]
 ·have b1:(σ.L.st.kind y==6)=false:=by rw[YAZ];exact hk6
  rw[decide_eq_true (hk.resolve_left hk6)]at q2
  refine zBN zdZ Try.func105 rfl (by decide) (YAL rfl) (by decide) fun ok=> ?_
  rw[Try.results105]
  have h:=YAN
  repeat' (first
   |(with_reducible first|apply bA|apply bB|apply bC|apply bD|apply bE|apply bF)<;>intro h
   |((first|apply bG|apply bH);simp only[AV.norm,AV.zQg,W2,zda,zdY,wK,bxR,arR,bxK,arK,quaP hD,zTh,zTg,AV.bel,ze0,b1];first|refine zIB (q1) (.inl rfl) ?_|refine zIB (q2) (.inl rfl) ?_|refine zIA (q3) (.inl rfl) (fun hb=>kdB (by first|exact hD|exact hD.app _) hb) ?_)
   |refine zKh (id:=15) zdZ (fun _=>trivial) mixed 0 Try.f105.ntmps (by first|(simp;done)|(simp;omega)) rfl (by kernel_rfl) (by decide) ?_
   |skip)<;>simp only[h,↓zaL,↓zHC,WY,reduceIte,yA,yB,yC,yD,reduceCtorEq,yE,yF,W1,WS,zda,zdY,wK,bxR,arR,bxK,arK,quaP hD,zTh,zTg,AV.bel,ze0,b1]
theorem zfZ(hD:QuaD F p q w a){σ:Sto}(hg:GoodS σ)(hL:σ.L.length<=1000000){x y:Nat}(hx:x<σ.L.length)(hy:y<σ.L.length)(ex:σ.L.st.root x=x)(ey:σ.L.st.root y=y)(left:Bool)(ver len:Nat)(ps:List (Nat×Nat))
 (hk6:σ.L.st.kind y≠6) (h4:4∈σ.L.st.all y) (hin:x∈σ.L.st.all y):zAd Try.prog 105 [.bptr w 0,.int .i64 x,.int .i64 y,.bool left] (wK F p q w a lim σ ver len ps) (.int .i64 5) (wK F p q w a lim σ ver len ps):=by
 have hne:q≠p:=fun e=>hD.d1.1 e.symm
 have hx':x<σ.L.st.length:=by rw[Mem.zXR];exact hx
 have hy':y<σ.L.st.length:=by rw[Mem.zXR];exact hy
 have hL':σ.L.st.length<=1000000:=by rw[Mem.zXR];exact hL
 have q1:=dK (lim:=lim) (fun G hs hr=>zfq (F:=G) (v:=σ.v) (lim:=lim) (cnt:=σ.cnt) hs hr hne hg.si.wf y hy') hD ver len ps
 have q2:=dK (lim:=lim) (fun G hs hr=>zgU (F:=G) (v:=σ.v) (lim:=lim) (cnt:=σ.cnt) hs hr hne hg.si.wf hL' y hy') hD ver len ps
 have q3:=dK (lim:=lim) (fun G hs hr=>zge (F:=G) (v:=σ.v) (lim:=lim) (cnt:=σ.cnt) hs hr hne hg.si.wf hL' x y hx' hy') hD ver len ps
 rw[ey]at q1
 rw[ex,decide_eq_true hin]at q3
 rw[decide_eq_false (fun h=>h h4)]at q2
 have b1:(σ.L.st.kind y==6)=false:=by rw[YAZ];exact hk6
 unfold zAd
 refine zBN zdZ Try.func105 rfl (by decide) (YAL rfl) (by decide) fun ok=> ?_
 rw[Try.results105]
 have h:=YAN
 repeat' (first
  |(with_reducible first|apply bA|apply bB|apply bC|apply bD|apply bE|apply bF)<;>intro h
  |((first|apply bG|apply bH);simp only[AV.norm,AV.zQg,W2,zda,zdY,wK,bxR,arR,bxK,arK,quaP hD,zTh,zTg,AV.bel,ze0,b1];first|refine zIB (q1) (.inl rfl) ?_|refine zIB (q2) (.inl rfl) ?_|refine zIB (q3) (.inl rfl) ?_)
  |refine zKh (id:=15) zdZ (fun _=>trivial) mixed 0 Try.f105.ntmps (by first|(simp;done)|(simp;omega)) rfl (by kernel_rfl) (by decide) ?_
  |skip)<;>simp only[h,↓zaL,↓zHC,WY,reduceIte,yA,yB,yC,yD,reduceCtorEq,yE,yF,W1,WS,zda,zdY,wK,bxR,arR,bxK,arK,quaP hD,zTh,zTg,AV.bel,ze0,b1]
end
end Go.Proofs.Ytdngjamjccjlmaa
