/- The document's store, walked: a variable becomes a copy: the walks. No condition. -/
import Derived.Test.YtdngjamjccjlmaaR12
set_option linter.unusedSimpArgs false
set_option linter.unusedVariables false
set_option maxHeartbeats 8000000
set_option maxRecDepth 100000
namespace Go.Proofs.Ytdngjamjccjlmaa
open Go Go.Ab
open Nat renaming reduceEqDiff -> yA, reduceAdd -> yB, reduceLT -> yC, reduceLeDiff -> yD, reduceMul -> yE, reducePow -> yF, reduceBEq -> yG
open Int renaming reduceAdd -> yH, reduceLT -> yI, reduceToNat -> yJ, reduceBEq -> yK, reduceBNe -> yL, reduceLE -> yM
attribute [local irreducible] zA0 zAA zAa zAi zAj GoIf GoGb zAk GoO GoD GoX GoDX GoG GoDG GoGv zAl Go zAB
section
variable {F : List AObj} {p q w a : Nat} {lim : Int}
theorem zfa(hD:QuaD F p q w a){σ:Sto}(hg:GoodS σ)(hL:σ.L.length<=800000)(hcb:0<=σ.cnt/\σ.cnt<=800000){x y:Nat}(hx:x<σ.L.length)(hy:y<σ.L.length)(ex:σ.L.st.root x=x)(ey:σ.L.st.root y=y)(h6:σ.L.st.kind x=6)(left:Bool)(ver len:Nat)(ps:List (Nat×Nat))
 (hk8:σ.L.st.kind y=8) (h4:4∈σ.L.st.all y) (hin:x ∉ σ.L.st.all y) {c:Nat} (hks:σ.L.st.kids y=[c]) (hc:σ.cnt+1<lim) (hle:len<=ps.length) (hlen:len<=1000000000000):
 zAd Try.prog 105 [.bptr w 0,.int .i64 x,.int .i64 y,.bool left] (wK F p q w a lim σ ver len ps) (.int .i64 0)
  (wK F p q w a lim (((σ.var (σ.L.st.nd x).level).mk' (σ.L.st.kind y) [σ.L.length]).link x (σ.L.length+1)).2 (ver+1) (len+1) (ps.take len++ [if left=true then(σ.L.length,c)else(c,σ.L.length)])):=by
 have hk6:σ.L.st.kind y≠6:=by omega
 have hne:q≠p:=fun e=>hD.d1.1 e.symm
 have hx':x<σ.L.st.length:=by rw[Mem.zXR];exact hx
 have hy':y<σ.L.st.length:=by rw[Mem.zXR];exact hy
 have hL':σ.L.st.length<=1000000:=by rw[Mem.zXR];omega
 have h0:=BcF.init hg hx hy ex ey h6
 have hlv:=hg.lv x h6
 have q1:=fun(F:List AObj) (hD:QuaD F p q w a)=>dK (lim:=lim) (fun G hs hr=>zfq (F:=G) (v:=σ.v) (lim:=lim) (cnt:=σ.cnt) hs hr hne hg.si.wf y hy') hD ver len ps
 have q2:=fun(F:List AObj) (hD:QuaD F p q w a)=>dK (lim:=lim) (fun G hs hr=>zgU (F:=G) (v:=σ.v) (lim:=lim) (cnt:=σ.cnt) hs hr hne hg.si.wf hL' y hy') hD ver len ps
 have q3:=fun(F:List AObj) (hD:QuaD F p q w a)=>dK (lim:=lim) (fun G hs hr=>zge (F:=G) (v:=σ.v) (lim:=lim) (cnt:=σ.cnt) hs hr hne hg.si.wf hL' x y hx' hy') hD ver len ps
 have q4:=fun(F:List AObj) (hD:QuaD F p q w a)=>dK (lim:=lim) (fun G hs hr=>zfo (F:=G) (v:=σ.v) (lim:=lim) (cnt:=σ.cnt) hs hr hne hg.si.wf y hy') hD ver len ps
 rw[ey]at q1
 rw[ex,decide_eq_false hin]at q3
 rw[decide_eq_false (fun h=>h h4)]at q2
 rw[ey,hks]at q4
 simp only[kidI,List.map_cons,List.map_nil,I64]at q4
 have b1:(σ.L.st.kind y==6)=false:=by rw[YAZ];exact hk6
 have q5:=fun(F:List AObj) (hD:QuaD F p q w a)=>h0.q5 (lim:=lim) hD ver len ps
 generalize (σ.L.st.nd x).level=lv at*
 have h1:=h0.var hlv
 have q6:=fun(F:List AObj) (hD:QuaD F p q w a)=>zfF (lim:=lim) (τ:=σ) hD lv hlv (by omega) (by omega) ⟨hcb.1,by omega⟩ ver len ps
 have q7:=fun(F:List AObj) (hD:QuaD F p q w a)=>h1.q7 (lim:=lim) hD ver len ps
 have e1:(σ.var lv).L.length=σ.L.length+1:=Sto.zaS _ _
 have c1:(σ.var lv).cnt=σ.cnt+1:=rfl
 have q8:=fun(F:List AObj) (hD:QuaD F p q w a)=>zfG (lim:=lim) (τ:=σ.var lv) hD σ.L.length σ.L.length (by omega) (by omega) (by omega) ⟨by omega,by omega⟩ ver len ps
 rw[hk8]at q1 q7 b1⊢
 rw[e1]at q8
 have hg2:GoodS ((σ.var lv).mk' 8 [σ.L.length]):=h1.good.mk' (.inr ⟨rfl,rfl⟩) (by intro z hz;simp only[List.mem_singleton]at hz;omega)
 have x2:=h1.x0.mk' 8 [σ.L.length] h1.good.si.wf hg2.si.wf
 have e2:((σ.var lv).mk' 8 [σ.L.length]).L.length=σ.L.length+2:=by rw[Sto.zPc,e1]
 have er:=(Ext0.refl (σ.var lv)).zPe 8 [σ.L.length]
 rw[e1]at er
 have q9:=fun(F:List AObj) (hD:QuaD F p q w a)=>dK (lim:=lim) (fun G hs hr=>zfw (F:=G) (lim:=lim) (σ:=(σ.var lv).mk' 8 [σ.L.length]) (x:=x) (y:=σ.L.length+1) hs hr hne hg2 (by omega) (by omega) (by omega) (by rw[(x2.kind hx').1];exact ex) er (by rw[(x2.kind hx').2];exact h6) (by omega)) hD ver len ps
 generalize hB:((σ.var lv).mk' 8 [σ.L.length]).link x (σ.L.length+1)=B at*
 obtain⟨be,σ2⟩:=B
 simp only at q9⊢
 have v0:IntKind.wrap .i64 (1-1)=0:=by decide
 have v1:IntKind.wrap .i64 (0+1)=1:=by decide
 unfold zAd
 cases left with
 |true=>
  have k9:=fun(F:List AObj) (hD:QuaD F p q w a)=>zfm (lim:=lim) hD σ2 ver len ps σ.L.length c hle hlen
  refine zBN zdZ Try.func105 rfl (by decide) (YAL rfl) (by decide) fun ok=> ?_
  rw[Try.results105]
  have h:=YAN
  repeat' (first
   |(with_reducible first|apply bA|apply bB|apply bC|apply bD|apply bE|apply bF)<;>intro h
   |((first|apply bG|apply bH);simp only[AV.norm,AV.zQg,W2,W3,yH,yI,yJ,yK,yL,yM,zda,zdY,wK,bxR,arR,bxK,arK,quaP hD,zTh,zTg,AV.bel,ze0,b1,v0,v1];first|refine zIB (q1 _ (by first|exact hD|exact hD.app _)) (.inl rfl) ?_|refine zIB (q2 _ (by first|exact hD|exact hD.app _)) (.inl rfl) ?_|refine zIB (q3 _ (by first|exact hD|exact hD.app _)) (.inl rfl) ?_|refine zIB (q4 _ (by first|exact hD|exact hD.app _)) (.inl rfl) ?_|refine zIB (q5 _ (by first|exact hD|exact hD.app _)) (.inl rfl) ?_|refine zIA (q6 _ (by first|exact hD|exact hD.app _)) (.inl rfl) (fun hb=>kdB (by first|exact hD|exact hD.app _) hb) ?_|refine zIk rfl (q7 _ (by first|exact hD|exact hD.app _) _ _ _ _ (by simp[quaP hD,bxR,arR])) (.inl rfl) ?_|refine zIl rfl trivial (q8 _ (by first|exact hD|exact hD.app _)) (.inl rfl) (fun hb=>kdB (by first|exact hD|exact hD.app _) hb) ?_|refine zIA (q9 _ (by first|exact hD|exact hD.app _)) (.inl rfl) (fun hb=>kdB (by first|exact hD|exact hD.app _) hb) ?_|refine zIA (k9 _ (by first|exact hD|exact hD.app _)) (.inl rfl) (fun hb=>kdB (by first|exact hD|exact hD.app _) hb) ?_)
   |refine zKh (id:=15) zdZ (fun _=>trivial) mixed 0 Try.f105.ntmps (by first|(simp;done)|(simp;omega)) rfl (by kernel_rfl) (by decide) ?_
   |refine zJ9 ?_ zdZ Try.f105.ntmps rfl (by decide)
   |skip)<;>simp only[h,↓zaL,↓zHC,WY,reduceIte,yA,yB,yC,yD,reduceCtorEq,yE,yF,W1,WS,W3,yH,yI,yJ,yK,yL,yM,zda,zdY,wK,bxR,arR,bxK,arK,quaP hD,zTh,zTg,AV.bel,ze0,b1,v0,v1,zFY]
 |false=>
  have k9:=fun(F:List AObj) (hD:QuaD F p q w a)=>zfm (lim:=lim) hD σ2 ver len ps c σ.L.length hle hlen
  refine zBN zdZ Try.func105 rfl (by decide) (YAL rfl) (by decide) fun ok=> ?_
  rw[Try.results105]
  have h:=YAN
  repeat' (first
   |(with_reducible first|apply bA|apply bB|apply bC|apply bD|apply bE|apply bF)<;>intro h
   |((first|apply bG|apply bH);simp only[AV.norm,AV.zQg,W2,W3,yH,yI,yJ,yK,yL,yM,zda,zdY,wK,bxR,arR,bxK,arK,quaP hD,zTh,zTg,AV.bel,ze0,b1,v0,v1];first|refine zIB (q1 _ (by first|exact hD|exact hD.app _)) (.inl rfl) ?_|refine zIB (q2 _ (by first|exact hD|exact hD.app _)) (.inl rfl) ?_|refine zIB (q3 _ (by first|exact hD|exact hD.app _)) (.inl rfl) ?_|refine zIB (q4 _ (by first|exact hD|exact hD.app _)) (.inl rfl) ?_|refine zIB (q5 _ (by first|exact hD|exact hD.app _)) (.inl rfl) ?_|refine zIA (q6 _ (by first|exact hD|exact hD.app _)) (.inl rfl) (fun hb=>kdB (by first|exact hD|exact hD.app _) hb) ?_|refine zIk rfl (q7 _ (by first|exact hD|exact hD.app _) _ _ _ _ (by simp[quaP hD,bxR,arR])) (.inl rfl) ?_|refine zIl rfl trivial (q8 _ (by first|exact hD|exact hD.app _)) (.inl rfl) (fun hb=>kdB (by first|exact hD|exact hD.app _) hb) ?_|refine zIA (q9 _ (by first|exact hD|exact hD.app _)) (.inl rfl) (fun hb=>kdB (by first|exact hD|exact hD.app _) hb) ?_|refine zIA (k9 _ (by first|exact hD|exact hD.app _)) (.inl rfl) (fun hb=>kdB (by first|exact hD|exact hD.app _) hb) ?_)
   |refine zKh (id:=15) zdZ (fun _=>trivial) mixed 0 Try.f105.ntmps (by first|(simp;done)|(simp;omega)) rfl (by kernel_rfl) (by decide) ?_
   |refine zJ9 ?_ zdZ Try.f105.ntmps rfl (by decide)
   |skip)<;>simp only[h,↓zaL,↓zHC,WY,reduceIte,yA,yB,yC,yD,reduceCtorEq,yE,yF,W1,WS,W3,yH,yI,yJ,yK,yL,yM,zda,zdY,wK,bxR,arR,bxK,arK,quaP hD,zTh,zTg,AV.bel,ze0,b1,v0,v1,zFY]
end
end Go.Proofs.Ytdngjamjccjlmaa
