/- The document's store, walked: a variable becomes a copy: no room; two kids. No condition. -/
import Derived.Test.YtdngjamjccjlmaaR13
set_option linter.unusedSimpArgs false
set_option linter.unusedVariables false
set_option maxHeartbeats 16000000
set_option maxRecDepth 100000
namespace Go.Proofs.Ytdngjamjccjlmaa
open Go Go.Ab
open Nat renaming reduceEqDiff -> yA, reduceAdd -> yB, reduceLT -> yC, reduceLeDiff -> yD, reduceMul -> yE, reducePow -> yF, reduceBEq -> yG
open Int renaming reduceAdd -> yH, reduceLT -> yI, reduceToNat -> yJ, reduceBEq -> yK, reduceBNe -> yL, reduceLE -> yM
attribute [local irreducible] zA0 zAA zAa zAi zAj GoIf GoGb zAk GoO GoD GoX GoDX GoG GoDG GoGv zAl Go zAB
section
variable {F : List AObj} {p q w a : Nat} {lim : Int}
theorem zfb(hD:QuaD F p q w a){σ:Sto}(hg:GoodS σ)(hL:σ.L.length<=800000)(hcb:0<=σ.cnt/\σ.cnt<=800000){x y:Nat}(hx:x<σ.L.length)(hy:y<σ.L.length)(ex:σ.L.st.root x=x)(ey:σ.L.st.root y=y)(h6:σ.L.st.kind x=6)(left:Bool)(ver len:Nat)(ps:List (Nat×Nat))
 (hk6:σ.L.st.kind y≠6) (h4:4∈σ.L.st.all y) (hin:x ∉ σ.L.st.all y) {c:Nat} (hks:σ.L.st.kids y=[c]) (hc:¬σ.cnt<lim):
 zAd Try.prog 105 [.bptr w 0,.int .i64 x,.int .i64 y,.bool left] (wK F p q w a lim σ ver len ps) (.int .i64 7) (wK F p q w a lim σ ver len ps):=by
 have hne:q≠p:=fun e=>hD.d1.1 e.symm
 have hx':x<σ.L.st.length:=by rw[Mem.zXR];exact hx
 have hy':y<σ.L.st.length:=by rw[Mem.zXR];exact hy
 have hL':σ.L.st.length<=1000000:=by rw[Mem.zXR];omega
 have h0:=BcF.init hg hx hy ex ey h6
 have hlv:=hg.lv x h6
 have q1:=fun(F:List AObj) (hD:QuaD F p q w a)=>dK (lim:=lim) (fun G hs hr=>zfq (F:=G) (v:=σ.v) (lim:=lim) (cnt:=σ.cnt) hs hr hne hg.si.wf y hy') hD ver len ps
 have q2:=fun(F:List AObj) (hD:QuaD F p q w a)=>dK (lim:=lim) (fun G hs hr=>zgU (F:=G) (v:=σ.v) (lim:=lim) (cnt:=σ.cnt) hs hr hne hg.si.wf hL' y hy') hD ver len ps
 have q3:=fun(F:List AObj) (hD:QuaD F p q w a)=>dK (lim:=lim) (fun G hs hr=>zge (F:=G) (v:=σ.v) (lim:=lim) (cnt:=σ.cnt) hs hr hne hg.si.wf hL' x y hx' hy') hD ver len ps
 have q4:=fun(F:List AObj) (hD:QuaD F p q w a)=>dK (lim:=lim) (fun G hs hr=>zfo (F:=G) (v:=σ.v) (lim:=lim) (cnt:=σ.cnt) hs hr hne hg.si.wf y hy') hD ver len ps
 rw[ey]at q1
 rw[ex,decide_eq_false hin]at q3
 rw[decide_eq_false (fun h=>h h4)]at q2
 rw[ey,hks]at q4
 simp only[kidI,List.map_cons,List.map_nil,I64]at q4
 have b1:(σ.L.st.kind y==6)=false:=by rw[YAZ];exact hk6
 have q5:=fun(F:List AObj) (hD:QuaD F p q w a)=>h0.q5 (lim:=lim) hD ver len ps
 generalize (σ.L.st.nd x).level=lv at*
 have q6:=fun(F:List AObj) (hD:QuaD F p q w a)=>zfE (lim:=lim) (τ:=σ) hD lv hlv hc ver len ps
 have b7:((7:Int) !=0)=true:=by decide
 unfold zAd
 refine zBN zdZ Try.func105 rfl (by decide) (YAL rfl) (by decide) fun ok=> ?_
 rw[Try.results105]
 have h:=YAN
 repeat' (first
  |(with_reducible first|apply bA|apply bB|apply bC|apply bD|apply bE|apply bF)<;>intro h
  |((first|apply bG|apply bH);simp only[AV.norm,AV.zQg,W2,W3,yH,yI,yJ,yK,yL,yM,zda,zdY,wK,bxR,arR,bxK,arK,quaP hD,zTh,zTg,AV.bel,ze0,b1,b7];first|refine zIB (q1 _ (by first|exact hD|exact hD.app _)) (.inl rfl) ?_|refine zIB (q2 _ (by first|exact hD|exact hD.app _)) (.inl rfl) ?_|refine zIB (q3 _ (by first|exact hD|exact hD.app _)) (.inl rfl) ?_|refine zIB (q4 _ (by first|exact hD|exact hD.app _)) (.inl rfl) ?_|refine zIB (q5 _ (by first|exact hD|exact hD.app _)) (.inl rfl) ?_|refine zIB (q6 _ (by first|exact hD|exact hD.app _)) (.inl rfl) ?_)
  |refine zKh (id:=15) zdZ (fun _=>trivial) mixed 0 Try.f105.ntmps (by first|(simp;done)|(simp;omega)) rfl (by kernel_rfl) (by decide) ?_
  |refine zJ9 ?_ zdZ Try.f105.ntmps rfl (by decide)
  |skip)<;>simp only[h,↓zaL,↓zHC,WY,reduceIte,yA,yB,yC,yD,reduceCtorEq,yE,yF,W1,WS,W3,yH,yI,yJ,yK,yL,yM,zda,zdY,wK,bxR,arR,bxK,arK,quaP hD,zTh,zTg,AV.bel,ze0,b1,b7,zFY]
theorem zfe(hD:QuaD F p q w a){σ:Sto}(hg:GoodS σ)(hL:σ.L.length<=800000)(hcb:0<=σ.cnt/\σ.cnt<=800000){x y:Nat}(hx:x<σ.L.length)(hy:y<σ.L.length)(ex:σ.L.st.root x=x)(ey:σ.L.st.root y=y)(h6:σ.L.st.kind x=6)(left:Bool)(ver len:Nat)(ps:List (Nat×Nat))
 (hk6:σ.L.st.kind y≠6) (h4:4∈σ.L.st.all y) (hin:x ∉ σ.L.st.all y) {c d:Nat} (hks:σ.L.st.kids y=[c,d]) (hc:¬σ.cnt<lim):
 zAd Try.prog 105 [.bptr w 0,.int .i64 x,.int .i64 y,.bool left] (wK F p q w a lim σ ver len ps) (.int .i64 7) (wK F p q w a lim σ ver len ps):=by
 have hne:q≠p:=fun e=>hD.d1.1 e.symm
 have hx':x<σ.L.st.length:=by rw[Mem.zXR];exact hx
 have hy':y<σ.L.st.length:=by rw[Mem.zXR];exact hy
 have hL':σ.L.st.length<=1000000:=by rw[Mem.zXR];omega
 have h0:=BcF.init hg hx hy ex ey h6
 have hlv:=hg.lv x h6
 have q1:=fun(F:List AObj) (hD:QuaD F p q w a)=>dK (lim:=lim) (fun G hs hr=>zfq (F:=G) (v:=σ.v) (lim:=lim) (cnt:=σ.cnt) hs hr hne hg.si.wf y hy') hD ver len ps
 have q2:=fun(F:List AObj) (hD:QuaD F p q w a)=>dK (lim:=lim) (fun G hs hr=>zgU (F:=G) (v:=σ.v) (lim:=lim) (cnt:=σ.cnt) hs hr hne hg.si.wf hL' y hy') hD ver len ps
 have q3:=fun(F:List AObj) (hD:QuaD F p q w a)=>dK (lim:=lim) (fun G hs hr=>zge (F:=G) (v:=σ.v) (lim:=lim) (cnt:=σ.cnt) hs hr hne hg.si.wf hL' x y hx' hy') hD ver len ps
 have q4:=fun(F:List AObj) (hD:QuaD F p q w a)=>dK (lim:=lim) (fun G hs hr=>zfo (F:=G) (v:=σ.v) (lim:=lim) (cnt:=σ.cnt) hs hr hne hg.si.wf y hy') hD ver len ps
 rw[ey]at q1
 rw[ex,decide_eq_false hin]at q3
 rw[decide_eq_false (fun h=>h h4)]at q2
 rw[ey,hks]at q4
 simp only[kidI,List.map_cons,List.map_nil,I64]at q4
 have b1:(σ.L.st.kind y==6)=false:=by rw[YAZ];exact hk6
 have q5:=fun(F:List AObj) (hD:QuaD F p q w a)=>h0.q5 (lim:=lim) hD ver len ps
 generalize (σ.L.st.nd x).level=lv at*
 have q6:=fun(F:List AObj) (hD:QuaD F p q w a)=>zfE (lim:=lim) (τ:=σ) hD lv hlv hc ver len ps
 have b7:((7:Int) !=0)=true:=by decide
 unfold zAd
 refine zBN zdZ Try.func105 rfl (by decide) (YAL rfl) (by decide) fun ok=> ?_
 rw[Try.results105]
 have h:=YAN
 repeat' (first
  |(with_reducible first|apply bA|apply bB|apply bC|apply bD|apply bE|apply bF)<;>intro h
  |((first|apply bG|apply bH);simp only[AV.norm,AV.zQg,W2,W3,yH,yI,yJ,yK,yL,yM,zda,zdY,wK,bxR,arR,bxK,arK,quaP hD,zTh,zTg,AV.bel,ze0,b1,b7];first|refine zIB (q1 _ (by first|exact hD|exact hD.app _)) (.inl rfl) ?_|refine zIB (q2 _ (by first|exact hD|exact hD.app _)) (.inl rfl) ?_|refine zIB (q3 _ (by first|exact hD|exact hD.app _)) (.inl rfl) ?_|refine zIB (q4 _ (by first|exact hD|exact hD.app _)) (.inl rfl) ?_|refine zIB (q5 _ (by first|exact hD|exact hD.app _)) (.inl rfl) ?_|refine zIB (q6 _ (by first|exact hD|exact hD.app _)) (.inl rfl) ?_)
  |refine zKh (id:=15) zdZ (fun _=>trivial) mixed 0 Try.f105.ntmps (by first|(simp;done)|(simp;omega)) rfl (by kernel_rfl) (by decide) ?_
  |refine zJ9 ?_ zdZ Try.f105.ntmps rfl (by decide)
  |skip)<;>simp only[h,↓zaL,↓zHC,WY,reduceIte,yA,yB,yC,yD,reduceCtorEq,yE,yF,W1,WS,W3,yH,yI,yJ,yK,yL,yM,zda,zdY,wK,bxR,arR,bxK,arK,quaP hD,zTh,zTg,AV.bel,ze0,b1,b7,zFY]
theorem zfc(hD:QuaD F p q w a){σ:Sto}(hg:GoodS σ)(hL:σ.L.length<=800000)(hcb:0<=σ.cnt/\σ.cnt<=800000){x y:Nat}(hx:x<σ.L.length)(hy:y<σ.L.length)(ex:σ.L.st.root x=x)(ey:σ.L.st.root y=y)(h6:σ.L.st.kind x=6)(left:Bool)(ver len:Nat)(ps:List (Nat×Nat))
 (hk8:σ.L.st.kind y=8) (h4:4∈σ.L.st.all y) (hin:x ∉ σ.L.st.all y) {c:Nat} (hks:σ.L.st.kids y=[c]) (hc0:σ.cnt<lim) (hc:¬σ.cnt+1<lim):
 zAd Try.prog 105 [.bptr w 0,.int .i64 x,.int .i64 y,.bool left] (wK F p q w a lim σ ver len ps) (.int .i64 7) (wK F p q w a lim (σ.var (σ.L.st.nd x).level) ver len ps):=by
 have hk6:σ.L.st.kind y≠6:=by omega
 have hne:q≠p:=fun e=>hD.d1.1 e.symm
 have hx':x<σ.L.st.length:=by rw[Mem.zXR];exact hx
 have hy':y<σ.L.st.length:=by rw[Mem.zXR];exact hy
 have hL':σ.L.st.length<=1000000:=by rw[Mem.zXR];omega
 have h0:=BcF.init hg hx hy ex ey h6
 have hlv:=hg.lv x h6
 have q1:=fun(F:List AObj) (hD:QuaD F p q w a)=>dK (lim:=lim) (fun G hs hr=>zfq (F:=G) (v:=σ.v) (lim:=lim) (cnt:=σ.cnt) hs hr hne hg.si.wf y hy') hD ver len ps
 have q2:=fun(F:List AObj) (hD:QuaD F p q w a)=>dK (lim:=lim) (fun G hs hr=>zgU (F:=G) (v:=σ.v) (lim:=lim) (cnt:=σ.cnt) hs hr hne hg.si.wf hL' y hy') hD ver len ps
 have q3:=fun(F:List AObj) (hD:QuaD F p q w a)=>dK (lim:=lim) (fun G hs hr=>zge (F:=G) (v:=σ.v) (lim:=lim) (cnt:=σ.cnt) hs hr hne hg.si.wf hL' x y hx' hy') hD ver len ps
 have q4:=fun(F:List AObj) (hD:QuaD F p q w a)=>dK (lim:=lim) (fun G hs hr=>zfo (F:=G) (v:=σ.v) (lim:=lim) (cnt:=σ.cnt) hs hr hne hg.si.wf y hy') hD ver len ps
 rw[ey]at q1
 rw[ex,decide_eq_false hin]at q3
 rw[decide_eq_false (fun h=>h h4)]at q2
 rw[ey,hks]at q4
 simp only[kidI,List.map_cons,List.map_nil,I64]at q4
 have b1:(σ.L.st.kind y==6)=false:=by rw[YAZ];exact hk6
 have q5:=fun(F:List AObj) (hD:QuaD F p q w a)=>h0.q5 (lim:=lim) hD ver len ps
 generalize (σ.L.st.nd x).level=lv at*
 have h1:=h0.var hlv
 have q6:=fun(F:List AObj) (hD:QuaD F p q w a)=>zfF (lim:=lim) (τ:=σ) hD lv hlv (by omega) (by omega) ⟨hcb.1,by omega⟩ ver len ps
 have q7:=fun(F:List AObj) (hD:QuaD F p q w a)=>h1.q7 (lim:=lim) hD ver len ps
 have e1:(σ.var lv).L.length=σ.L.length+1:=Sto.zaS _ _
 have c1:(σ.var lv).cnt=σ.cnt+1:=rfl
 have q8:=fun(F:List AObj) (hD:QuaD F p q w a)=>zfH (lim:=lim) (τ:=σ.var lv) hD σ.L.length σ.L.length (by omega) (by omega) ver len ps
 rw[hk8]at q1 q7 b1
 have v0:IntKind.wrap .i64 (1-1)=0:=by decide
 have v1:IntKind.wrap .i64 (0+1)=1:=by decide
 have b7:((7:Int) !=0)=true:=by decide
 unfold zAd
 refine zBN zdZ Try.func105 rfl (by decide) (YAL rfl) (by decide) fun ok=> ?_
 rw[Try.results105]
 have h:=YAN
 repeat' (first
  |(with_reducible first|apply bA|apply bB|apply bC|apply bD|apply bE|apply bF)<;>intro h
  |((first|apply bG|apply bH);simp only[AV.norm,AV.zQg,W2,W3,yH,yI,yJ,yK,yL,yM,zda,zdY,wK,bxR,arR,bxK,arK,quaP hD,zTh,zTg,AV.bel,ze0,b1,b7,v0,v1];first|refine zIB (q1 _ (by first|exact hD|exact hD.app _)) (.inl rfl) ?_|refine zIB (q2 _ (by first|exact hD|exact hD.app _)) (.inl rfl) ?_|refine zIB (q3 _ (by first|exact hD|exact hD.app _)) (.inl rfl) ?_|refine zIB (q4 _ (by first|exact hD|exact hD.app _)) (.inl rfl) ?_|refine zIB (q5 _ (by first|exact hD|exact hD.app _)) (.inl rfl) ?_|refine zIA (q6 _ (by first|exact hD|exact hD.app _)) (.inl rfl) (fun hb=>kdB (by first|exact hD|exact hD.app _) hb) ?_|refine zIk rfl (q7 _ (by first|exact hD|exact hD.app _) _ _ _ _ (by simp[quaP hD,bxR,arR])) (.inl rfl) ?_|refine zIl rfl trivial (q8 _ (by first|exact hD|exact hD.app _)) (.inl rfl) (fun hb=>kdB (by first|exact hD|exact hD.app _) hb) ?_)
  |refine zKh (id:=15) zdZ (fun _=>trivial) mixed 0 Try.f105.ntmps (by first|(simp;done)|(simp;omega)) rfl (by kernel_rfl) (by decide) ?_
  |refine zJ9 ?_ zdZ Try.f105.ntmps rfl (by decide)
  |skip)<;>simp only[h,↓zaL,↓zHC,WY,reduceIte,yA,yB,yC,yD,reduceCtorEq,yE,yF,W1,WS,W3,yH,yI,yJ,yK,yL,yM,zda,zdY,wK,bxR,arR,bxK,arK,quaP hD,zTh,zTg,AV.bel,ze0,b1,b7,v0,v1,zFY]
theorem zff(hD:QuaD F p q w a){σ:Sto}(hg:GoodS σ)(hL:σ.L.length<=800000)(hcb:0<=σ.cnt/\σ.cnt<=800000){x y:Nat}(hx:x<σ.L.length)(hy:y<σ.L.length)(ex:σ.L.st.root x=x)(ey:σ.L.st.root y=y)(h6:σ.L.st.kind x=6)(left:Bool)(ver len:Nat)(ps:List (Nat×Nat))
 (hk79:σ.L.st.kind y=7\/σ.L.st.kind y=9) (h4:4∈σ.L.st.all y) (hin:x ∉ σ.L.st.all y) {c d:Nat} (hks:σ.L.st.kids y=[c,d]) (hc0:σ.cnt<lim) (hc:¬σ.cnt+1<lim):
 zAd Try.prog 105 [.bptr w 0,.int .i64 x,.int .i64 y,.bool left] (wK F p q w a lim σ ver len ps) (.int .i64 7) (wK F p q w a lim (σ.var (σ.L.st.nd x).level) ver len ps):=by
 have hk6:σ.L.st.kind y≠6:=by omega
 have hne:q≠p:=fun e=>hD.d1.1 e.symm
 have hx':x<σ.L.st.length:=by rw[Mem.zXR];exact hx
 have hy':y<σ.L.st.length:=by rw[Mem.zXR];exact hy
 have hL':σ.L.st.length<=1000000:=by rw[Mem.zXR];omega
 have h0:=BcF.init hg hx hy ex ey h6
 have hlv:=hg.lv x h6
 have q1:=fun(F:List AObj) (hD:QuaD F p q w a)=>dK (lim:=lim) (fun G hs hr=>zfq (F:=G) (v:=σ.v) (lim:=lim) (cnt:=σ.cnt) hs hr hne hg.si.wf y hy') hD ver len ps
 have q2:=fun(F:List AObj) (hD:QuaD F p q w a)=>dK (lim:=lim) (fun G hs hr=>zgU (F:=G) (v:=σ.v) (lim:=lim) (cnt:=σ.cnt) hs hr hne hg.si.wf hL' y hy') hD ver len ps
 have q3:=fun(F:List AObj) (hD:QuaD F p q w a)=>dK (lim:=lim) (fun G hs hr=>zge (F:=G) (v:=σ.v) (lim:=lim) (cnt:=σ.cnt) hs hr hne hg.si.wf hL' x y hx' hy') hD ver len ps
 have q4:=fun(F:List AObj) (hD:QuaD F p q w a)=>dK (lim:=lim) (fun G hs hr=>zfo (F:=G) (v:=σ.v) (lim:=lim) (cnt:=σ.cnt) hs hr hne hg.si.wf y hy') hD ver len ps
 rw[ey]at q1
 rw[ex,decide_eq_false hin]at q3
 rw[decide_eq_false (fun h=>h h4)]at q2
 rw[ey,hks]at q4
 simp only[kidI,List.map_cons,List.map_nil,I64]at q4
 have b1:(σ.L.st.kind y==6)=false:=by rw[YAZ];exact hk6
 have q5:=fun(F:List AObj) (hD:QuaD F p q w a)=>h0.q5 (lim:=lim) hD ver len ps
 generalize (σ.L.st.nd x).level=lv at*
 have h1:=h0.var hlv
 have h2:=h1.var hlv
 have q6:=fun(F:List AObj) (hD:QuaD F p q w a)=>zfF (lim:=lim) (τ:=σ) hD lv hlv (by omega) (by omega) ⟨hcb.1,by omega⟩ ver len ps
 have q5':=fun(F:List AObj) (hD:QuaD F p q w a)=>h1.q5 (lim:=lim) hD ver len ps
 have e1:(σ.var lv).L.length=σ.L.length+1:=Sto.zaS _ _
 have c1:(σ.var lv).cnt=σ.cnt+1:=rfl
 have e2:((σ.var lv).var lv).L.length=σ.L.length+2:=by rw[Sto.zaS,e1]
 have c2:((σ.var lv).var lv).cnt=σ.cnt+1+1:=rfl
 have v0:IntKind.wrap .i64 (2-1)=1:=by decide
 have v1:IntKind.wrap .i64 (0+1)=1:=by decide
 have v2:IntKind.wrap .i64 (1+1)=2:=by decide
 have b7:((7:Int) !=0)=true:=by decide
 have q6':=fun(F:List AObj) (hD:QuaD F p q w a)=>zfE (lim:=lim) (τ:=σ.var lv) hD lv hlv (by omega) ver len ps
 unfold zAd
 refine zBN zdZ Try.func105 rfl (by decide) (YAL rfl) (by decide) fun ok=> ?_
 rw[Try.results105]
 have h:=YAN
 repeat' (first
  |(with_reducible first|apply bA|apply bB|apply bC|apply bD|apply bE|apply bF)<;>intro h
  |((first|apply bG|apply bH);simp only[AV.norm,AV.zQg,W2,W3,yH,yI,yJ,yK,yL,yM,zda,zdY,wK,bxR,arR,bxK,arK,quaP hD,zTh,zTg,AV.bel,ze0,b1,b7,v0,v1,v2];first|refine zIB (q1 _ (by first|exact hD|exact hD.app _)) (.inl rfl) ?_|refine zIB (q2 _ (by first|exact hD|exact hD.app _)) (.inl rfl) ?_|refine zIB (q3 _ (by first|exact hD|exact hD.app _)) (.inl rfl) ?_|refine zIB (q4 _ (by first|exact hD|exact hD.app _)) (.inl rfl) ?_|refine zIB (q5 _ (by first|exact hD|exact hD.app _)) (.inl rfl) ?_|refine zIA (q6 _ (by first|exact hD|exact hD.app _)) (.inl rfl) (fun hb=>kdB (by first|exact hD|exact hD.app _) hb) ?_|refine zIB (q5' _ (by first|exact hD|exact hD.app _)) (.inl rfl) ?_|refine zIB (q6' _ (by first|exact hD|exact hD.app _)) (.inl rfl) ?_)
  |refine zKh (id:=15) zdZ (fun _=>trivial) mixed 0 Try.f105.ntmps (by first|(simp;done)|(simp;omega)) rfl (by kernel_rfl) (by decide) ?_
  |refine zJ9 ?_ zdZ Try.f105.ntmps rfl (by decide)
  |skip)<;>simp only[h,↓zaL,↓zHC,WY,reduceIte,yA,yB,yC,yD,reduceCtorEq,yE,yF,W1,WS,W3,yH,yI,yJ,yK,yL,yM,zda,zdY,wK,bxR,arR,bxK,arK,quaP hD,zTh,zTg,AV.bel,ze0,b1,b7,v0,v1,v2,zFY]
 all_goals trace_state
theorem zfg(hD:QuaD F p q w a){σ:Sto}(hg:GoodS σ)(hL:σ.L.length<=800000)(hcb:0<=σ.cnt/\σ.cnt<=800000){x y:Nat}(hx:x<σ.L.length)(hy:y<σ.L.length)(ex:σ.L.st.root x=x)(ey:σ.L.st.root y=y)(h6:σ.L.st.kind x=6)(left:Bool)(ver len:Nat)(ps:List (Nat×Nat))
 (hk79:σ.L.st.kind y=7\/σ.L.st.kind y=9) (h4:4∈σ.L.st.all y) (hin:x ∉ σ.L.st.all y) {c d:Nat} (hks:σ.L.st.kids y=[c,d]) (hc0:σ.cnt+1<lim) (hc:¬σ.cnt+2<lim):
 zAd Try.prog 105 [.bptr w 0,.int .i64 x,.int .i64 y,.bool left] (wK F p q w a lim σ ver len ps) (.int .i64 7) (wK F p q w a lim ((σ.var (σ.L.st.nd x).level).var (σ.L.st.nd x).level) ver len ps):=by
 have hk6:σ.L.st.kind y≠6:=by omega
 have hne:q≠p:=fun e=>hD.d1.1 e.symm
 have hx':x<σ.L.st.length:=by rw[Mem.zXR];exact hx
 have hy':y<σ.L.st.length:=by rw[Mem.zXR];exact hy
 have hL':σ.L.st.length<=1000000:=by rw[Mem.zXR];omega
 have h0:=BcF.init hg hx hy ex ey h6
 have hlv:=hg.lv x h6
 have q1:=fun(F:List AObj) (hD:QuaD F p q w a)=>dK (lim:=lim) (fun G hs hr=>zfq (F:=G) (v:=σ.v) (lim:=lim) (cnt:=σ.cnt) hs hr hne hg.si.wf y hy') hD ver len ps
 have q2:=fun(F:List AObj) (hD:QuaD F p q w a)=>dK (lim:=lim) (fun G hs hr=>zgU (F:=G) (v:=σ.v) (lim:=lim) (cnt:=σ.cnt) hs hr hne hg.si.wf hL' y hy') hD ver len ps
 have q3:=fun(F:List AObj) (hD:QuaD F p q w a)=>dK (lim:=lim) (fun G hs hr=>zge (F:=G) (v:=σ.v) (lim:=lim) (cnt:=σ.cnt) hs hr hne hg.si.wf hL' x y hx' hy') hD ver len ps
 have q4:=fun(F:List AObj) (hD:QuaD F p q w a)=>dK (lim:=lim) (fun G hs hr=>zfo (F:=G) (v:=σ.v) (lim:=lim) (cnt:=σ.cnt) hs hr hne hg.si.wf y hy') hD ver len ps
 rw[ey]at q1
 rw[ex,decide_eq_false hin]at q3
 rw[decide_eq_false (fun h=>h h4)]at q2
 rw[ey,hks]at q4
 simp only[kidI,List.map_cons,List.map_nil,I64]at q4
 have b1:(σ.L.st.kind y==6)=false:=by rw[YAZ];exact hk6
 have q5:=fun(F:List AObj) (hD:QuaD F p q w a)=>h0.q5 (lim:=lim) hD ver len ps
 generalize (σ.L.st.nd x).level=lv at*
 have h1:=h0.var hlv
 have h2:=h1.var hlv
 have q6:=fun(F:List AObj) (hD:QuaD F p q w a)=>zfF (lim:=lim) (τ:=σ) hD lv hlv (by omega) (by omega) ⟨hcb.1,by omega⟩ ver len ps
 have q5':=fun(F:List AObj) (hD:QuaD F p q w a)=>h1.q5 (lim:=lim) hD ver len ps
 have e1:(σ.var lv).L.length=σ.L.length+1:=Sto.zaS _ _
 have c1:(σ.var lv).cnt=σ.cnt+1:=rfl
 have e2:((σ.var lv).var lv).L.length=σ.L.length+2:=by rw[Sto.zaS,e1]
 have c2:((σ.var lv).var lv).cnt=σ.cnt+1+1:=rfl
 have v0:IntKind.wrap .i64 (2-1)=1:=by decide
 have v1:IntKind.wrap .i64 (0+1)=1:=by decide
 have v2:IntKind.wrap .i64 (1+1)=2:=by decide
 have b7:((7:Int) !=0)=true:=by decide
 have q6':=fun(F:List AObj) (hD:QuaD F p q w a)=>zfF (lim:=lim) (τ:=σ.var lv) hD lv hlv (by omega) (by omega) ⟨by omega,by omega⟩ ver len ps
 have q7:=fun(F:List AObj) (hD:QuaD F p q w a)=>h2.q7 (lim:=lim) hD ver len ps
 have q8:=fun(F:List AObj) (hD:QuaD F p q w a)=>zfJ (lim:=lim) (τ:=(σ.var lv).var lv) hD hk79 σ.L.length (σ.L.length+1) (by omega) (by omega) (by omega) ver len ps
 rw[e1]at q6'
 unfold zAd
 refine zBN zdZ Try.func105 rfl (by decide) (YAL rfl) (by decide) fun ok=> ?_
 rw[Try.results105]
 have h:=YAN
 repeat' (first
  |(with_reducible first|apply bA|apply bB|apply bC|apply bD|apply bE|apply bF)<;>intro h
  |((first|apply bG|apply bH);simp only[AV.norm,AV.zQg,W2,W3,yH,yI,yJ,yK,yL,yM,zda,zdY,wK,bxR,arR,bxK,arK,quaP hD,zTh,zTg,AV.bel,ze0,b1,b7,v0,v1,v2];first|refine zIB (q1 _ (by first|exact hD|exact hD.app _)) (.inl rfl) ?_|refine zIB (q2 _ (by first|exact hD|exact hD.app _)) (.inl rfl) ?_|refine zIB (q3 _ (by first|exact hD|exact hD.app _)) (.inl rfl) ?_|refine zIB (q4 _ (by first|exact hD|exact hD.app _)) (.inl rfl) ?_|refine zIB (q5 _ (by first|exact hD|exact hD.app _)) (.inl rfl) ?_|refine zIA (q6 _ (by first|exact hD|exact hD.app _)) (.inl rfl) (fun hb=>kdB (by first|exact hD|exact hD.app _) hb) ?_|refine zIB (q5' _ (by first|exact hD|exact hD.app _)) (.inl rfl) ?_|refine zIA (q6' _ (by first|exact hD|exact hD.app _)) (.inl rfl) (fun hb=>kdB (by first|exact hD|exact hD.app _) hb) ?_|refine zIk rfl (q7 _ (by first|exact hD|exact hD.app _) _ _ _ _ (by simp[quaP hD,bxR,arR])) (.inl rfl) ?_|refine zIl rfl trivial (q8 _ (by first|exact hD|exact hD.app _)) (.inl rfl) (fun hb=>kdB (by first|exact hD|exact hD.app _) hb) ?_)
  |refine zKh (id:=15) zdZ (fun _=>trivial) mixed 0 Try.f105.ntmps (by first|(simp;done)|(simp;omega)) rfl (by kernel_rfl) (by decide) ?_
  |refine zJ9 ?_ zdZ Try.f105.ntmps rfl (by decide)
  |skip)<;>simp only[h,↓zaL,↓zHC,WY,reduceIte,yA,yB,yC,yD,reduceCtorEq,yE,yF,W1,WS,W3,yH,yI,yJ,yK,yL,yM,zda,zdY,wK,bxR,arR,bxK,arK,quaP hD,zTh,zTg,AV.bel,ze0,b1,b7,v0,v1,v2,zFY]
 all_goals trace_state
theorem zfd(hD:QuaD F p q w a){σ:Sto}(hg:GoodS σ)(hL:σ.L.length<=800000)(hcb:0<=σ.cnt/\σ.cnt<=800000){x y:Nat}(hx:x<σ.L.length)(hy:y<σ.L.length)(ex:σ.L.st.root x=x)(ey:σ.L.st.root y=y)(h6:σ.L.st.kind x=6)(left:Bool)(ver len:Nat)(ps:List (Nat×Nat))
 (hk79:σ.L.st.kind y=7\/σ.L.st.kind y=9) (h4:4∈σ.L.st.all y) (hin:x ∉ σ.L.st.all y) {c d:Nat} (hks:σ.L.st.kids y=[c,d]) (hc:σ.cnt+2<lim) (hle:len<=ps.length) (hlen:len<=1000000000000):
 zAd Try.prog 105 [.bptr w 0,.int .i64 x,.int .i64 y,.bool left] (wK F p q w a lim σ ver len ps) (.int .i64 0)
  (wK F p q w a lim ((((σ.var (σ.L.st.nd x).level).var (σ.L.st.nd x).level).mk' (σ.L.st.kind y) [σ.L.length,σ.L.length+1]).link x (σ.L.length+2)).2 (ver+1+1) (len+1+1) (ps.take len++if left=true then [(σ.L.length+1,d),(σ.L.length,c)]else [(d,σ.L.length+1),(c,σ.L.length)])):=by
 have hk6:σ.L.st.kind y≠6:=by omega
 have hne:q≠p:=fun e=>hD.d1.1 e.symm
 have hx':x<σ.L.st.length:=by rw[Mem.zXR];exact hx
 have hy':y<σ.L.st.length:=by rw[Mem.zXR];exact hy
 have hL':σ.L.st.length<=1000000:=by rw[Mem.zXR];omega
 have h0:=BcF.init hg hx hy ex ey h6
 have hlv:=hg.lv x h6
 have q1:=fun(F:List AObj) (hD:QuaD F p q w a)=>dK (lim:=lim) (fun G hs hr=>zfq (F:=G) (v:=σ.v) (lim:=lim) (cnt:=σ.cnt) hs hr hne hg.si.wf y hy') hD ver len ps
 have q2:=fun(F:List AObj) (hD:QuaD F p q w a)=>dK (lim:=lim) (fun G hs hr=>zgU (F:=G) (v:=σ.v) (lim:=lim) (cnt:=σ.cnt) hs hr hne hg.si.wf hL' y hy') hD ver len ps
 have q3:=fun(F:List AObj) (hD:QuaD F p q w a)=>dK (lim:=lim) (fun G hs hr=>zge (F:=G) (v:=σ.v) (lim:=lim) (cnt:=σ.cnt) hs hr hne hg.si.wf hL' x y hx' hy') hD ver len ps
 have q4:=fun(F:List AObj) (hD:QuaD F p q w a)=>dK (lim:=lim) (fun G hs hr=>zfo (F:=G) (v:=σ.v) (lim:=lim) (cnt:=σ.cnt) hs hr hne hg.si.wf y hy') hD ver len ps
 rw[ey]at q1
 rw[ex,decide_eq_false hin]at q3
 rw[decide_eq_false (fun h=>h h4)]at q2
 rw[ey,hks]at q4
 simp only[kidI,List.map_cons,List.map_nil,I64]at q4
 have b1:(σ.L.st.kind y==6)=false:=by rw[YAZ];exact hk6
 have q5:=fun(F:List AObj) (hD:QuaD F p q w a)=>h0.q5 (lim:=lim) hD ver len ps
 generalize (σ.L.st.nd x).level=lv at*
 have h1:=h0.var hlv
 have h2:=h1.var hlv
 have q6:=fun(F:List AObj) (hD:QuaD F p q w a)=>zfF (lim:=lim) (τ:=σ) hD lv hlv (by omega) (by omega) ⟨hcb.1,by omega⟩ ver len ps
 have q5':=fun(F:List AObj) (hD:QuaD F p q w a)=>h1.q5 (lim:=lim) hD ver len ps
 have e1:(σ.var lv).L.length=σ.L.length+1:=Sto.zaS _ _
 have c1:(σ.var lv).cnt=σ.cnt+1:=rfl
 have e2:((σ.var lv).var lv).L.length=σ.L.length+2:=by rw[Sto.zaS,e1]
 have c2:((σ.var lv).var lv).cnt=σ.cnt+1+1:=rfl
 have v0:IntKind.wrap .i64 (2-1)=1:=by decide
 have v1:IntKind.wrap .i64 (0+1)=1:=by decide
 have v2:IntKind.wrap .i64 (1+1)=2:=by decide
 have b7:((7:Int) !=0)=true:=by decide
 have q6':=fun(F:List AObj) (hD:QuaD F p q w a)=>zfF (lim:=lim) (τ:=σ.var lv) hD lv hlv (by omega) (by omega) ⟨by omega,by omega⟩ ver len ps
 have q7:=fun(F:List AObj) (hD:QuaD F p q w a)=>h2.q7 (lim:=lim) hD ver len ps
 have q8:=fun(F:List AObj) (hD:QuaD F p q w a)=>zfI (lim:=lim) (τ:=(σ.var lv).var lv) hD hk79 σ.L.length (σ.L.length+1) (by omega) (by omega) (by omega) (by omega) ⟨by omega,by omega⟩ ver len ps
 rw[e1]at q6'
 rw[e2]at q8
 have hg2:GoodS (((σ.var lv).var lv).mk' (σ.L.st.kind y) [σ.L.length,σ.L.length+1]):=h2.good.mk' (.inl ⟨hk79,rfl⟩) (by intro z hz;simp only[List.mem_cons,List.not_mem_nil,or_false]at hz;omega)
 have x2:=h2.x0.mk' (σ.L.st.kind y) [σ.L.length,σ.L.length+1] h2.good.si.wf hg2.si.wf
 have e3:(((σ.var lv).var lv).mk' (σ.L.st.kind y) [σ.L.length,σ.L.length+1]).L.length=σ.L.length+3:=by rw[Sto.zPc,e2]
 have er:=(Ext0.refl ((σ.var lv).var lv)).zPe (σ.L.st.kind y) [σ.L.length,σ.L.length+1]
 rw[e2]at er
 have q9:=fun(F:List AObj) (hD:QuaD F p q w a)=>dK (lim:=lim) (fun G hs hr=>zfw (F:=G) (lim:=lim) (σ:=((σ.var lv).var lv).mk' (σ.L.st.kind y) [σ.L.length,σ.L.length+1]) (x:=x) (y:=σ.L.length+2) hs hr hne hg2 (by omega) (by omega) (by omega) (by rw[(x2.kind hx').1];exact ex) er (by rw[(x2.kind hx').2];exact h6) (by omega)) hD ver len ps
 generalize hB:(((σ.var lv).var lv).mk' (σ.L.st.kind y) [σ.L.length,σ.L.length+1]).link x (σ.L.length+2)=B at*
 obtain⟨be,σ2⟩:=B
 simp only at q9⊢
 unfold zAd
 cases left with
 |true=>
  have k9:=fun(F:List AObj) (hD:QuaD F p q w a)=>zfn (lim:=lim) hD σ2 ver len ps σ.L.length (σ.L.length+1) c d hle hlen
  refine zBN zdZ Try.func105 rfl (by decide) (YAL rfl) (by decide) fun ok=> ?_
  rw[Try.results105]
  have h:=YAN
  repeat' (first
   |(with_reducible first|apply bA|apply bB|apply bC|apply bD|apply bE|apply bF)<;>intro h
   |((first|apply bG|apply bH);simp only[AV.norm,AV.zQg,W2,W3,yH,yI,yJ,yK,yL,yM,zda,zdY,wK,bxR,arR,bxK,arK,quaP hD,zTh,zTg,AV.bel,ze0,b1,v0,v1,v2];first|refine zIB (q1 _ (by first|exact hD|exact hD.app _)) (.inl rfl) ?_|refine zIB (q2 _ (by first|exact hD|exact hD.app _)) (.inl rfl) ?_|refine zIB (q3 _ (by first|exact hD|exact hD.app _)) (.inl rfl) ?_|refine zIB (q4 _ (by first|exact hD|exact hD.app _)) (.inl rfl) ?_|refine zIB (q5 _ (by first|exact hD|exact hD.app _)) (.inl rfl) ?_|refine zIA (q6 _ (by first|exact hD|exact hD.app _)) (.inl rfl) (fun hb=>kdB (by first|exact hD|exact hD.app _) hb) ?_|refine zIB (q5' _ (by first|exact hD|exact hD.app _)) (.inl rfl) ?_|refine zIA (q6' _ (by first|exact hD|exact hD.app _)) (.inl rfl) (fun hb=>kdB (by first|exact hD|exact hD.app _) hb) ?_|refine zIk rfl (q7 _ (by first|exact hD|exact hD.app _) _ _ _ _ (by simp[quaP hD,bxR,arR])) (.inl rfl) ?_|refine zIl rfl trivial (q8 _ (by first|exact hD|exact hD.app _)) (.inl rfl) (fun hb=>kdB (by first|exact hD|exact hD.app _) hb) ?_|refine zIA (q9 _ (by first|exact hD|exact hD.app _)) (.inl rfl) (fun hb=>kdB (by first|exact hD|exact hD.app _) hb) ?_|refine zIA (k9 _ (by first|exact hD|exact hD.app _)) (.inl rfl) (fun hb=>kdB (by first|exact hD|exact hD.app _) hb) ?_)
   |refine zKh (id:=15) zdZ (fun _=>trivial) mixed 0 Try.f105.ntmps (by first|(simp;done)|(simp;omega)) rfl (by kernel_rfl) (by decide) ?_
   |refine zJ9 ?_ zdZ Try.f105.ntmps rfl (by decide)
   |skip)<;>simp only[h,↓zaL,↓zHC,WY,reduceIte,yA,yB,yC,yD,reduceCtorEq,yE,yF,W1,WS,W3,yH,yI,yJ,yK,yL,yM,zda,zdY,wK,bxR,arR,bxK,arK,quaP hD,zTh,zTg,AV.bel,ze0,b1,v0,v1,v2,zFY]
  all_goals trace_state
 |false=>
  have k9:=fun(F:List AObj) (hD:QuaD F p q w a)=>zfn (lim:=lim) hD σ2 ver len ps c d σ.L.length (σ.L.length+1) hle hlen
  refine zBN zdZ Try.func105 rfl (by decide) (YAL rfl) (by decide) fun ok=> ?_
  rw[Try.results105]
  have h:=YAN
  repeat' (first
   |(with_reducible first|apply bA|apply bB|apply bC|apply bD|apply bE|apply bF)<;>intro h
   |((first|apply bG|apply bH);simp only[AV.norm,AV.zQg,W2,W3,yH,yI,yJ,yK,yL,yM,zda,zdY,wK,bxR,arR,bxK,arK,quaP hD,zTh,zTg,AV.bel,ze0,b1,v0,v1,v2];first|refine zIB (q1 _ (by first|exact hD|exact hD.app _)) (.inl rfl) ?_|refine zIB (q2 _ (by first|exact hD|exact hD.app _)) (.inl rfl) ?_|refine zIB (q3 _ (by first|exact hD|exact hD.app _)) (.inl rfl) ?_|refine zIB (q4 _ (by first|exact hD|exact hD.app _)) (.inl rfl) ?_|refine zIB (q5 _ (by first|exact hD|exact hD.app _)) (.inl rfl) ?_|refine zIA (q6 _ (by first|exact hD|exact hD.app _)) (.inl rfl) (fun hb=>kdB (by first|exact hD|exact hD.app _) hb) ?_|refine zIB (q5' _ (by first|exact hD|exact hD.app _)) (.inl rfl) ?_|refine zIA (q6' _ (by first|exact hD|exact hD.app _)) (.inl rfl) (fun hb=>kdB (by first|exact hD|exact hD.app _) hb) ?_|refine zIk rfl (q7 _ (by first|exact hD|exact hD.app _) _ _ _ _ (by simp[quaP hD,bxR,arR])) (.inl rfl) ?_|refine zIl rfl trivial (q8 _ (by first|exact hD|exact hD.app _)) (.inl rfl) (fun hb=>kdB (by first|exact hD|exact hD.app _) hb) ?_|refine zIA (q9 _ (by first|exact hD|exact hD.app _)) (.inl rfl) (fun hb=>kdB (by first|exact hD|exact hD.app _) hb) ?_|refine zIA (k9 _ (by first|exact hD|exact hD.app _)) (.inl rfl) (fun hb=>kdB (by first|exact hD|exact hD.app _) hb) ?_)
   |refine zKh (id:=15) zdZ (fun _=>trivial) mixed 0 Try.f105.ntmps (by first|(simp;done)|(simp;omega)) rfl (by kernel_rfl) (by decide) ?_
   |refine zJ9 ?_ zdZ Try.f105.ntmps rfl (by decide)
   |skip)<;>simp only[h,↓zaL,↓zHC,WY,reduceIte,yA,yB,yC,yD,reduceCtorEq,yE,yF,W1,WS,W3,yH,yI,yJ,yK,yL,yM,zda,zdY,wK,bxR,arR,bxK,arK,quaP hD,zTh,zTg,AV.bel,ze0,b1,v0,v1,v2,zFY]
end
end Go.Proofs.Ytdngjamjccjlmaa
