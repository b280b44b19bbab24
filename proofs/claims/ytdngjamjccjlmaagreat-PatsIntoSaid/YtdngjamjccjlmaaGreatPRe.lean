/- Lemmas: the store of the document, walked, third part. No condition. -/
import Derived.Test.YtdngjamjccjlmaaGreatPRd
set_option linter.unusedSimpArgs false
set_option linter.unusedVariables false
set_option maxHeartbeats 16000000
set_option maxRecDepth 100000
set_option maxHeartbeats 4000000
namespace Go.Proofs.YtdngjamjccjlmaaGreat
open Go Go.Ab
open Nat renaming reduceEqDiff -> yA, reduceAdd -> yB, reduceLeDiff -> yD, reduceMul -> yE, reducePow -> yF
open Int renaming reduceAdd -> yH, reduceLT -> yI, reduceBNe -> yL, reduceLE -> yM
open AV renaming bel -> yN, normL -> yQ, norm -> yP
attribute [local irreducible] zA0 zAA zAa zAi zAj GoIf GoGb zAk GoO GoD GoX GoDX GoG GoDG GoGv zAl Go zAB
section
section
variable {F : List AObj} {p q w a : Nat} {lim : Int}
theorem zfb(hD:QuaD F p q w a){σ:Sto}(hg:GoodS σ)(hL:σ.L.length<=800000)(hcb:0<=σ.cnt/\σ.cnt<=800000){x y:Nat}(hx:x<σ.L.length)(hy:y<σ.L.length)(ex:σ.L.st.root x=x)(ey:σ.L.st.root y=y)(h6:σ.L.st.kind x=6)(left:Bool)(ver len:Nat)(ps:List (Nat×Nat))
 (hk6:σ.L.st.kind y≠6) (h4:4∈σ.L.st.all y) (hin:x ∉ σ.L.st.all y) {c:Nat} (hks:σ.L.st.kids y=[c]) (hc:¬σ.cnt<lim):
 zAd Tryz.prog 100 [.bptr w 0,.int .i64 x,.int .i64 y,.bool left] (wK F p q w a lim σ ver len ps) (.int .i64 7) (wK F p q w a lim σ ver len ps):=by
 have hne:q≠p:=fun e=>hD.d1.1 e.symm
 have hx':x<σ.L.st.length:=by rw[Mem.zXR];exact hx
 have hy':y<σ.L.st.length:=by rw[Mem.zXR];exact hy
 have hL':σ.L.st.length<=1000000:=by rw[Mem.zXR];omega
 have h0:=BcF.init hg hx hy ex ey h6
 have hlv:=hg.lv x h6
 have q1:=fun(F:List AObj) (hD:QuaD F p q w a)=>dK (lim:=lim) (fun G hs hr=>zfq (F:=G) (v:=σ.v) (lim:=lim) (cnt:=σ.cnt) hs hr hne hg.si.wf y hy') hD ver len ps
 have q2:=fun(F:List AObj) (hD:QuaD F p q w a)=>dK (lim:=lim) (fun G hs hr=>zgU (F:=G) (v:=σ.v) (lim:=lim) (cnt:=σ.cnt) hs hr hne hg.si.wf hL' y hy') hD ver len ps
 have q3:=fun(F:List AObj) (hD:QuaD F p q w a)=>dK (lim:=lim) (fun G hs hr=>zge (F:=G) (v:=σ.v) (lim:=lim) (cnt:=σ.cnt) hs hr hne hg.si.wf hL' x y hx' hy') hD ver len ps
 have q4:=fun(F:List AObj) (hD:QuaD F p q w a)=>dK (lim:=lim) (fun G hs hr=>zfo (F:=G) (v:=σ.v) (lim:=lim) (cnt:=σ.cnt) hs hr hne hg.si.wf y hy') hD ver len ps
 rw[ey]at q1
 rw[ex,decide_eq_false hin]at q3
 rw[decide_eq_false (fun h=>h h4)]at q2
 rw[ey,hks]at q4
 simp only[kidI,List.map_cons,List.map_nil,I64]at q4
 have b1:(σ.L.st.kind y==6)=false:=by rw[YAZ];exact hk6
 have q5:=fun(F:List AObj) (hD:QuaD F p q w a)=>h0.q5 (lim:=lim) hD ver len ps
 generalize (σ.L.st.nd x).level=lv at*
 have q6:=fun(F:List AObj) (hD:QuaD F p q w a)=>zfE (lim:=lim) (τ:=σ) hD lv hlv hc ver len ps
 have b7:((7:Int) !=0)=true:=by decide
 unfold zAd
 refine eD zdZ Tryz.func100 Tryz.results100 fun ok=> ?_
 repeat' (first
  |((first|apply bG|apply bH);simp only[yP,yQ];first|refine zIB (q1 _ (by first|exact hD|exact hD.app _)) (.inl rfl) ?_|refine zIB (q2 _ (by first|exact hD|exact hD.app _)) (.inl rfl) ?_|refine zIB (q3 _ (by first|exact hD|exact hD.app _)) (.inl rfl) ?_|refine zIB (q4 _ (by first|exact hD|exact hD.app _)) (.inl rfl) ?_|refine zIB (q5 _ (by first|exact hD|exact hD.app _)) (.inl rfl) ?_|refine zIB (q6 _ (by first|exact hD|exact hD.app _)) (.inl rfl) ?_)
  |refine zJ9 ?_ zdZ Tryz.f100.ntmps rfl (by decide)
  |skip)<;>simp only[↓zaL,WY,yA,yB,reduceCtorEq,W1,WS,W3,yI,zda,zdY,wK,bxR,arR,bxK,arK,quaP hD,zTh,yN,b1,b7]
theorem zfe(hD:QuaD F p q w a){σ:Sto}(hg:GoodS σ)(hL:σ.L.length<=800000)(hcb:0<=σ.cnt/\σ.cnt<=800000){x y:Nat}(hx:x<σ.L.length)(hy:y<σ.L.length)(ex:σ.L.st.root x=x)(ey:σ.L.st.root y=y)(h6:σ.L.st.kind x=6)(left:Bool)(ver len:Nat)(ps:List (Nat×Nat))
 (hk6:σ.L.st.kind y≠6) (h4:4∈σ.L.st.all y) (hin:x ∉ σ.L.st.all y) {c d:Nat} (hks:σ.L.st.kids y=[c,d]) (hc:¬σ.cnt<lim):
 zAd Tryz.prog 100 [.bptr w 0,.int .i64 x,.int .i64 y,.bool left] (wK F p q w a lim σ ver len ps) (.int .i64 7) (wK F p q w a lim σ ver len ps):=by
 have hne:q≠p:=fun e=>hD.d1.1 e.symm
 have hx':x<σ.L.st.length:=by rw[Mem.zXR];exact hx
 have hy':y<σ.L.st.length:=by rw[Mem.zXR];exact hy
 have hL':σ.L.st.length<=1000000:=by rw[Mem.zXR];omega
 have h0:=BcF.init hg hx hy ex ey h6
 have hlv:=hg.lv x h6
 have q1:=fun(F:List AObj) (hD:QuaD F p q w a)=>dK (lim:=lim) (fun G hs hr=>zfq (F:=G) (v:=σ.v) (lim:=lim) (cnt:=σ.cnt) hs hr hne hg.si.wf y hy') hD ver len ps
 have q2:=fun(F:List AObj) (hD:QuaD F p q w a)=>dK (lim:=lim) (fun G hs hr=>zgU (F:=G) (v:=σ.v) (lim:=lim) (cnt:=σ.cnt) hs hr hne hg.si.wf hL' y hy') hD ver len ps
 have q3:=fun(F:List AObj) (hD:QuaD F p q w a)=>dK (lim:=lim) (fun G hs hr=>zge (F:=G) (v:=σ.v) (lim:=lim) (cnt:=σ.cnt) hs hr hne hg.si.wf hL' x y hx' hy') hD ver len ps
 have q4:=fun(F:List AObj) (hD:QuaD F p q w a)=>dK (lim:=lim) (fun G hs hr=>zfo (F:=G) (v:=σ.v) (lim:=lim) (cnt:=σ.cnt) hs hr hne hg.si.wf y hy') hD ver len ps
 rw[ey]at q1
 rw[ex,decide_eq_false hin]at q3
 rw[decide_eq_false (fun h=>h h4)]at q2
 rw[ey,hks]at q4
 simp only[kidI,List.map_cons,List.map_nil,I64]at q4
 have b1:(σ.L.st.kind y==6)=false:=by rw[YAZ];exact hk6
 have q5:=fun(F:List AObj) (hD:QuaD F p q w a)=>h0.q5 (lim:=lim) hD ver len ps
 generalize (σ.L.st.nd x).level=lv at*
 have q6:=fun(F:List AObj) (hD:QuaD F p q w a)=>zfE (lim:=lim) (τ:=σ) hD lv hlv hc ver len ps
 have b7:((7:Int) !=0)=true:=by decide
 unfold zAd
 refine eD zdZ Tryz.func100 Tryz.results100 fun ok=> ?_
 repeat' (first
  |((first|apply bG|apply bH);simp only[yP,yQ];first|refine zIB (q1 _ (by first|exact hD|exact hD.app _)) (.inl rfl) ?_|refine zIB (q2 _ (by first|exact hD|exact hD.app _)) (.inl rfl) ?_|refine zIB (q3 _ (by first|exact hD|exact hD.app _)) (.inl rfl) ?_|refine zIB (q4 _ (by first|exact hD|exact hD.app _)) (.inl rfl) ?_|refine zIB (q5 _ (by first|exact hD|exact hD.app _)) (.inl rfl) ?_|refine zIB (q6 _ (by first|exact hD|exact hD.app _)) (.inl rfl) ?_)
  |refine zJ9 ?_ zdZ Tryz.f100.ntmps rfl (by decide)
  |skip)<;>simp only[↓zaL,WY,yA,yB,reduceCtorEq,W1,WS,W3,yI,zda,zdY,wK,bxR,arR,bxK,arK,quaP hD,zTh,yN,b1,b7]
theorem zfc(hD:QuaD F p q w a){σ:Sto}(hg:GoodS σ)(hL:σ.L.length<=800000)(hcb:0<=σ.cnt/\σ.cnt<=800000){x y:Nat}(hx:x<σ.L.length)(hy:y<σ.L.length)(ex:σ.L.st.root x=x)(ey:σ.L.st.root y=y)(h6:σ.L.st.kind x=6)(left:Bool)(ver len:Nat)(ps:List (Nat×Nat))
 (hk8:σ.L.st.kind y=8) (h4:4∈σ.L.st.all y) (hin:x ∉ σ.L.st.all y) {c:Nat} (hks:σ.L.st.kids y=[c]) (hc0:σ.cnt<lim) (hc:¬σ.cnt+1<lim):
 zAd Tryz.prog 100 [.bptr w 0,.int .i64 x,.int .i64 y,.bool left] (wK F p q w a lim σ ver len ps) (.int .i64 7) (wK F p q w a lim (σ.var (σ.L.st.nd x).level) ver len ps):=by
 have hk6:σ.L.st.kind y≠6:=by omega
 have hne:q≠p:=fun e=>hD.d1.1 e.symm
 have hx':x<σ.L.st.length:=by rw[Mem.zXR];exact hx
 have hy':y<σ.L.st.length:=by rw[Mem.zXR];exact hy
 have hL':σ.L.st.length<=1000000:=by rw[Mem.zXR];omega
 have h0:=BcF.init hg hx hy ex ey h6
 have hlv:=hg.lv x h6
 have q1:=fun(F:List AObj) (hD:QuaD F p q w a)=>dK (lim:=lim) (fun G hs hr=>zfq (F:=G) (v:=σ.v) (lim:=lim) (cnt:=σ.cnt) hs hr hne hg.si.wf y hy') hD ver len ps
 have q2:=fun(F:List AObj) (hD:QuaD F p q w a)=>dK (lim:=lim) (fun G hs hr=>zgU (F:=G) (v:=σ.v) (lim:=lim) (cnt:=σ.cnt) hs hr hne hg.si.wf hL' y hy') hD ver len ps
 have q3:=fun(F:List AObj) (hD:QuaD F p q w a)=>dK (lim:=lim) (fun G hs hr=>zge (F:=G) (v:=σ.v) (lim:=lim) (cnt:=σ.cnt) hs hr hne hg.si.wf hL' x y hx' hy') hD ver len ps
 have q4:=fun(F:List AObj) (hD:QuaD F p q w a)=>dK (lim:=lim) (fun G hs hr=>zfo (F:=G) (v:=σ.v) (lim:=lim) (cnt:=σ.cnt) hs hr hne hg.si.wf y hy') hD ver len ps
 rw[ey]at q1
 rw[ex,decide_eq_false hin]at q3
 rw[decide_eq_false (fun h=>h h4)]at q2
 rw[ey,hks]at q4
 simp only[kidI,List.map_cons,List.map_nil,I64]at q4
 have b1:(σ.L.st.kind y==6)=false:=by rw[YAZ];exact hk6
 have q5:=fun(F:List AObj) (hD:QuaD F p q w a)=>h0.q5 (lim:=lim) hD ver len ps
 generalize (σ.L.st.nd x).level=lv at*
 have h1:=h0.var hlv
 have q6:=fun(F:List AObj) (hD:QuaD F p q w a)=>zfF (lim:=lim) (τ:=σ) hD lv hlv (by omega) (by omega) ⟨hcb.1,by omega⟩ ver len ps
 have q7:=fun(F:List AObj) (hD:QuaD F p q w a)=>h1.q7 (lim:=lim) hD ver len ps
 have e1:(σ.var lv).L.length=σ.L.length+1:=Sto.zaS _ _
 have c1:(σ.var lv).cnt=σ.cnt+1:=rfl
 have q8:=fun(F:List AObj) (hD:QuaD F p q w a)=>zfH (lim:=lim) (τ:=σ.var lv) hD σ.L.length σ.L.length (by omega) (by omega) ver len ps
 rw[hk8]at q1 q7 b1
 have v0:IntKind.wrap .i64 (1-1)=0:=by decide
 have v1:IntKind.wrap .i64 (0+1)=1:=by decide
 have b7:((7:Int) !=0)=true:=by decide
 unfold zAd
 refine eD zdZ Tryz.func100 Tryz.results100 fun ok=> ?_
 repeat' (first
  |((first|apply bG|apply bH);simp only[yP,yQ];first|refine zIB (q1 _ (by first|exact hD|exact hD.app _)) (.inl rfl) ?_|refine zIB (q2 _ (by first|exact hD|exact hD.app _)) (.inl rfl) ?_|refine zIB (q3 _ (by first|exact hD|exact hD.app _)) (.inl rfl) ?_|refine zIB (q4 _ (by first|exact hD|exact hD.app _)) (.inl rfl) ?_|refine zIB (q5 _ (by first|exact hD|exact hD.app _)) (.inl rfl) ?_|refine zIA (q6 _ (by first|exact hD|exact hD.app _)) (.inl rfl) (fun hb=>kdB (by first|exact hD|exact hD.app _) hb) ?_|refine zIk rfl (q7 _ (by first|exact hD|exact hD.app _) _ _ _ _ (by simp[quaP hD,bxR,arR])) (.inl rfl) ?_|refine zIl rfl trivial (q8 _ (by first|exact hD|exact hD.app _)) (.inl rfl) (fun hb=>kdB (by first|exact hD|exact hD.app _) hb) ?_)
  |refine drA zdZ 15 0 ?_
  |refine zJ9 ?_ zdZ Tryz.f100.ntmps rfl (by decide)
  |skip)<;>simp only[↓zaL,WY,yA,yB,yD,reduceCtorEq,yE,yF,W1,WS,W3,yI,yL,yM,zda,zdY,wK,bxR,arR,bxK,arK,quaP hD,zTh,yN,b1,b7,v0]
theorem zff(hD:QuaD F p q w a){σ:Sto}(hg:GoodS σ)(hL:σ.L.length<=800000)(hcb:0<=σ.cnt/\σ.cnt<=800000){x y:Nat}(hx:x<σ.L.length)(hy:y<σ.L.length)(ex:σ.L.st.root x=x)(ey:σ.L.st.root y=y)(h6:σ.L.st.kind x=6)(left:Bool)(ver len:Nat)(ps:List (Nat×Nat))
 (hk79:σ.L.st.kind y=7\/σ.L.st.kind y=9) (h4:4∈σ.L.st.all y) (hin:x ∉ σ.L.st.all y) {c d:Nat} (hks:σ.L.st.kids y=[c,d]) (hc0:σ.cnt<lim) (hc:¬σ.cnt+1<lim):
 zAd Tryz.prog 100 [.bptr w 0,.int .i64 x,.int .i64 y,.bool left] (wK F p q w a lim σ ver len ps) (.int .i64 7) (wK F p q w a lim (σ.var (σ.L.st.nd x).level) ver len ps):=by
 have hk6:σ.L.st.kind y≠6:=by omega
 have hne:q≠p:=fun e=>hD.d1.1 e.symm
 have hx':x<σ.L.st.length:=by rw[Mem.zXR];exact hx
 have hy':y<σ.L.st.length:=by rw[Mem.zXR];exact hy
 have hL':σ.L.st.length<=1000000:=by rw[Mem.zXR];omega
 have h0:=BcF.init hg hx hy ex ey h6
 have hlv:=hg.lv x h6
 have q1:=fun(F:List AObj) (hD:QuaD F p q w a)=>dK (lim:=lim) (fun G hs hr=>zfq (F:=G) (v:=σ.v) (lim:=lim) (cnt:=σ.cnt) hs hr hne hg.si.wf y hy') hD ver len ps
 have q2:=fun(F:List AObj) (hD:QuaD F p q w a)=>dK (lim:=lim) (fun G hs hr=>zgU (F:=G) (v:=σ.v) (lim:=lim) (cnt:=σ.cnt) hs hr hne hg.si.wf hL' y hy') hD ver len ps
 have q3:=fun(F:List AObj) (hD:QuaD F p q w a)=>dK (lim:=lim) (fun G hs hr=>zge (F:=G) (v:=σ.v) (lim:=lim) (cnt:=σ.cnt) hs hr hne hg.si.wf hL' x y hx' hy') hD ver len ps
 have q4:=fun(F:List AObj) (hD:QuaD F p q w a)=>dK (lim:=lim) (fun G hs hr=>zfo (F:=G) (v:=σ.v) (lim:=lim) (cnt:=σ.cnt) hs hr hne hg.si.wf y hy') hD ver len ps
 rw[ey]at q1
 rw[ex,decide_eq_false hin]at q3
 rw[decide_eq_false (fun h=>h h4)]at q2
 rw[ey,hks]at q4
 simp only[kidI,List.map_cons,List.map_nil,I64]at q4
 have b1:(σ.L.st.kind y==6)=false:=by rw[YAZ];exact hk6
 have q5:=fun(F:List AObj) (hD:QuaD F p q w a)=>h0.q5 (lim:=lim) hD ver len ps
 generalize (σ.L.st.nd x).level=lv at*
 have h1:=h0.var hlv
 have h2:=h1.var hlv
 have q6:=fun(F:List AObj) (hD:QuaD F p q w a)=>zfF (lim:=lim) (τ:=σ) hD lv hlv (by omega) (by omega) ⟨hcb.1,by omega⟩ ver len ps
 have q5':=fun(F:List AObj) (hD:QuaD F p q w a)=>h1.q5 (lim:=lim) hD ver len ps
 have e1:(σ.var lv).L.length=σ.L.length+1:=Sto.zaS _ _
 have c1:(σ.var lv).cnt=σ.cnt+1:=rfl
 have e2:((σ.var lv).var lv).L.length=σ.L.length+2:=by rw[Sto.zaS,e1]
 have c2:((σ.var lv).var lv).cnt=σ.cnt+1+1:=rfl
 have v0:IntKind.wrap .i64 (2-1)=1:=by decide
 have v1:IntKind.wrap .i64 (0+1)=1:=by decide
 have v2:IntKind.wrap .i64 (1+1)=2:=by decide
 have b7:((7:Int) !=0)=true:=by decide
 have q6':=fun(F:List AObj) (hD:QuaD F p q w a)=>zfE (lim:=lim) (τ:=σ.var lv) hD lv hlv (by omega) ver len ps
 unfold zAd
 refine eD zdZ Tryz.func100 Tryz.results100 fun ok=> ?_
 repeat' (first
  |((first|apply bG|apply bH);simp only[yP,yQ];first|refine zIB (q1 _ (by first|exact hD|exact hD.app _)) (.inl rfl) ?_|refine zIB (q2 _ (by first|exact hD|exact hD.app _)) (.inl rfl) ?_|refine zIB (q3 _ (by first|exact hD|exact hD.app _)) (.inl rfl) ?_|refine zIB (q4 _ (by first|exact hD|exact hD.app _)) (.inl rfl) ?_|refine zIB (q5 _ (by first|exact hD|exact hD.app _)) (.inl rfl) ?_|refine zIA (q6 _ (by first|exact hD|exact hD.app _)) (.inl rfl) (fun hb=>kdB (by first|exact hD|exact hD.app _) hb) ?_|refine zIB (q5' _ (by first|exact hD|exact hD.app _)) (.inl rfl) ?_|refine zIB (q6' _ (by first|exact hD|exact hD.app _)) (.inl rfl) ?_)
  |refine zJ9 ?_ zdZ Tryz.f100.ntmps rfl (by decide)
  |skip)<;>simp only[↓zaL,WY,yA,yB,yD,reduceCtorEq,yE,yF,W1,WS,W3,yI,yL,zda,zdY,wK,bxR,arR,bxK,arK,quaP hD,zTh,yN,b1,b7]
 all_goals trace_state
theorem zfg(hD:QuaD F p q w a){σ:Sto}(hg:GoodS σ)(hL:σ.L.length<=800000)(hcb:0<=σ.cnt/\σ.cnt<=800000){x y:Nat}(hx:x<σ.L.length)(hy:y<σ.L.length)(ex:σ.L.st.root x=x)(ey:σ.L.st.root y=y)(h6:σ.L.st.kind x=6)(left:Bool)(ver len:Nat)(ps:List (Nat×Nat))
 (hk79:σ.L.st.kind y=7\/σ.L.st.kind y=9) (h4:4∈σ.L.st.all y) (hin:x ∉ σ.L.st.all y) {c d:Nat} (hks:σ.L.st.kids y=[c,d]) (hc0:σ.cnt+1<lim) (hc:¬σ.cnt+2<lim):
 zAd Tryz.prog 100 [.bptr w 0,.int .i64 x,.int .i64 y,.bool left] (wK F p q w a lim σ ver len ps) (.int .i64 7) (wK F p q w a lim ((σ.var (σ.L.st.nd x).level).var (σ.L.st.nd x).level) ver len ps):=by
 have hk6:σ.L.st.kind y≠6:=by omega
 have hne:q≠p:=fun e=>hD.d1.1 e.symm
 have hx':x<σ.L.st.length:=by rw[Mem.zXR];exact hx
 have hy':y<σ.L.st.length:=by rw[Mem.zXR];exact hy
 have hL':σ.L.st.length<=1000000:=by rw[Mem.zXR];omega
 have h0:=BcF.init hg hx hy ex ey h6
 have hlv:=hg.lv x h6
 have q1:=fun(F:List AObj) (hD:QuaD F p q w a)=>dK (lim:=lim) (fun G hs hr=>zfq (F:=G) (v:=σ.v) (lim:=lim) (cnt:=σ.cnt) hs hr hne hg.si.wf y hy') hD ver len ps
 have q2:=fun(F:List AObj) (hD:QuaD F p q w a)=>dK (lim:=lim) (fun G hs hr=>zgU (F:=G) (v:=σ.v) (lim:=lim) (cnt:=σ.cnt) hs hr hne hg.si.wf hL' y hy') hD ver len ps
 have q3:=fun(F:List AObj) (hD:QuaD F p q w a)=>dK (lim:=lim) (fun G hs hr=>zge (F:=G) (v:=σ.v) (lim:=lim) (cnt:=σ.cnt) hs hr hne hg.si.wf hL' x y hx' hy') hD ver len ps
 have q4:=fun(F:List AObj) (hD:QuaD F p q w a)=>dK (lim:=lim) (fun G hs hr=>zfo (F:=G) (v:=σ.v) (lim:=lim) (cnt:=σ.cnt) hs hr hne hg.si.wf y hy') hD ver len ps
 rw[ey]at q1
 rw[ex,decide_eq_false hin]at q3
 rw[decide_eq_false (fun h=>h h4)]at q2
 rw[ey,hks]at q4
 simp only[kidI,List.map_cons,List.map_nil,I64]at q4
 have b1:(σ.L.st.kind y==6)=false:=by rw[YAZ];exact hk6
 have q5:=fun(F:List AObj) (hD:QuaD F p q w a)=>h0.q5 (lim:=lim) hD ver len ps
 generalize (σ.L.st.nd x).level=lv at*
 have h1:=h0.var hlv
 have h2:=h1.var hlv
 have q6:=fun(F:List AObj) (hD:QuaD F p q w a)=>zfF (lim:=lim) (τ:=σ) hD lv hlv (by omega) (by omega) ⟨hcb.1,by omega⟩ ver len ps
 have q5':=fun(F:List AObj) (hD:QuaD F p q w a)=>h1.q5 (lim:=lim) hD ver len ps
 have e1:(σ.var lv).L.length=σ.L.length+1:=Sto.zaS _ _
 have c1:(σ.var lv).cnt=σ.cnt+1:=rfl
 have e2:((σ.var lv).var lv).L.length=σ.L.length+2:=by rw[Sto.zaS,e1]
 have c2:((σ.var lv).var lv).cnt=σ.cnt+1+1:=rfl
 have v0:IntKind.wrap .i64 (2-1)=1:=by decide
 have v1:IntKind.wrap .i64 (0+1)=1:=by decide
 have v2:IntKind.wrap .i64 (1+1)=2:=by decide
 have b7:((7:Int) !=0)=true:=by decide
 have q6':=fun(F:List AObj) (hD:QuaD F p q w a)=>zfF (lim:=lim) (τ:=σ.var lv) hD lv hlv (by omega) (by omega) ⟨by omega,by omega⟩ ver len ps
 have q7:=fun(F:List AObj) (hD:QuaD F p q w a)=>h2.q7 (lim:=lim) hD ver len ps
 have q8:=fun(F:List AObj) (hD:QuaD F p q w a)=>zfJ (lim:=lim) (τ:=(σ.var lv).var lv) hD hk79 σ.L.length (σ.L.length+1) (by omega) (by omega) (by omega) ver len ps
 rw[e1]at q6'
 unfold zAd
 refine eD zdZ Tryz.func100 Tryz.results100 fun ok=> ?_
 repeat' (first
  |((first|apply bG|apply bH);simp only[yP,yQ];first|refine zIB (q1 _ (by first|exact hD|exact hD.app _)) (.inl rfl) ?_|refine zIB (q2 _ (by first|exact hD|exact hD.app _)) (.inl rfl) ?_|refine zIB (q3 _ (by first|exact hD|exact hD.app _)) (.inl rfl) ?_|refine zIB (q4 _ (by first|exact hD|exact hD.app _)) (.inl rfl) ?_|refine zIB (q5 _ (by first|exact hD|exact hD.app _)) (.inl rfl) ?_|refine zIA (q6 _ (by first|exact hD|exact hD.app _)) (.inl rfl) (fun hb=>kdB (by first|exact hD|exact hD.app _) hb) ?_|refine zIB (q5' _ (by first|exact hD|exact hD.app _)) (.inl rfl) ?_|refine zIA (q6' _ (by first|exact hD|exact hD.app _)) (.inl rfl) (fun hb=>kdB (by first|exact hD|exact hD.app _) hb) ?_|refine zIk rfl (q7 _ (by first|exact hD|exact hD.app _) _ _ _ _ (by simp[quaP hD,bxR,arR])) (.inl rfl) ?_|refine zIl rfl trivial (q8 _ (by first|exact hD|exact hD.app _)) (.inl rfl) (fun hb=>kdB (by first|exact hD|exact hD.app _) hb) ?_)
  |refine drA zdZ 15 0 ?_
  |refine zJ9 ?_ zdZ Tryz.f100.ntmps rfl (by decide)
  |skip)<;>simp only[↓zaL,WY,yA,yB,yD,reduceCtorEq,yE,yF,W1,WS,W3,yH,yI,yL,yM,zda,zdY,wK,bxR,arR,bxK,arK,quaP hD,zTh,yN,b1,b7,v0]
 all_goals trace_state
theorem zfd(hD:QuaD F p q w a){σ:Sto}(hg:GoodS σ)(hL:σ.L.length<=800000)(hcb:0<=σ.cnt/\σ.cnt<=800000){x y:Nat}(hx:x<σ.L.length)(hy:y<σ.L.length)(ex:σ.L.st.root x=x)(ey:σ.L.st.root y=y)(h6:σ.L.st.kind x=6)(left:Bool)(ver len:Nat)(ps:List (Nat×Nat))
 (hk79:σ.L.st.kind y=7\/σ.L.st.kind y=9) (h4:4∈σ.L.st.all y) (hin:x ∉ σ.L.st.all y) {c d:Nat} (hks:σ.L.st.kids y=[c,d]) (hc:σ.cnt+2<lim) (hle:len<=ps.length) (hlen:len<=1000000000000):
 zAd Tryz.prog 100 [.bptr w 0,.int .i64 x,.int .i64 y,.bool left] (wK F p q w a lim σ ver len ps) (.int .i64 0)
  (wK F p q w a lim ((((σ.var (σ.L.st.nd x).level).var (σ.L.st.nd x).level).mk' (σ.L.st.kind y) [σ.L.length,σ.L.length+1]).link x (σ.L.length+2)).2 (ver+1+1) (len+1+1) (ps.take len++if left=true then [(σ.L.length+1,d),(σ.L.length,c)]else [(d,σ.L.length+1),(c,σ.L.length)])):=by
 have hk6:σ.L.st.kind y≠6:=by omega
 have hne:q≠p:=fun e=>hD.d1.1 e.symm
 have hx':x<σ.L.st.length:=by rw[Mem.zXR];exact hx
 have hy':y<σ.L.st.length:=by rw[Mem.zXR];exact hy
 have hL':σ.L.st.length<=1000000:=by rw[Mem.zXR];omega
 have h0:=BcF.init hg hx hy ex ey h6
 have hlv:=hg.lv x h6
 have q1:=fun(F:List AObj) (hD:QuaD F p q w a)=>dK (lim:=lim) (fun G hs hr=>zfq (F:=G) (v:=σ.v) (lim:=lim) (cnt:=σ.cnt) hs hr hne hg.si.wf y hy') hD ver len ps
 have q2:=fun(F:List AObj) (hD:QuaD F p q w a)=>dK (lim:=lim) (fun G hs hr=>zgU (F:=G) (v:=σ.v) (lim:=lim) (cnt:=σ.cnt) hs hr hne hg.si.wf hL' y hy') hD ver len ps
 have q3:=fun(F:List AObj) (hD:QuaD F p q w a)=>dK (lim:=lim) (fun G hs hr=>zge (F:=G) (v:=σ.v) (lim:=lim) (cnt:=σ.cnt) hs hr hne hg.si.wf hL' x y hx' hy') hD ver len ps
 have q4:=fun(F:List AObj) (hD:QuaD F p q w a)=>dK (lim:=lim) (fun G hs hr=>zfo (F:=G) (v:=σ.v) (lim:=lim) (cnt:=σ.cnt) hs hr hne hg.si.wf y hy') hD ver len ps
 rw[ey]at q1
 rw[ex,decide_eq_false hin]at q3
 rw[decide_eq_false (fun h=>h h4)]at q2
 rw[ey,hks]at q4
 simp only[kidI,List.map_cons,List.map_nil,I64]at q4
 have b1:(σ.L.st.kind y==6)=false:=by rw[YAZ];exact hk6
 have q5:=fun(F:List AObj) (hD:QuaD F p q w a)=>h0.q5 (lim:=lim) hD ver len ps
 generalize (σ.L.st.nd x).level=lv at*
 have h1:=h0.var hlv
 have h2:=h1.var hlv
 have q6:=fun(F:List AObj) (hD:QuaD F p q w a)=>zfF (lim:=lim) (τ:=σ) hD lv hlv (by omega) (by omega) ⟨hcb.1,by omega⟩ ver len ps
 have q5':=fun(F:List AObj) (hD:QuaD F p q w a)=>h1.q5 (lim:=lim) hD ver len ps
 have e1:(σ.var lv).L.length=σ.L.length+1:=Sto.zaS _ _
 have c1:(σ.var lv).cnt=σ.cnt+1:=rfl
 have e2:((σ.var lv).var lv).L.length=σ.L.length+2:=by rw[Sto.zaS,e1]
 have c2:((σ.var lv).var lv).cnt=σ.cnt+1+1:=rfl
 have v0:IntKind.wrap .i64 (2-1)=1:=by decide
 have v1:IntKind.wrap .i64 (0+1)=1:=by decide
 have v2:IntKind.wrap .i64 (1+1)=2:=by decide
 have b7:((7:Int) !=0)=true:=by decide
 have q6':=fun(F:List AObj) (hD:QuaD F p q w a)=>zfF (lim:=lim) (τ:=σ.var lv) hD lv hlv (by omega) (by omega) ⟨by omega,by omega⟩ ver len ps
 have q7:=fun(F:List AObj) (hD:QuaD F p q w a)=>h2.q7 (lim:=lim) hD ver len ps
 have q8:=fun(F:List AObj) (hD:QuaD F p q w a)=>zfI (lim:=lim) (τ:=(σ.var lv).var lv) hD hk79 σ.L.length (σ.L.length+1) (by omega) (by omega) (by omega) (by omega) ⟨by omega,by omega⟩ ver len ps
 rw[e1]at q6'
 rw[e2]at q8
 have hg2:GoodS (((σ.var lv).var lv).mk' (σ.L.st.kind y) [σ.L.length,σ.L.length+1]):=h2.good.mk' (.inl ⟨hk79,rfl⟩) (by intro z hz;simp only[List.mem_cons,List.not_mem_nil,or_false]at hz;omega)
 have x2:=h2.x0.mk' (σ.L.st.kind y) [σ.L.length,σ.L.length+1] h2.good.si.wf hg2.si.wf
 have e3:(((σ.var lv).var lv).mk' (σ.L.st.kind y) [σ.L.length,σ.L.length+1]).L.length=σ.L.length+3:=by rw[Sto.zPc,e2]
 have er:=(Ext0.refl ((σ.var lv).var lv)).zPe (σ.L.st.kind y) [σ.L.length,σ.L.length+1]
 rw[e2]at er
 have q9:=fun(F:List AObj) (hD:QuaD F p q w a)=>dK (lim:=lim) (fun G hs hr=>zfw (F:=G) (lim:=lim) (σ:=((σ.var lv).var lv).mk' (σ.L.st.kind y) [σ.L.length,σ.L.length+1]) (x:=x) (y:=σ.L.length+2) hs hr hne hg2 (by omega) (by omega) (by omega) (by rw[(x2.kind hx').1];exact ex) er (by rw[(x2.kind hx').2];exact h6) (by omega)) hD ver len ps
 generalize hB:(((σ.var lv).var lv).mk' (σ.L.st.kind y) [σ.L.length,σ.L.length+1]).link x (σ.L.length+2)=B at*
 obtain⟨be,σ2⟩:=B
 simp only at q9⊢
 unfold zAd
 cases left with
 |true=>
  have k9:=fun(F:List AObj) (hD:QuaD F p q w a)=>zfn (lim:=lim) hD σ2 ver len ps σ.L.length (σ.L.length+1) c d hle hlen
  refine eD zdZ Tryz.func100 Tryz.results100 fun ok=> ?_
  repeat' (first
   |((first|apply bG|apply bH);simp only[yP,yQ];first|refine zIB (q1 _ (by first|exact hD|exact hD.app _)) (.inl rfl) ?_|refine zIB (q2 _ (by first|exact hD|exact hD.app _)) (.inl rfl) ?_|refine zIB (q3 _ (by first|exact hD|exact hD.app _)) (.inl rfl) ?_|refine zIB (q4 _ (by first|exact hD|exact hD.app _)) (.inl rfl) ?_|refine zIB (q5 _ (by first|exact hD|exact hD.app _)) (.inl rfl) ?_|refine zIA (q6 _ (by first|exact hD|exact hD.app _)) (.inl rfl) (fun hb=>kdB (by first|exact hD|exact hD.app _) hb) ?_|refine zIB (q5' _ (by first|exact hD|exact hD.app _)) (.inl rfl) ?_|refine zIA (q6' _ (by first|exact hD|exact hD.app _)) (.inl rfl) (fun hb=>kdB (by first|exact hD|exact hD.app _) hb) ?_|refine zIk rfl (q7 _ (by first|exact hD|exact hD.app _) _ _ _ _ (by simp[quaP hD,bxR,arR])) (.inl rfl) ?_|refine zIl rfl trivial (q8 _ (by first|exact hD|exact hD.app _)) (.inl rfl) (fun hb=>kdB (by first|exact hD|exact hD.app _) hb) ?_|refine zIA (q9 _ (by first|exact hD|exact hD.app _)) (.inl rfl) (fun hb=>kdB (by first|exact hD|exact hD.app _) hb) ?_|refine zIA (k9 _ (by first|exact hD|exact hD.app _)) (.inl rfl) (fun hb=>kdB (by first|exact hD|exact hD.app _) hb) ?_)
   |refine drA zdZ 15 0 ?_
   |refine zJ9 ?_ zdZ Tryz.f100.ntmps rfl (by decide)
   |skip)<;>simp only[↓zaL,WY,yA,yB,yD,reduceCtorEq,yE,yF,W1,WS,W3,yH,yI,yL,yM,zda,zdY,wK,bxR,arR,bxK,arK,quaP hD,zTh,yN,b1,v0]
  all_goals trace_state
 |false=>
  have k9:=fun(F:List AObj) (hD:QuaD F p q w a)=>zfn (lim:=lim) hD σ2 ver len ps c d σ.L.length (σ.L.length+1) hle hlen
  refine eD zdZ Tryz.func100 Tryz.results100 fun ok=> ?_
  repeat' (first
   |((first|apply bG|apply bH);simp only[yP,yQ];first|refine zIB (q1 _ (by first|exact hD|exact hD.app _)) (.inl rfl) ?_|refine zIB (q2 _ (by first|exact hD|exact hD.app _)) (.inl rfl) ?_|refine zIB (q3 _ (by first|exact hD|exact hD.app _)) (.inl rfl) ?_|refine zIB (q4 _ (by first|exact hD|exact hD.app _)) (.inl rfl) ?_|refine zIB (q5 _ (by first|exact hD|exact hD.app _)) (.inl rfl) ?_|refine zIA (q6 _ (by first|exact hD|exact hD.app _)) (.inl rfl) (fun hb=>kdB (by first|exact hD|exact hD.app _) hb) ?_|refine zIB (q5' _ (by first|exact hD|exact hD.app _)) (.inl rfl) ?_|refine zIA (q6' _ (by first|exact hD|exact hD.app _)) (.inl rfl) (fun hb=>kdB (by first|exact hD|exact hD.app _) hb) ?_|refine zIk rfl (q7 _ (by first|exact hD|exact hD.app _) _ _ _ _ (by simp[quaP hD,bxR,arR])) (.inl rfl) ?_|refine zIl rfl trivial (q8 _ (by first|exact hD|exact hD.app _)) (.inl rfl) (fun hb=>kdB (by first|exact hD|exact hD.app _) hb) ?_|refine zIA (q9 _ (by first|exact hD|exact hD.app _)) (.inl rfl) (fun hb=>kdB (by first|exact hD|exact hD.app _) hb) ?_|refine zIA (k9 _ (by first|exact hD|exact hD.app _)) (.inl rfl) (fun hb=>kdB (by first|exact hD|exact hD.app _) hb) ?_)
   |refine drA zdZ 15 0 ?_
   |refine zJ9 ?_ zdZ Tryz.f100.ntmps rfl (by decide)
   |skip)<;>simp only[↓zaL,WY,yA,yB,yD,reduceCtorEq,yE,yF,W1,WS,W3,yH,yI,yL,yM,zda,zdY,wK,bxR,arR,bxK,arK,quaP hD,zTh,yN,b1,v0]
end
end
section
def zB(σ':Sto)(mo:Option Nat)(y:Nat)(left:Bool):List (Nat×Nat):=match mo with
 |none=> []
 |some m=>if left=true then(σ'.L.st.kids m).zip (σ'.L.st.kids y)else(σ'.L.st.kids y).zip (σ'.L.st.kids m)
def psh(ps:List (Nat×Nat))(len:Nat)(z:List (Nat×Nat)):List (Nat×Nat):=if z=[]then ps else ps.take len++z.reverse
theorem LinkS.kids{S:St}{x y:Nat}{σ':Sto}(hx:x<S.length)(h:LinkS S x y σ')(i:Nat):σ'.L.st.kids i=S.kids i:=by
 rw[h.low.lv.kids,St.kids,St.zPy hx]
 split
 ·rename_i e;subst e;rfl
 ·rfl
section
variable {F : List AObj} {p q w a : Nat} {lim : Int}
theorem zfh(hD:QuaD F p q w a){σ:Sto}(hg:GoodS σ)(hL:σ.L.length<=800000)(hcb:0<=σ.cnt/\σ.cnt<=800000)(hlim:σ.cnt<=lim){x y:Nat}(hx:x<σ.L.length)(hy:y<σ.L.length)(ex:σ.L.st.root x=x)(ey:σ.L.st.root y=y)(h6:σ.L.st.kind x=6)(hxy:x≠y)(hy4:y≠4)
 (left:Bool) (ver len:Nat) (ps:List (Nat×Nat)) (hle:len<=ps.length) (hlen:len<=1000000000000):
 zAd Tryz.prog 100 [.bptr w 0,.int .i64 x,.int .i64 y,.bool left] (wK F p q w a lim σ ver len ps) (.int .i64 (σ.become lim x y).2.1)
  (wK F p q w a lim (σ.become lim x y).2.2 (ver+(zB (σ.become lim x y).2.2 (σ.become lim x y).1 y left).length) (len+(zB (σ.become lim x y).2.2 (σ.become lim x y).1 y left).length) (psh ps len (zB (σ.become lim x y).2.2 (σ.become lim x y).1 y left)))/\(σ.become lim x y).2.2.cnt<=lim:=by
 have hw:=hg.si.wf
 have hx':x<σ.L.st.length:=by rw[Mem.zXR];exact hx
 have hy':y<σ.L.st.length:=by rw[Mem.zXR];exact hy
 have lx:σ.L.st.link x=none:=by have:=hw.zUK x;rwa[ex]at this
 have nil1:∀(τ:Sto) (e:Int),zAd Tryz.prog 100 [.bptr w 0,.int .i64 x,.int .i64 y,.bool left] (wK F p q w a lim σ ver len ps) (.int .i64 e) (wK F p q w a lim τ ver len ps)->τ.cnt<=lim->
  zAd Tryz.prog 100 [.bptr w 0,.int .i64 x,.int .i64 y,.bool left] (wK F p q w a lim σ ver len ps) (.int .i64 ((none:Option Nat),e,τ).2.1)
   (wK F p q w a lim ((none:Option Nat),e,τ).2.2 (ver+(zB ((none:Option Nat),e,τ).2.2 ((none:Option Nat),e,τ).1 y left).length) (len+(zB ((none:Option Nat),e,τ).2.2 ((none:Option Nat),e,τ).1 y left).length) (psh ps len (zB ((none:Option Nat),e,τ).2.2 ((none:Option Nat),e,τ).1 y left)))/\τ.cnt<=lim:=
  fun τ e h hc=>⟨h,hc⟩
 unfold Sto.become
 by_cases hk6:σ.L.st.kind y=6
 ·rw[if_pos hk6]
  exact nil1 (σ.link x y).2 (σ.link x y).1 (zfY (lim:=lim) hD hg (by omega) hx hy ex ey h6 hxy left ver len ps (.inl hk6)) (by have:=σ.zNO x y;omega)
 rw[if_neg hk6]
 have m1:=σ.zO0 y
 have g1:=hg.mark y
 by_cases h4:4 ∉ σ.L.st.all y
 ·rw[if_pos h4]
  have:=zfY (lim:=lim) hD g1 (by rw[Sto.zOz];omega) (x:=x) (y:=y) (by rw[Sto.zOz];exact hx) (by rw[Sto.zOz];exact hy) (by rw[m1];exact ex) (by rw[m1];exact ey) (by rw[m1];exact h6) hxy left ver len ps (.inr (by rw[m1];exact h4))
  rw[zhD]at this
  exact nil1 ((σ.mark y).link x y).2 ((σ.mark y).link x y).1 this (by have:=(σ.mark y).zNO x y;have e:(σ.mark y).cnt=σ.cnt:=rfl;omega)
 rw[if_neg h4]
 have h4':4∈σ.L.st.all y:=by
  by_cases c:4∈σ.L.st.all y
  ·exact c
  ·exact absurd c h4
 by_cases hin:x∈σ.L.st.all y
 ·rw[if_pos hin]
  have:=zfZ (lim:=lim) hD hg (by omega) hx hy ex ey left ver len ps hk6 h4' hin
  exact nil1 _ _ (by rw[zhD,zhD];exact this) hlim
 rw[if_neg hin]
 have g2:=g1.mark y
 have m2:=σ.zO1 y y
 have n2:((σ.mark y).mark y).L.length=σ.L.length:=by rw[Sto.zOz,Sto.zOz]
 have c2:((σ.mark y).mark y).cnt=σ.cnt:=rfl
 have ew:wK F p q w a lim σ ver len ps=wK F p q w a lim ((σ.mark y).mark y) ver len ps:=by rw[zhD,zhD]
 rw[<-n2,<-c2,<-m2,ew]
 rw[<-n2]at hL hx hy
 rw[<-c2]at hcb hlim
 rw[<-m2]at ex ey h6 lx hin h4' hk6 hx' hy' hw
 generalize (σ.mark y).mark y=τ at*
 clear ew n2 c2 m2 nil1 h4 m1
 have hlv:=g2.lv x h6
 rcases hw.zVs (y:=y) hy' with hk|⟨h5,_,hk⟩|⟨hk,c,hks⟩|⟨hk,c,d,hks⟩
 ·exact absurd hk.1 hk6
 ·exfalso
  have:=(hw.zPE hy').1 h4'
  rw[zTP,ey,hk]at this
  simp at this
  exact hy4 this.symm
 ·rw[hks]
  simp only
  by_cases c0:τ.cnt=lim
  ·rw[if_pos c0]
   exact⟨zfb (lim:=lim) hD g2 hL hcb hx hy ex ey h6 left ver len ps hk6 h4' hin hks (by omega),hlim⟩
  rw[if_neg c0]
  by_cases c1:τ.cnt+1=lim
  ·rw[if_pos c1]
   exact⟨zfc (lim:=lim) hD g2 hL hcb hx hy ex ey h6 left ver len ps hk h4' hin hks (by omega) (by omega),by show τ.cnt+1<=lim;omega⟩
  rw[if_neg c1]
  have qq:=zfa (lim:=lim) hD g2 hL hcb hx hy ex ey h6 left ver len ps hk h4' hin hks (by omega) hle hlen
  have cp:=zFS hw hx' h6 lx hy' hk hks
  have g5:=(g2.var hlv).mk' (k:=τ.L.st.kind y) (ks:=[τ.L.length]) (.inr ⟨hk,rfl⟩) (by intro z hz;simp only[List.mem_singleton]at hz;rw[Sto.zaS];omega)
  have e1:((τ.var (τ.L.st.nd x).level).mk' (τ.L.st.kind y) [τ.L.length]).L.st=τ.L.st.cpy1 x y:=by
   rw[Sto.mk',Mem.zXM,Sto.var,Mem.zXM,St.cpy1,Mem.zXR];rfl
  have hcn:((τ.var (τ.L.st.nd x).level).mk' (τ.L.st.kind y) [τ.L.length]).cnt=τ.cnt+1+1:=rfl
  generalize (τ.var (τ.L.st.nd x).level).mk' (τ.L.st.kind y) [τ.L.length]=υ at*
  have c':=cp.can
  rw[<-e1,Mem.zXR]at c'
  obtain⟨q1,q2⟩:=Sto.zNU g5 c'
  have q3:=υ.zNO x (τ.L.length+1)
  have kk:=q2.kids c'.hx
  rw[e1]at kk
  have k1:=kk (τ.L.length+1)
  have k2:=kk y
  rw[<-Mem.zXR τ.L,cp.kids]at k1
  rw[cp.ext.kids y hy',hks]at k2
  rw[Mem.zXR]at k1
  have hz:zB (υ.link x (τ.L.length+1)).2 (some (τ.L.length+1)) y left=[if left=true then(τ.L.length,c)else(c,τ.L.length)]:=by
   unfold zB
   simp only[k1,k2]
   cases left<;>rfl
  refine⟨?_,by show(υ.link x (τ.L.length+1)).2.cnt<=lim;rw[q3,hcn];omega⟩
  show zAd _ _ _ _ (.int .i64 (υ.link x (τ.L.length+1)).1) (wK F p q w a lim (υ.link x (τ.L.length+1)).2 (ver+(zB (υ.link x (τ.L.length+1)).2 (some (τ.L.length+1)) y left).length) (len+(zB (υ.link x (τ.L.length+1)).2 (some (τ.L.length+1)) y left).length) (psh ps len (zB (υ.link x (τ.L.length+1)).2 (some (τ.L.length+1)) y left)))
  rw[hz,q1]
  exact qq
 ·rw[hks]
  simp only
  by_cases c0:τ.cnt=lim
  ·rw[if_pos c0]
   exact⟨zfe (lim:=lim) hD g2 hL hcb hx hy ex ey h6 left ver len ps hk6 h4' hin hks (by omega),hlim⟩
  rw[if_neg c0]
  by_cases c1:τ.cnt+1=lim
  ·rw[if_pos c1]
   exact⟨zff (lim:=lim) hD g2 hL hcb hx hy ex ey h6 left ver len ps hk h4' hin hks (by omega) (by omega),by show τ.cnt+1<=lim;omega⟩
  rw[if_neg c1]
  by_cases c2:τ.cnt+2=lim
  ·rw[if_pos c2]
   exact⟨zfg (lim:=lim) hD g2 hL hcb hx hy ex ey h6 left ver len ps hk h4' hin hks (by omega) (by omega),by show τ.cnt+1+1<=lim;omega⟩
  rw[if_neg c2]
  have qq:=zfd (lim:=lim) hD g2 hL hcb hx hy ex ey h6 left ver len ps hk h4' hin hks (by omega) hle hlen
  have cp:=zFT hw hx' h6 lx hy' hk hks
  have g5:=((g2.var hlv).var hlv).mk' (k:=τ.L.st.kind y) (ks:=[τ.L.length,τ.L.length+1]) (.inl ⟨hk,rfl⟩) (by intro z hz;simp only[List.mem_cons,List.not_mem_nil,or_false]at hz;rw[Sto.zaS,Sto.zaS];omega)
  have e1:(((τ.var (τ.L.st.nd x).level).var (τ.L.st.nd x).level).mk' (τ.L.st.kind y) [τ.L.length,τ.L.length+1]).L.st=τ.L.st.cpy2 x y:=by
   rw[Sto.mk',Mem.zXM,Sto.var,Mem.zXM,Sto.var,Mem.zXM,St.cpy2,Mem.zXR];rfl
  have hcn:(((τ.var (τ.L.st.nd x).level).var (τ.L.st.nd x).level).mk' (τ.L.st.kind y) [τ.L.length,τ.L.length+1]).cnt=τ.cnt+1+1+1:=rfl
  generalize ((τ.var (τ.L.st.nd x).level).var (τ.L.st.nd x).level).mk' (τ.L.st.kind y) [τ.L.length,τ.L.length+1]=υ at*
  have c':=cp.can
  rw[<-e1,Mem.zXR]at c'
  obtain⟨q1,q2⟩:=Sto.zNU g5 c'
  have q3:=υ.zNO x (τ.L.length+2)
  have kk:=q2.kids c'.hx
  rw[e1]at kk
  have k1:=kk (τ.L.length+2)
  have k2:=kk y
  rw[<-Mem.zXR τ.L,cp.kids]at k1
  rw[cp.ext.kids y hy',hks]at k2
  rw[Mem.zXR]at k1
  have hz:zB (υ.link x (τ.L.length+2)).2 (some (τ.L.length+2)) y left=if left=true then [(τ.L.length,c),(τ.L.length+1,d)]else [(c,τ.L.length),(d,τ.L.length+1)]:=by
   unfold zB
   simp only[k1,k2]
   cases left<;>rfl
  refine⟨?_,by show(υ.link x (τ.L.length+2)).2.cnt<=lim;rw[q3,hcn];omega⟩
  show zAd _ _ _ _ (.int .i64 (υ.link x (τ.L.length+2)).1) (wK F p q w a lim (υ.link x (τ.L.length+2)).2 (ver+(zB (υ.link x (τ.L.length+2)).2 (some (τ.L.length+2)) y left).length) (len+(zB (υ.link x (τ.L.length+2)).2 (some (τ.L.length+2)) y left).length) (psh ps len (zB (υ.link x (τ.L.length+2)).2 (some (τ.L.length+2)) y left)))
  rw[hz,q1]
  cases left<;>exact qq
end
end
end Go.Proofs.YtdngjamjccjlmaaGreat
