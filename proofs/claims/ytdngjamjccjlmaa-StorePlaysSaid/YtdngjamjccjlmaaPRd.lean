/- Lemmas: the store of the document, walked, second part. No condition. -/
import Derived.Test.YtdngjamjccjlmaaPRc
import Derived.Test.YtdngjamjccjlmaaPAf
import Derived.Test.YtdngjamjccjlmaaPBa
import Derived.Test.YtdngjamjccjlmaaPWe
import Derived.Test.YtdngjamjccjlmaaPNa
import Derived.Test.YtdngjamjccjlmaaPVa
set_option linter.unusedSimpArgs false
set_option linter.unusedVariables false
set_option maxHeartbeats 4000000
set_option maxRecDepth 100000
namespace Go.Proofs.Ytdngjamjccjlmaa
open Go Go.Ab
open Nat renaming reduceEqDiff -> yA, reduceAdd -> yB, reduceLT -> yC, reduceLeDiff -> yD, reduceMul -> yE, reducePow -> yF
open AV renaming belL -> yO, bel -> yN, normL -> yQ, norm -> yP
open AObj renaming bel -> yR
attribute [local irreducible] zA0 zAA zAa zAi zAj GoIf GoGb zAk GoO GoD GoX GoDX GoG GoDG GoGv zAl Go zAB
section
theorem zeC:zA0 Try.prog 122 [.sl [] .no] (.sl [] .no):=by
 refine zSZ rfl fun F=> ?_
 refine zBP C_ok Try.func122 rfl (by decide) (YAL rfl) fun ok=> ?_
 rw[Try.results122,zLh]
 refine zC5 (zBH C_ok zEA Try.f122.ntmps _ (by decide) rfl ?_)
 rw[X_go]
 simp only[↓zaL,↓zHC,WY,reduceIte,yA,yB,yC,yD,reduceCtorEq,yE,yF,W1,WS,zFY]
 refine zC5 (zC5 (zd7 (v:= .sl [] .no) (e:=3) (tk:= .no) C_ok (show zFG Try.f122.ntmps _=true by decide) rfl rfl (fun K h=>⟨trivial,h⟩) zZo rfl rfl rfl rfl fun b=> ?_))
 simp only[zFY]
 refine zBH C_ok zEA Try.f122.ntmps _ (by decide) rfl ?_
 rw[X_go]
 cases b with
 |true=>
  simp only[↓zaL,↓zHC,WY,reduceIte,yA,yB,yC,yD,reduceCtorEq,yE,yF,W1,WS,zTh,yN,yO]
  all_goals simp
 |false=>
  simp only[↓zaL,↓zHC,WY,reduceIte,yA,yB,yC,yD,reduceCtorEq,yE,yF,W1,WS,zFY]
  refine zBH C_ok zEA Try.f122.ntmps _ (by decide) rfl ?_
  rw[X_go]
  simp only[↓zaL,↓zHC,WY,reduceIte,yA,yB,yC,yD,reduceCtorEq,yE,yF,W1,WS,zTh,yN,yO,List.length_nil]
  all_goals simp
section
variable {F : List AObj} {s r v : Nat} {L : Mem} {lim cnt rd : Int}
theorem zeX(hs:s<F.length)(hr:r<F.length)(hne:r≠s){n:Int}(hn:n<0\/(L.length:Int)<=n):DCalls Try.prog 83 [.bptr s 0,.int .i64 n] (hpS F s r v L lim cnt rd) (.bool false) (hpS F s r v L lim cnt rd):=by
 have:=zMH (v:=v) (L:=L) (lim:=lim) (cnt:=cnt) (rd:=rd) hs hr hne n
 rwa[show(decide (0<=n)&&decide (n<L.length))=false by rw[Bool.and_eq_false_iff,decide_eq_false_iff_not,decide_eq_false_iff_not];omega]at this
theorem zeY(hs:s<F.length)(hr:r<F.length)(hne:r≠s)(hw:Wf L.st)(n:Nat)(hn:n<L.length):DCalls Try.prog 60 [.bptr s 0,.int .i64 n] (hpS F s r v L lim cnt rd) (.sl ((kidI (L.st.kids (L.st.root n))).map I64) .no) (hpS F s r v L lim cnt rd):=by
 have hrl:L.st.root n<L.length:=by have:=hw.root_lt n (by rw[Mem.zXR];exact hn);rwa[Mem.zXR]at this
 by_cases h0:L.st.kids (L.st.root n)=[]
 ·have q1:=zMI (v:=v) (L:=L) (lim:=lim) (cnt:=cnt) (rd:=rd) hs hr hne hn
  have hk:(L.getD (L.st.root n) default).1.kids=[]:=by rw[<-L.nd];exact h0
  have e0:(kidI []).map I64=[]:=rfl
  rw[h0,e0]
  unfold DCalls
  refine eD C_ok Try.func60 Try.results60 fun ok=> ?_
  have h:=YAN
  repeat' (first
   |(with_reducible first|apply bA|apply bB|apply bC|apply bD|apply bE|apply bF)<;>intro h
   |((first|apply bG|apply bH);simp only[yP,yQ,W2,hpS,bxS,arS,stP hs hr hne,zTh,zTg,yN,zOg,hrl,zOf hrl,zGZ,hk,e0,yQ,yO];first|refine zIf (zeC) (.inl rfl) ?_|refine zIj (zeC) (.inl rfl) ?_|refine zIB (q1) (.inl rfl) ?_|refine zIk rfl (zUP (v:=v) (L:=L) (lim:=lim) (cnt:=cnt) (rd:=rd) hs hr hne hw n hn (by simp[stP hs hr hne,bxS,arS])) (.inl rfl) ?_)
   |refine drA C_ok 3 0 ?_
   |skip)<;>simp only[h,↓zaL,↓zHC,WY,reduceIte,yA,yB,yC,yD,reduceCtorEq,yE,yF,W1,WS,hpS,bxS,arS,stP hs hr hne,zTh,zTg,yN,zOg,hrl,zOf hrl,zGZ,hk,e0,yQ,yO]
 ·refine zMd hs hr hne hw n hn ?_ h0
  have:=hw.shape (r:=L.st.root n) (by rw[Mem.zXR];exact hrl) (hw.zUK n)
  rcases this with ⟨_,_,hc⟩|⟨_,_,hc⟩|⟨i,j,_,hc⟩|⟨i,_,hc⟩<;>rw[hc]<;>simp
theorem zeZ(hs:s<F.length)(hr:r<F.length)(hne:r≠s)(n:Int)(hn:n<0\/(L.length:Int)<=n):DCalls Try.prog 60 [.bptr s 0,.int .i64 n] (hpS F s r v L lim cnt rd) (.sl [] .no) (hpS F s r v L lim cnt rd):=by
 have q1:=zeX (v:=v) (L:=L) (lim:=lim) (cnt:=cnt) (rd:=rd) hs hr hne hn
 unfold DCalls
 refine eD C_ok Try.func60 Try.results60 fun ok=> ?_
 have h:=YAN
 repeat' (first
  |(with_reducible first|apply bA|apply bB|apply bC|apply bD|apply bE|apply bF)<;>intro h
  |((first|apply bG|apply bH);simp only[yP,yQ,W2,hpS,bxS,arS,stP hs hr hne,zTh,zTg,yN,zOg,yO];refine zIB (q1) (.inl rfl) ?_)
  |refine drA C_ok 3 0 ?_
  |skip)<;>simp only[h,↓zaL,↓zHC,WY,reduceIte,yA,yB,yC,yD,reduceCtorEq,yE,yF,W1,WS,hpS,bxS,arS,stP hs hr hne,zTh,zTg,yN,zOg,yO]
theorem zee(hs:s<F.length)(hr:r<F.length)(hne:r≠s)(n:Int)(hn:n<0\/(L.length:Int)<=n):DCalls Try.prog 35 [.bptr s 0,.int .i64 n] (hpS F s r v L lim cnt rd) (.int .i64 (-1)) (hpS F s r v L lim cnt rd):=by
 have q1:=zea (v:=v) (L:=L) (lim:=lim) (cnt:=cnt) (rd:=rd) hs hr hne n hn
 have e:((0:Int) !=6)=true:=by decide
 unfold DCalls
 refine eD C_ok Try.func35 Try.results35 fun ok=> ?_
 have h:=YAN
 repeat' (first
  |(with_reducible first|apply bA|apply bB|apply bC|apply bD|apply bE|apply bF)<;>intro h
  |((first|apply bG|apply bH);simp only[yP,yQ,W2,hpS,bxS,arS,stP hs hr hne,zTh,zTg,yN,zOg,e];refine zIB (q1) (.inl rfl) ?_)
  |refine drA C_ok 3 0 ?_
  |skip)<;>simp only[h,↓zaL,↓zHC,WY,reduceIte,yA,yB,yC,yD,reduceCtorEq,yE,yF,W1,WS,hpS,bxS,arS,stP hs hr hne,zTh,zTg,yN,zOg,e]
theorem zg6(hs:s<F.length)(hr:r<F.length)(hne:r≠s)(n:Int)(hn:n<0\/(L.length:Int)<=n):DCalls Try.prog 23 [.bptr s 0,.int .i64 n] (hpS F s r v L lim cnt rd) (.sl [] .no) (hpS F s r v L lim cnt rd):=by
 have q1:=zeX (v:=v) (L:=L) (lim:=lim) (cnt:=cnt) (rd:=rd) hs hr hne hn
 unfold DCalls
 refine eD C_ok Try.func23 Try.results23 fun ok=> ?_
 have h:=YAN
 repeat' (first
  |(with_reducible first|apply bA|apply bB|apply bC|apply bD|apply bE|apply bF)<;>intro h
  |((first|apply bG|apply bH);simp only[yP,yQ,W2,hpS,bxS,arS,stP hs hr hne,zTh,zTg,yN,zOg,yO];refine zIB (q1) (.inl rfl) ?_)
  |skip)<;>simp only[h,↓zaL,↓zHC,WY,reduceIte,yA,yB,yC,yD,reduceCtorEq,yE,yF,W1,WS,hpS,bxS,arS,stP hs hr hne,zTh,zTg,yN,zOg,yO]
theorem zgz(hs:s<F.length)(hr:r<F.length)(hne:r≠s)(n:Int)(hn:n<0\/(L.length:Int)<=n):DCalls Try.prog 33 [.bptr s 0,.int .i64 n] (hpS F s r v L lim cnt rd) (.bool false) (hpS F s r v L lim cnt rd):=by
 have q1:=zeX (v:=v) (L:=L) (lim:=lim) (cnt:=cnt) (rd:=rd) hs hr hne hn
 unfold DCalls
 refine eD C_ok Try.func33 Try.results33 fun ok=> ?_
 have h:=YAN
 repeat' (first
  |(with_reducible first|apply bA|apply bB|apply bC|apply bD|apply bE|apply bF)<;>intro h
  |((first|apply bG|apply bH);simp only[yP,yQ,W2,hpS,bxS,arS,stP hs hr hne,zTh,zTg,yN,zOg];refine zIB (q1) (.inl rfl) ?_)
  |skip)<;>simp only[h,↓zaL,↓zHC,WY,reduceIte,yA,yB,yC,yD,reduceCtorEq,yE,yF,W1,WS,hpS,bxS,arS,stP hs hr hne,zTh,zTg,yN,zOg]
end
end
section
def alk:Nat->Sto->Sto
 |0,σ=>σ
 |k+1,σ=>((alk k σ).mark k).mark k
theorem zd0:∀(k:Nat) (σ:Sto),(alk k σ).L.st=σ.L.st
 |0,σ=>rfl
 |k+1,σ=>by
  show(mkL (mkL (alk k σ).L _ _) _ _).st=_
  rw[zPY,zPY];exact zd0 k σ
theorem zdx(k:Nat)(σ:Sto):(alk k σ).L.length=σ.L.length:=by rw[<-Mem.zXR,zd0,Mem.zXR]
theorem zdv:∀(k:Nat) (σ:Sto),(alk k σ).cnt=σ.cnt
 |0,σ=>rfl
 |k+1,σ=>zdv k σ
theorem zdy:∀(k:Nat) (σ:Sto),(alk k σ).rd=σ.rd+2*k
 |0,σ=>by simp[alk]
 |k+1,σ=>by show(alk k σ).rd+1+1=_;rw[zdy k σ];push_cast;omega
theorem zdz:∀(k:Nat) (σ:Sto),SI σ.L σ.rd->SI (alk k σ).L (alk k σ).rd
 |0,σ,h=>h
 |k+1,σ,h=>((zdz k σ h).mark _).mark _
section
variable {F : List AObj} {s r p q : Nat} {lim lim2 : Int} {u : Nat}
def Sto.both(σ:Sto)(F:List AObj)(s r p q:Nat)(lim:Int)(u:Nat)(lim2:Int):List AObj:=dH F s r p q σ.v σ.L lim σ.cnt σ.rd u σ.L.st lim2 σ.cnt
theorem zdu(hD:QuaD F s r p q)(σ:Sto)(hS:SI σ.L σ.rd)(hL:σ.L.length<=1000000)(hrd:σ.rd<=900000000000):
 DCalls Try.prog 50 [.bptr s 0,.bptr p 0] (σ.both F s r p q lim u lim2) (.bool true) ((alk σ.L.length σ).both F s r p q lim u lim2):=by
 have hw:=hS.wf
 have hst:=zd0
 have hne:r≠s:=fun e=>hD.d1.1 e.symm
 have hnq:q≠p:=fun e=>hD.d2.2.2 e.symm
 have ecnt:=zdv σ.L.length σ
 unfold Sto.both
 rw[zdv,zd0]
 have qc:∀(e:Nat->AV) (G:List AObj) (b m:Nat),G[s]?=some (bxS r σ.v σ.L.length lim σ.cnt σ.rd)/\G[r]?=some (arS σ.v σ.L)->zA5 Try.prog 36 [.bptr s 0] (.int .i64 σ.cnt) (FS e G b m).obj:=fun e G b m hG=>
  qcalls_st (fun F' h1 h2=>zgf h1 h2 hne) (by rw[zIP];exact hG.1) (by rw[zIP];exact hG.2) rfl rfl
 unfold DCalls
 refine eD C_ok Try.func50 Try.results50 fun ok=> ?_
 have h:=YAN
 repeat' (first
  |(with_reducible first|apply bA|apply bB|apply bC|apply bD|apply bE|apply bF)<;>intro h
  |((first|apply bG|apply bH);simp only[yP,yQ,W2,dH,bxR,arR,bxS,arS,quaP hD,zTh,zTg,yN,ze0,zOg,YAO];refine zIk rfl (qc _ _ _ _ (by simp[quaP hD,bxS,arS])) (.inl rfl) ?_)
  |refine drA C_ok 1 0 ?_
  |skip)<;>simp only[h,↓zaL,↓zHC,WY,reduceIte,yA,yB,yC,yD,reduceCtorEq,yE,yF,W1,WS,dH,bxR,arR,bxS,arS,quaP hD,zTh,zTg,yN,ze0,zOg,YAO]
 refine zCN [5,0,1] ?_
 simp only[List.map_cons,List.map_nil,↓zaL,↓zHC,WY,reduceIte,yA,yB,yC,yD,reduceCtorEq,yE,yF,W1,WS]
 refine zJ1 1 (fun i:Nat=> [(5,.int .i64 ((i:Int)-1))]) (fun i=>dH F s r p q (alk (min (i-1) σ.L.length) σ).v (alk (min (i-1) σ.L.length) σ).L lim σ.cnt (alk (min (i-1) σ.L.length) σ).rd u σ.L.st lim2 σ.cnt) (fun i=>i<=σ.L.length+2) (fun i=>σ.L.length+2-i) C_ok 0 rfl (by simp only[dH,bxS,arS,bxR,arR];rfl) (by omega) (by decide) ?_
 intro i hi
 simp only[List.drop_succ_cons,List.drop_zero,List.cons_append,List.nil_append]
 have hN:=Mem.zXR σ.L
 have wn:IntKind.wrap .i64 ((i:Int)-1+1)=((i+1:Nat):Int)-1:=by rw[zbT (by omega) (by omega)];omega
 by_cases hlast:i=σ.L.length+2
 ·have c0:((i:Int)-1<=(σ.L.length:Int))=False:=by simp only[YAb,iff_false];omega
  have e0:min (i-1) σ.L.length=σ.L.length:=by omega
  rw[e0]
  have h:=YAN
  repeat' (first
   |(with_reducible first|apply bA|apply bB|apply bC|apply bD|apply bE|apply bF)<;>intro h
   |refine drA C_ok 1 0 ?_
   |skip)<;>simp only[h,↓zaL,↓zHC,WY,reduceIte,yA,yB,yC,yD,reduceCtorEq,yE,yF,W1,WS,dH,bxR,arR,bxS,arS,quaP hD,zTh,zTg,yN,ze0,zOg,hN,c0]
  all_goals simp only[hst,zdx,hN]
 have c1:((i:Int)-1<=(σ.L.length:Int))=True:=by simp only[YAb,iff_true];omega
 by_cases hin:1<=i/\i<=σ.L.length
 ·obtain⟨m,rfl⟩:∃m,i=m+1:=⟨i-1,by omega⟩
  have e0:min (m+1-1) σ.L.length=m:=by omega
  have e1:min (m+1+1-1) σ.L.length=m+1:=by omega
  have em:((m+1:Nat):Int)-1=(m:Int):=by omega
  rw[e0,em]
  rw[em]at c1 wn
  have hm:m<σ.L.length:=by omega
  have hτ:=zdz m σ hS
  have hτl:=zdx m σ
  have hτr:=zdy m σ
  have hτs:=zd0 m σ
  have hnext:alk (m+1) σ=((alk m σ).mark m).mark m:=rfl
  generalize alk m σ=τ at*
  have hwt:Wf τ.L.st:=hτ.wf
  have r0:=hS.rd0
  have q1:=dS (p:=p) (q:=q) (fun G hs hr=>zUI (F:=G) (v:=τ.v) (lim:=lim) (cnt:=σ.cnt) (rd:=τ.rd) hs hr hne hwt m (by omega)) hD u σ.L.st lim2 σ.cnt
  have q2:=dS (p:=p) (q:=q) (fun G hs hr=>zMi (F:=G) (v:=τ.v) (lim:=lim) (cnt:=σ.cnt) (rd:=τ.rd) hs hr hne hwt m (by omega)) hD u σ.L.st lim2 σ.cnt
  have q3:=dS (p:=p) (q:=q) (fun G hs hr=>zeY (F:=G) (v:=τ.v) (lim:=lim) (cnt:=σ.cnt) (rd:=τ.rd) hs hr hne hwt m (by omega)) hD u σ.L.st lim2 σ.cnt
  have q4:=dS (p:=p) (q:=q) (fun G hs hr=>zNI (F:=G) (v:=τ.v) (lim:=lim) (cnt:=σ.cnt) (rd:=τ.rd) hs hr hne hwt m (by omega)) hD u σ.L.st lim2 σ.cnt
  have q5:=dS (p:=p) (q:=q) (fun G hs hr=>zag (F:=G) (v:=τ.v) (lim:=lim) (cnt:=σ.cnt) (rd:=τ.rd) hs hr hne hwt hτ.mb (by omega) ⟨by omega,by omega⟩ m (by omega)) hD u σ.L.st lim2 σ.cnt
  have q6:=dS (p:=p) (q:=q) (fun G hs hr=>zp5 (F:=G) (v:=τ.v) (L:=(τ.mark m).L) (lim:=lim) (cnt:=σ.cnt) (rd:=τ.rd+1) hs hr hne (by show Wf (mkL _ _ _).st;rw[zPY];exact hwt) (hτ.mark _).mb (by show(mkL _ _ _).length<=_;rw[zPW];omega) ⟨by omega,by omega⟩ m (by show _<(mkL _ _ _).length;rw[zPW];omega)) hD u σ.L.st lim2 σ.cnt
  have emk:(τ.mark m).L.st=σ.L.st:=by show(mkL _ _ _).st=_;rw[zPY,hτs]
  rw[emk]at q6
  rw[hτs]at q1 q2 q3 q4 q5
  have p1:=dR (s:=s) (r:=r) (p:=p) (q:=q) (fun G hs hr=>zgO (F:=G) (v:=u) (lim:=lim2) (cnt:=σ.cnt) hs hr hnq hw m (by omega)) hD τ.v τ.L lim σ.cnt τ.rd
  have p2:=dR (s:=s) (r:=r) (p:=p) (q:=q) (fun G hs hr=>zfq (F:=G) (v:=u) (lim:=lim2) (cnt:=σ.cnt) hs hr hnq hw m (by omega)) hD τ.v τ.L lim σ.cnt τ.rd
  have p3:=dR (s:=s) (r:=r) (p:=p) (q:=q) (fun G hs hr=>zfo (F:=G) (v:=u) (lim:=lim2) (cnt:=σ.cnt) hs hr hnq hw m (by omega)) hD τ.v τ.L lim σ.cnt τ.rd
  have p4:=dR (s:=s) (r:=r) (p:=p) (q:=q) (fun G hs hr=>zfu (F:=G) (v:=u) (lim:=lim2) (cnt:=σ.cnt) hs hr hnq hw m (by omega)) hD τ.v τ.L lim σ.cnt τ.rd
  have p5:=dR (s:=s) (r:=r) (p:=p) (q:=q) (fun G hs hr=>zgc (F:=G) (v:=u) (lim:=lim2) (cnt:=σ.cnt) hs hr hnq hw (by omega) m (by omega)) hD τ.v (mkL τ.L (τ.rd+1) (σ.L.st.all m)) lim σ.cnt (τ.rd+1)
  have p6:=dR (s:=s) (r:=r) (p:=p) (q:=q) (fun G hs hr=>zgU (F:=G) (v:=u) (lim:=lim2) (cnt:=σ.cnt) hs hr hnq hw (by omega) m (by omega)) hD τ.v (mkL (mkL τ.L (τ.rd+1) (σ.L.st.all m)) (τ.rd+1+1) (σ.L.st.all m)) lim σ.cnt (τ.rd+1+1)
  rw[show decide (4 ∉ σ.L.st.all m)= !decide (4∈σ.L.st.all m)by simp]at p6
  have k1:=zeV (kidI (σ.L.st.kids (σ.L.st.root m))) (kidI (σ.L.st.kids (σ.L.st.root m)))
  have k2:=zeV (kidI (σ.L.st.vars m)) (kidI (σ.L.st.vars m))
  rw[decide_eq_true rfl]at k1 k2
  simp only[dH,bxS,arS,bxR,arR,hN,hτl,hτs,zPW,Sto.mark]at q1 q2 q3 q4 q5 q6 p1 p2 p3 p4 p5 p6
  have h:=YAN
  repeat' (first
   |(with_reducible first|apply bA|apply bB|apply bC|apply bD|apply bE|apply bF)<;>intro h
   |((first|apply bG|apply bH);simp only[yP,yQ,W2,dH,bxR,arR,bxS,arS,quaP hD,zTh,zTg,yN,ze0,zOg,hN,c1,YAO,zLz,hτl,zPW];first|refine zIf (k1) (.inl rfl) ?_|refine zIf (k2) (.inl rfl) ?_|refine zIj (k1) (.inl rfl) ?_|refine zIj (k2) (.inl rfl) ?_|refine zIB (q1) (.inl rfl) ?_|refine zIB (p1) (.inl rfl) ?_|refine zIB (q2) (.inl rfl) ?_|refine zIB (p2) (.inl rfl) ?_|refine zIB (q3) (.inl rfl) ?_|refine zIB (p3) (.inl rfl) ?_|refine zIB (q4) (.inl rfl) ?_|refine zIB (p4) (.inl rfl) ?_|refine zIA (q5) (.inl rfl) (fun hb=>dB (by first|exact hD|exact hD.app _) hb) ?_|refine zIB (p5) (.inl rfl) ?_|refine zIA (q6) (.inl rfl) (fun hb=>dB (by first|exact hD|exact hD.app _) hb) ?_|refine zIB (p6) (.inl rfl) ?_)
   |refine drA C_ok 1 0 ?_
   |skip)<;>simp only[h,↓zaL,↓zHC,WY,reduceIte,yA,yB,yC,yD,reduceCtorEq,yE,yF,W1,WS,dH,bxR,arR,bxS,arS,quaP hD,zTh,zTg,yN,ze0,zOg,hN,c1,YAO,zLz,hτl,zPW]
  refine⟨m+1+1,by omega,by omega,zap ?_ ?_⟩
  ·rw[e1,hnext];simp only[dH,bxS,arS,bxR,arR,hN,hτl,hτs,zPW,Sto.mark,zPY]
  ·simp only[WK,↓zaL,↓zHC,yA,reduceIte,yN,yO,yR,yP,yQ,yB,yC,wn]
 ·have hout:(i:Int)-1<0\/(σ.L.length:Int)<=(i:Int)-1:=by omega
  have e1:min (i+1-1) σ.L.length=min (i-1) σ.L.length:=by omega
  have hout2:(i:Int)-1<0\/(σ.L.st.length:Int)<=(i:Int)-1:=by rw[hN];exact hout
  generalize hk:min (i-1) σ.L.length=k at*
  have hτl:=zdx k σ
  have hτs:=zd0 k σ
  generalize hτ0:alk k σ=τ at*
  rw[<-hτl]at hout
  generalize hn:(i:Int)-1=n at*
  have q1:=dS (p:=p) (q:=q) (fun G hs hr=>zgJ (F:=G) (v:=τ.v) (lim:=lim) (cnt:=σ.cnt) (rd:=τ.rd) hs hr hne n hout) hD u σ.L.st lim2 σ.cnt
  have q2:=dS (p:=p) (q:=q) (fun G hs hr=>zea (F:=G) (v:=τ.v) (lim:=lim) (cnt:=σ.cnt) (rd:=τ.rd) hs hr hne n hout) hD u σ.L.st lim2 σ.cnt
  have q3:=dS (p:=p) (q:=q) (fun G hs hr=>zeZ (F:=G) (v:=τ.v) (lim:=lim) (cnt:=σ.cnt) (rd:=τ.rd) hs hr hne n hout) hD u σ.L.st lim2 σ.cnt
  have q4:=dS (p:=p) (q:=q) (fun G hs hr=>zee (F:=G) (v:=τ.v) (lim:=lim) (cnt:=σ.cnt) (rd:=τ.rd) hs hr hne n hout) hD u σ.L.st lim2 σ.cnt
  have q5:=dS (p:=p) (q:=q) (fun G hs hr=>zg6 (F:=G) (v:=τ.v) (lim:=lim) (cnt:=σ.cnt) (rd:=τ.rd) hs hr hne n hout) hD u σ.L.st lim2 σ.cnt
  have q6:=dS (p:=p) (q:=q) (fun G hs hr=>zgz (F:=G) (v:=τ.v) (lim:=lim) (cnt:=σ.cnt) (rd:=τ.rd) hs hr hne n hout) hD u σ.L.st lim2 σ.cnt
  have p1:=dR (s:=s) (r:=r) (p:=p) (q:=q) (fun G hs hr=>zgQ (F:=G) (v:=u) (lim:=lim2) (cnt:=σ.cnt) hs hr hnq n hout2) hD τ.v τ.L lim σ.cnt τ.rd
  have p2:=dR (s:=s) (r:=r) (p:=p) (q:=q) (fun G hs hr=>zfs (F:=G) (v:=u) (lim:=lim2) (cnt:=σ.cnt) hs hr hnq n hout2) hD τ.v τ.L lim σ.cnt τ.rd
  have p3:=dR (s:=s) (r:=r) (p:=p) (q:=q) (fun G hs hr=>zfp (F:=G) (v:=u) (lim:=lim2) (cnt:=σ.cnt) hs hr hnq n hout2) hD τ.v τ.L lim σ.cnt τ.rd
  have p4:=dR (s:=s) (r:=r) (p:=p) (q:=q) (fun G hs hr=>zfv (F:=G) (v:=u) (lim:=lim2) (cnt:=σ.cnt) hs hr hnq n hout2) hD τ.v τ.L lim σ.cnt τ.rd
  have p5:=dR (s:=s) (r:=r) (p:=p) (q:=q) (fun G hs hr=>zgd (F:=G) (v:=u) (lim:=lim2) (cnt:=σ.cnt) hs hr hnq n hout2) hD τ.v τ.L lim σ.cnt τ.rd
  have p6:=dR (s:=s) (r:=r) (p:=p) (q:=q) (fun G hs hr=>zgV (F:=G) (v:=u) (lim:=lim2) (cnt:=σ.cnt) hs hr hnq n hout2) hD τ.v τ.L lim σ.cnt τ.rd
  have k1:=zeV [] []
  rw[decide_eq_true rfl,List.map_nil]at k1
  simp only[dH,bxS,arS,bxR,arR,hN,hτl,zPW]at q1 q2 q3 q4 q5 q6 p1 p2 p3 p4 p5 p6
  have h:=YAN
  repeat' (first
   |(with_reducible first|apply bA|apply bB|apply bC|apply bD|apply bE|apply bF)<;>intro h
   |((first|apply bG|apply bH);simp only[yP,yQ,W2,dH,bxR,arR,bxS,arS,quaP hD,zTh,zTg,yN,ze0,zOg,hN,c1,YAO,yQ,hτl];first|refine zIf (k1) (.inl rfl) ?_|refine zIj (k1) (.inl rfl) ?_|refine zIB (q1) (.inl rfl) ?_|refine zIB (p1) (.inl rfl) ?_|refine zIB (q2) (.inl rfl) ?_|refine zIB (p2) (.inl rfl) ?_|refine zIB (q3) (.inl rfl) ?_|refine zIB (p3) (.inl rfl) ?_|refine zIB (q4) (.inl rfl) ?_|refine zIB (p4) (.inl rfl) ?_|refine zIB (q5) (.inl rfl) ?_|refine zIB (p5) (.inl rfl) ?_|refine zIB (q6) (.inl rfl) ?_|refine zIB (p6) (.inl rfl) ?_)
   |refine drA C_ok 1 0 ?_
   |skip)<;>simp only[h,↓zaL,↓zHC,WY,reduceIte,yA,yB,yC,yD,reduceCtorEq,yE,yF,W1,WS,dH,bxR,arR,bxS,arS,quaP hD,zTh,zTg,yN,ze0,zOg,hN,c1,YAO,yQ,hτl]
  refine⟨i+1,by omega,by omega,zap ?_ ?_⟩
  ·rw[e1,hτ0,hτl]
  ·simp only[WK,↓zaL,↓zHC,yA,reduceIte,yN,yO,yR,yP,yQ,yB,yC,wn]
end
end
end Go.Proofs.Ytdngjamjccjlmaa
