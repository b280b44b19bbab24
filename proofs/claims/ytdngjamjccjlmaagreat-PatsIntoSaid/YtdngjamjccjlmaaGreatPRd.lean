/- Lemmas: the store of the document, walked, second part. No condition. -/
import Derived.Test.YtdngjamjccjlmaaGreatPRc
import Derived.Test.YtdngjamjccjlmaaGreatPAf
import Derived.Test.YtdngjamjccjlmaaGreatPBa
import Derived.Test.YtdngjamjccjlmaaGreatPWe
import Derived.Test.YtdngjamjccjlmaaGreatPNa
import Derived.Test.YtdngjamjccjlmaaGreatPVa
import Derived.Test.YtdngjamjccjlmaaGreatPBe
import Derived.Test.YtdngjamjccjlmaaGreatPNb
set_option linter.unusedSimpArgs false
set_option linter.unusedVariables false
set_option maxHeartbeats 4000000
set_option maxRecDepth 100000
set_option maxHeartbeats 8000000
namespace Go.Proofs.YtdngjamjccjlmaaGreat
open Go Go.Ab
open Nat renaming reduceEqDiff -> yA, reduceAdd -> yB, reduceLT -> yC, reduceLeDiff -> yD, reduceMul -> yE, reducePow -> yF, reduceBEq -> yG
open AV renaming belL -> yO, bel -> yN, normL -> yQ, norm -> yP
open Int renaming reduceLT -> yI, reduceBNe -> yL, reduceLE -> yM
open AObj renaming bel -> yR
attribute [local irreducible] zA0 zAA zAa zAi zAj GoIf GoGb zAk GoO GoD GoX GoDX GoG GoDG GoGv zAl Go zAB
section
theorem zeC:zA0 Tryz.prog 73 [.sl [] .no] (.sl [] .no):=by
 refine zSZ rfl fun F=> ?_
 refine zBP C_ok Tryz.func73 rfl (by decide) (YAL rfl) fun ok=> ?_
 rw[Tryz.results73,zLh]
 refine zC5 (zBH C_ok zEA Tryz.f73.ntmps _ (by decide) rfl ?_)
 rw[X_go]
 simp only[WY,WS]
 refine zC5 (zC5 (zd7 (v:= .sl [] .no) (e:=3) (tk:= .no) C_ok (show zFG Tryz.f73.ntmps _=true by decide) rfl rfl (fun K h=>⟨trivial,h⟩) znb rfl rfl rfl rfl fun b=> ?_))
 simp only[zFY]
 refine zBH C_ok zEA Tryz.f73.ntmps _ (by decide) rfl ?_
 rw[X_go]
 cases b with
 |true=>
  simp only[↓zaL,WY,yA,WS,zTh,yN,yO]
  all_goals simp
 |false=>
  simp only[↓zaL,WY,yA,WS]
  refine zBH C_ok zEA Tryz.f73.ntmps _ (by decide) rfl ?_
  rw[X_go]
  simp only[↓zaL,WY,yA,yD,reduceCtorEq,yE,yF,W1,WS,zTh,yN,yO]
  all_goals simp
section
variable {F : List AObj} {s r v : Nat} {L : Mem} {lim cnt rd : Int}
theorem zeX(hs:s<F.length)(hr:r<F.length)(hne:r≠s){n:Int}(hn:n<0\/(L.length:Int)<=n):zAd Tryz.prog 52 [.bptr s 0,.int .i64 n] (hpS F s r v L lim cnt rd) (.bool false) (hpS F s r v L lim cnt rd):=by
 have:=zMH (v:=v) (L:=L) (lim:=lim) (cnt:=cnt) (rd:=rd) hs hr hne n
 rwa[show(decide (0<=n)&&decide (n<L.length))=false by rw[Bool.and_eq_false_iff,decide_eq_false_iff_not,decide_eq_false_iff_not];omega]at this
theorem zeY(hs:s<F.length)(hr:r<F.length)(hne:r≠s)(hw:Wf L.st)(n:Nat)(hn:n<L.length):zAd Tryz.prog 41 [.bptr s 0,.int .i64 n] (hpS F s r v L lim cnt rd) (.sl ((kidI (L.st.kids (L.st.root n))).map I64) .no) (hpS F s r v L lim cnt rd):=by
 have hrl:L.st.root n<L.length:=by have:=hw.root_lt n (by rw[Mem.zXR];exact hn);rwa[Mem.zXR]at this
 by_cases h0:L.st.kids (L.st.root n)=[]
 ·have q1:=zMI (v:=v) (L:=L) (lim:=lim) (cnt:=cnt) (rd:=rd) hs hr hne hn
  have hk:(L.getD (L.st.root n) default).1.kids=[]:=by rw[<-L.nd];exact h0
  have e0:(kidI []).map I64=[]:=rfl
  rw[h0,e0]
  unfold zAd
  refine eD C_ok Tryz.func41 Tryz.results41 fun ok=> ?_
  repeat' (first
   |((first|apply bG|apply bH);simp only[yP,yQ,yQ];first|refine zIj (zeC) (.inl rfl) ?_|refine zIB (q1) (.inl rfl) ?_|refine zIk rfl (zUP (v:=v) (L:=L) (lim:=lim) (cnt:=cnt) (rd:=rd) hs hr hne hw n hn (by simp[stP hs hr hne,bxS,arS])) (.inl rfl) ?_)
   |refine drA C_ok 3 0 ?_
   |skip)<;>simp only[↓zaL,WY,yA,yB,yC,reduceCtorEq,W1,WS,hpS,bxS,arS,stP hs hr hne,zTh,yN,hrl,zOf hrl,zGZ,hk,e0,yQ,yO]
 ·refine zMd hs hr hne hw n hn ?_ h0
  have:=hw.shape (r:=L.st.root n) (by rw[Mem.zXR];exact hrl) (hw.zUK n)
  rcases this with ⟨_,_,hc⟩|⟨_,_,hc⟩|⟨i,j,_,hc⟩|⟨i,_,hc⟩<;>rw[hc]<;>simp
theorem zeZ(hs:s<F.length)(hr:r<F.length)(hne:r≠s)(n:Int)(hn:n<0\/(L.length:Int)<=n):zAd Tryz.prog 41 [.bptr s 0,.int .i64 n] (hpS F s r v L lim cnt rd) (.sl [] .no) (hpS F s r v L lim cnt rd):=by
 have q1:=zeX (v:=v) (L:=L) (lim:=lim) (cnt:=cnt) (rd:=rd) hs hr hne hn
 unfold zAd
 refine eD C_ok Tryz.func41 Tryz.results41 fun ok=> ?_
 repeat' (first
  |((first|apply bG|apply bH);simp only[yP,yQ];refine zIB (q1) (.inl rfl) ?_)
  |skip)<;>simp only[↓zaL,WY,yA,reduceCtorEq,WS,hpS,bxS,arS,stP hs hr hne,zTh,yN,yO]
theorem zee(hs:s<F.length)(hr:r<F.length)(hne:r≠s)(n:Int)(hn:n<0\/(L.length:Int)<=n):zAd Tryz.prog 43 [.bptr s 0,.int .i64 n] (hpS F s r v L lim cnt rd) (.int .i64 (-1)) (hpS F s r v L lim cnt rd):=by
 have q1:=zea (v:=v) (L:=L) (lim:=lim) (cnt:=cnt) (rd:=rd) hs hr hne n hn
 have e:((0:Int) !=6)=true:=by decide
 unfold zAd
 refine eD C_ok Tryz.func43 Tryz.results43 fun ok=> ?_
 repeat' (first
  |((first|apply bG|apply bH);simp only[yP,yQ];refine zIB (q1) (.inl rfl) ?_)
  |skip)<;>simp only[↓zaL,WY,yA,reduceCtorEq,W1,WS,hpS,bxS,arS,stP hs hr hne,zTh,yN,e]
theorem zg6(hs:s<F.length)(hr:r<F.length)(hne:r≠s)(n:Int)(hn:n<0\/(L.length:Int)<=n):zAd Tryz.prog 45 [.bptr s 0,.int .i64 n] (hpS F s r v L lim cnt rd) (.sl [] .no) (hpS F s r v L lim cnt rd):=by
 have q1:=zeX (v:=v) (L:=L) (lim:=lim) (cnt:=cnt) (rd:=rd) hs hr hne hn
 unfold zAd
 refine eD C_ok Tryz.func45 Tryz.results45 fun ok=> ?_
 repeat' (first
  |((first|apply bG|apply bH);simp only[yP,yQ];refine zIB (q1) (.inl rfl) ?_)
  |skip)<;>simp only[↓zaL,WY,yA,reduceCtorEq,WS,hpS,bxS,arS,stP hs hr hne,zTh,yN,yO]
theorem zgz(hs:s<F.length)(hr:r<F.length)(hne:r≠s)(n:Int)(hn:n<0\/(L.length:Int)<=n):zAd Tryz.prog 47 [.bptr s 0,.int .i64 n] (hpS F s r v L lim cnt rd) (.bool false) (hpS F s r v L lim cnt rd):=by
 have q1:=zeX (v:=v) (L:=L) (lim:=lim) (cnt:=cnt) (rd:=rd) hs hr hne hn
 unfold zAd
 refine eD C_ok Tryz.func47 Tryz.results47 fun ok=> ?_
 repeat' (first
  |((first|apply bG|apply bH);simp only[yP,yQ];refine zIB (q1) (.inl rfl) ?_)
  |skip)<;>simp only[↓zaL,WY,yA,reduceCtorEq,WS,hpS,bxS,arS,stP hs hr hne,zTh,yN]
end
end
section
def alk:Nat->Sto->Sto
 |0,σ=>σ
 |k+1,σ=>((alk k σ).mark k).mark k
theorem zd0:∀(k:Nat) (σ:Sto),(alk k σ).L.st=σ.L.st
 |0,σ=>rfl
 |k+1,σ=>by
  show(mkL (mkL (alk k σ).L _ _) _ _).st=_
  rw[zPY,zPY];exact zd0 k σ
theorem zdx(k:Nat)(σ:Sto):(alk k σ).L.length=σ.L.length:=by rw[<-Mem.zXR,zd0,Mem.zXR]
theorem zdv:∀(k:Nat) (σ:Sto),(alk k σ).cnt=σ.cnt
 |0,σ=>rfl
 |k+1,σ=>zdv k σ
theorem zdy:∀(k:Nat) (σ:Sto),(alk k σ).rd=σ.rd+2*k
 |0,σ=>by simp[alk]
 |k+1,σ=>by show(alk k σ).rd+1+1=_;rw[zdy k σ];push_cast;omega
theorem zdz:∀(k:Nat) (σ:Sto),SI σ.L σ.rd->SI (alk k σ).L (alk k σ).rd
 |0,σ,h=>h
 |k+1,σ,h=>((zdz k σ h).mark _).mark _
section
variable {F : List AObj} {s r p q : Nat} {lim lim2 : Int} {u : Nat}
def Sto.both(σ:Sto)(F:List AObj)(s r p q:Nat)(lim:Int)(u:Nat)(lim2:Int):List AObj:=dH F s r p q σ.v σ.L lim σ.cnt σ.rd u σ.L.st lim2 σ.cnt
theorem zdu(hD:QuaD F s r p q)(σ:Sto)(hS:SI σ.L σ.rd)(hL:σ.L.length<=1000000)(hrd:σ.rd<=900000000000):
 zAd Tryz.prog 17 [.bptr s 0,.bptr p 0] (σ.both F s r p q lim u lim2) (.bool true) ((alk σ.L.length σ).both F s r p q lim u lim2):=by
 have hw:=hS.wf
 have hst:=zd0
 have hne:r≠s:=fun e=>hD.d1.1 e.symm
 have hnq:q≠p:=fun e=>hD.d2.2.2 e.symm
 have ecnt:=zdv σ.L.length σ
 unfold Sto.both
 rw[zdv,zd0]
 have qc:∀(e:Nat->AV) (G:List AObj) (b m:Nat),G[s]?=some (bxS r σ.v σ.L.length lim σ.cnt σ.rd)/\G[r]?=some (arS σ.v σ.L)->zA5 Tryz.prog 37 [.bptr s 0] (.int .i64 σ.cnt) (FS e G b m).obj:=fun e G b m hG=>
  qcalls_st (fun F' h1 h2=>zgf h1 h2 hne) (by rw[zIP];exact hG.1) (by rw[zIP];exact hG.2) rfl rfl
 unfold zAd
 refine eD C_ok Tryz.func17 Tryz.results17 fun ok=> ?_
 repeat' (first
  |((first|apply bG|apply bH);simp only[yP,yQ];refine zIk rfl (qc _ _ _ _ (by simp[quaP hD,bxS,arS])) (.inl rfl) ?_)
  |refine drA C_ok 1 0 ?_
  |skip)<;>simp only[↓zaL,WY,yA,yB,yC,reduceCtorEq,W1,WS,dH,bxR,arR,bxS,arS,quaP hD,YAO]
 refine zCN [5,0,1] ?_
 simp only[List.map_cons,List.map_nil,↓zaL,WY,yA,reduceCtorEq,WS]
 refine zJ1 1 (fun i:Nat=> [(5,.int .i64 ((i:Int)-1))]) (fun i=>dH F s r p q (alk (min (i-1) σ.L.length) σ).v (alk (min (i-1) σ.L.length) σ).L lim σ.cnt (alk (min (i-1) σ.L.length) σ).rd u σ.L.st lim2 σ.cnt) (fun i=>i<=σ.L.length+2) (fun i=>σ.L.length+2-i) C_ok 0 rfl (by simp only[dH,bxS,arS,bxR,arR];rfl) (by omega) (by decide) ?_
 intro i hi
 simp only[List.drop_succ_cons,List.drop_zero,List.cons_append,List.nil_append]
 have hN:=Mem.zXR σ.L
 have wn:IntKind.wrap .i64 ((i:Int)-1+1)=((i+1:Nat):Int)-1:=by rw[zbT (by omega) (by omega)];omega
 by_cases hlast:i=σ.L.length+2
 ·have c0:((i:Int)-1<=(σ.L.length:Int))=False:=by simp only[YAb,iff_false];omega
  have e0:min (i-1) σ.L.length=σ.L.length:=by omega
  rw[e0]
  repeat' simp only[↓zaL,↓zHC,WY,yA,yB,reduceCtorEq,W1,WS,dH,bxR,arR,bxS,arS,quaP hD,zTh,yN,hN,c0]
  all_goals simp only[hst,zdx,hN]
 have c1:((i:Int)-1<=(σ.L.length:Int))=True:=by simp only[YAb,iff_true];omega
 by_cases hin:1<=i/\i<=σ.L.length
 ·obtain⟨m,rfl⟩:∃m,i=m+1:=⟨i-1,by omega⟩
  have e0:min (m+1-1) σ.L.length=m:=by omega
  have e1:min (m+1+1-1) σ.L.length=m+1:=by omega
  have em:((m+1:Nat):Int)-1=(m:Int):=by omega
  rw[e0,em]
  rw[em]at c1 wn
  have hm:m<σ.L.length:=by omega
  have hτ:=zdz m σ hS
  have hτl:=zdx m σ
  have hτr:=zdy m σ
  have hτs:=zd0 m σ
  have hnext:alk (m+1) σ=((alk m σ).mark m).mark m:=rfl
  generalize alk m σ=τ at*
  have hwt:Wf τ.L.st:=hτ.wf
  have r0:=hS.rd0
  have q1:=dS (p:=p) (q:=q) (fun G hs hr=>zUI (F:=G) (v:=τ.v) (lim:=lim) (cnt:=σ.cnt) (rd:=τ.rd) hs hr hne hwt m (by omega)) hD u σ.L.st lim2 σ.cnt
  have q2:=dS (p:=p) (q:=q) (fun G hs hr=>zMi (F:=G) (v:=τ.v) (lim:=lim) (cnt:=σ.cnt) (rd:=τ.rd) hs hr hne hwt m (by omega)) hD u σ.L.st lim2 σ.cnt
  have q3:=dS (p:=p) (q:=q) (fun G hs hr=>zeY (F:=G) (v:=τ.v) (lim:=lim) (cnt:=σ.cnt) (rd:=τ.rd) hs hr hne hwt m (by omega)) hD u σ.L.st lim2 σ.cnt
  have q4:=dS (p:=p) (q:=q) (fun G hs hr=>zNI (F:=G) (v:=τ.v) (lim:=lim) (cnt:=σ.cnt) (rd:=τ.rd) hs hr hne hwt m (by omega)) hD u σ.L.st lim2 σ.cnt
  have q5:=dS (p:=p) (q:=q) (fun G hs hr=>zag (F:=G) (v:=τ.v) (lim:=lim) (cnt:=σ.cnt) (rd:=τ.rd) hs hr hne hwt hτ.mb (by omega) ⟨by omega,by omega⟩ m (by omega)) hD u σ.L.st lim2 σ.cnt
  have q6:=dS (p:=p) (q:=q) (fun G hs hr=>static_in (F:=G) (v:=τ.v) (L:=(τ.mark m).L) (lim:=lim) (cnt:=σ.cnt) (rd:=τ.rd+1) hs hr hne (by show Wf (mkL _ _ _).st;rw[zPY];exact hwt) (hτ.mark _).mb (by show(mkL _ _ _).length<=_;rw[zPW];omega) ⟨by omega,by omega⟩ m (by show _<(mkL _ _ _).length;rw[zPW];omega)) hD u σ.L.st lim2 σ.cnt
  have emk:(τ.mark m).L.st=σ.L.st:=by show(mkL _ _ _).st=_;rw[zPY,hτs]
  rw[emk]at q6
  rw[hτs]at q1 q2 q3 q4 q5
  have p1:=dR (s:=s) (r:=r) (p:=p) (q:=q) (fun G hs hr=>zgO (F:=G) (v:=u) (lim:=lim2) (cnt:=σ.cnt) hs hr hnq hw m (by omega)) hD τ.v τ.L lim σ.cnt τ.rd
  have p2:=dR (s:=s) (r:=r) (p:=p) (q:=q) (fun G hs hr=>zfq (F:=G) (v:=u) (lim:=lim2) (cnt:=σ.cnt) hs hr hnq hw m (by omega)) hD τ.v τ.L lim σ.cnt τ.rd
  have p3:=dR (s:=s) (r:=r) (p:=p) (q:=q) (fun G hs hr=>zfo (F:=G) (v:=u) (lim:=lim2) (cnt:=σ.cnt) hs hr hnq hw m (by omega)) hD τ.v τ.L lim σ.cnt τ.rd
  have p4:=dR (s:=s) (r:=r) (p:=p) (q:=q) (fun G hs hr=>zfu (F:=G) (v:=u) (lim:=lim2) (cnt:=σ.cnt) hs hr hnq hw m (by omega)) hD τ.v τ.L lim σ.cnt τ.rd
  have p5:=dR (s:=s) (r:=r) (p:=p) (q:=q) (fun G hs hr=>zgc (F:=G) (v:=u) (lim:=lim2) (cnt:=σ.cnt) hs hr hnq hw (by omega) m (by omega)) hD τ.v (mkL τ.L (τ.rd+1) (σ.L.st.all m)) lim σ.cnt (τ.rd+1)
  have p6:=dR (s:=s) (r:=r) (p:=p) (q:=q) (fun G hs hr=>zgU (F:=G) (v:=u) (lim:=lim2) (cnt:=σ.cnt) hs hr hnq hw (by omega) m (by omega)) hD τ.v (mkL (mkL τ.L (τ.rd+1) (σ.L.st.all m)) (τ.rd+1+1) (σ.L.st.all m)) lim σ.cnt (τ.rd+1+1)
  rw[show decide (4 ∉ σ.L.st.all m)= !decide (4∈σ.L.st.all m)by simp]at p6
  have k1:=zeV (kidI (σ.L.st.kids (σ.L.st.root m))) (kidI (σ.L.st.kids (σ.L.st.root m)))
  have k2:=zeV (kidI (σ.L.st.vars m)) (kidI (σ.L.st.vars m))
  rw[decide_eq_true rfl]at k1 k2
  simp only[dH,bxS,arS,bxR,arR,hN,hτl,hτs,zPW,Sto.mark]at q1 q2 q3 q4 q5 q6 p1 p2 p3 p4 p5 p6
  repeat' (first
   |((first|apply bG|apply bH);simp only[yP,yQ,zLz];first|refine zIf (k1) (.inl rfl) ?_|refine zIf (k2) (.inl rfl) ?_|refine zIB (q1) (.inl rfl) ?_|refine zIB (p1) (.inl rfl) ?_|refine zIB (q2) (.inl rfl) ?_|refine zIB (p2) (.inl rfl) ?_|refine zIB (q3) (.inl rfl) ?_|refine zIB (p3) (.inl rfl) ?_|refine zIB (q4) (.inl rfl) ?_|refine zIB (p4) (.inl rfl) ?_|refine zIA (q5) (.inl rfl) (fun hb=>dB (by first|exact hD|exact hD.app _) hb) ?_|refine zIB (p5) (.inl rfl) ?_|refine zIA (q6) (.inl rfl) (fun hb=>dB (by first|exact hD|exact hD.app _) hb) ?_|refine zIB (p6) (.inl rfl) ?_)
   |skip)<;>simp only[↓zaL,↓zHC,WY,yA,yB,reduceCtorEq,W1,WS,dH,bxR,arR,bxS,arS,quaP hD,hN,c1,YAO,hτl]
  refine⟨m+1+1,by omega,by omega,zap ?_ ?_⟩
  ·rw[e1,hnext];simp only[hτl,hτs,zPW,Sto.mark,zPY]
  ·simp only[WK,↓zaL,↓zHC,yA,yP,wn]
 ·have hout:(i:Int)-1<0\/(σ.L.length:Int)<=(i:Int)-1:=by omega
  have e1:min (i+1-1) σ.L.length=min (i-1) σ.L.length:=by omega
  have hout2:(i:Int)-1<0\/(σ.L.st.length:Int)<=(i:Int)-1:=by rw[hN];exact hout
  generalize hk:min (i-1) σ.L.length=k at*
  have hτl:=zdx k σ
  have hτs:=zd0 k σ
  generalize hτ0:alk k σ=τ at*
  rw[<-hτl]at hout
  generalize hn:(i:Int)-1=n at*
  have q1:=dS (p:=p) (q:=q) (fun G hs hr=>zgJ (F:=G) (v:=τ.v) (lim:=lim) (cnt:=σ.cnt) (rd:=τ.rd) hs hr hne n hout) hD u σ.L.st lim2 σ.cnt
  have q2:=dS (p:=p) (q:=q) (fun G hs hr=>zea (F:=G) (v:=τ.v) (lim:=lim) (cnt:=σ.cnt) (rd:=τ.rd) hs hr hne n hout) hD u σ.L.st lim2 σ.cnt
  have q3:=dS (p:=p) (q:=q) (fun G hs hr=>zeZ (F:=G) (v:=τ.v) (lim:=lim) (cnt:=σ.cnt) (rd:=τ.rd) hs hr hne n hout) hD u σ.L.st lim2 σ.cnt
  have q4:=dS (p:=p) (q:=q) (fun G hs hr=>zee (F:=G) (v:=τ.v) (lim:=lim) (cnt:=σ.cnt) (rd:=τ.rd) hs hr hne n hout) hD u σ.L.st lim2 σ.cnt
  have q5:=dS (p:=p) (q:=q) (fun G hs hr=>zg6 (F:=G) (v:=τ.v) (lim:=lim) (cnt:=σ.cnt) (rd:=τ.rd) hs hr hne n hout) hD u σ.L.st lim2 σ.cnt
  have q6:=dS (p:=p) (q:=q) (fun G hs hr=>zgz (F:=G) (v:=τ.v) (lim:=lim) (cnt:=σ.cnt) (rd:=τ.rd) hs hr hne n hout) hD u σ.L.st lim2 σ.cnt
  have p1:=dR (s:=s) (r:=r) (p:=p) (q:=q) (fun G hs hr=>zgQ (F:=G) (v:=u) (lim:=lim2) (cnt:=σ.cnt) hs hr hnq n hout2) hD τ.v τ.L lim σ.cnt τ.rd
  have p2:=dR (s:=s) (r:=r) (p:=p) (q:=q) (fun G hs hr=>zfs (F:=G) (v:=u) (lim:=lim2) (cnt:=σ.cnt) hs hr hnq n hout2) hD τ.v τ.L lim σ.cnt τ.rd
  have p3:=dR (s:=s) (r:=r) (p:=p) (q:=q) (fun G hs hr=>zfp (F:=G) (v:=u) (lim:=lim2) (cnt:=σ.cnt) hs hr hnq n hout2) hD τ.v τ.L lim σ.cnt τ.rd
  have p4:=dR (s:=s) (r:=r) (p:=p) (q:=q) (fun G hs hr=>zfv (F:=G) (v:=u) (lim:=lim2) (cnt:=σ.cnt) hs hr hnq n hout2) hD τ.v τ.L lim σ.cnt τ.rd
  have p5:=dR (s:=s) (r:=r) (p:=p) (q:=q) (fun G hs hr=>zgd (F:=G) (v:=u) (lim:=lim2) (cnt:=σ.cnt) hs hr hnq n hout2) hD τ.v τ.L lim σ.cnt τ.rd
  have p6:=dR (s:=s) (r:=r) (p:=p) (q:=q) (fun G hs hr=>zgV (F:=G) (v:=u) (lim:=lim2) (cnt:=σ.cnt) hs hr hnq n hout2) hD τ.v τ.L lim σ.cnt τ.rd
  have k1:=zeV [] []
  rw[decide_eq_true rfl,List.map_nil]at k1
  simp only[dH,bxS,arS,bxR,arR,hN,hτl]at q1 q2 q3 q4 q5 q6 p1 p2 p3 p4 p5 p6
  repeat' (first
   |((first|apply bG|apply bH);simp only[yP,yQ,yQ];first|refine zIf (k1) (.inl rfl) ?_|refine zIB (q1) (.inl rfl) ?_|refine zIB (p1) (.inl rfl) ?_|refine zIB (q2) (.inl rfl) ?_|refine zIB (p2) (.inl rfl) ?_|refine zIB (q3) (.inl rfl) ?_|refine zIB (p3) (.inl rfl) ?_|refine zIB (q4) (.inl rfl) ?_|refine zIB (p4) (.inl rfl) ?_|refine zIB (q5) (.inl rfl) ?_|refine zIB (p5) (.inl rfl) ?_|refine zIB (q6) (.inl rfl) ?_|refine zIB (p6) (.inl rfl) ?_)
   |skip)<;>simp only[↓zaL,↓zHC,WY,yA,yB,reduceCtorEq,W1,WS,dH,bxR,arR,bxS,arS,quaP hD,hN,c1,YAO,hτl]
  refine⟨i+1,by omega,by omega,zap ?_ ?_⟩
  ·rw[e1,hτ0,hτl]
  ·simp only[WK,↓zaL,↓zHC,yA,yP,wn]
end
end
section
def Sto.zeM(σ:Sto)(F:List AObj)(p q:Nat)(lim:Int):List AObj:=hpR F p q σ.v σ.L.st lim σ.cnt
def bxK(p a ver len:Nat):AObj:= .box [.bptr p 0,.ms a ver len]
def arK(ver:Nat)(ps:List (Nat×Nat)):AObj:= .arr ver 2 (ps.map prI)
def wK(F:List AObj)(p q w a:Nat)(lim:Int)(σ:Sto)(ver len:Nat)(ps:List (Nat×Nat)):List AObj:=qua F p q w a (bxR q σ.v σ.L.st.length lim σ.cnt) (arR σ.v σ.L.st) (bxK p a ver len) (arK ver ps)
theorem zd3(m ver:Nat)(ps:List (Nat×Nat)):(arK ver ps).bel m=true:=by simp only[arK,yR,zSh]
theorem zeA{m p a ver len ver' len':Nat}(h:(bxK p a ver len).bel m=true):(bxK p a ver' len').bel m=true:=by
 simp only[bxK,yR,yO,yN,YAA,YAa]at h⊢
 exact h
section
variable {F : List AObj} {p q w a : Nat}
theorem kdB(hD:QuaD F p q w a){b v v' v2 v2' ver ver' ver2 ver2' n n' len len':Nat}{S S':St}{lim cnt lim' cnt':Int}{ps ps':List (Nat×Nat)}(hb:∀x∈(qua F p q w a (bxR q v n lim cnt) (arR v2 S) (bxK p a ver len) (arK ver2 ps)).take b,x.bel b=true):
 ∀x∈(qua F p q w a (bxR q v' n' lim' cnt') (arR v2' S') (bxK p a ver' len') (arK ver2' ps')).take b,x.bel b=true:=
 zfL hD (fun h=>zeB h) (zd4 _ _ _) (fun h=>zeA h) (zd3 _ _ _) hb
theorem dK{f:Nat}{args:List AV}{res:AV}{σ σ':Sto}{lim:Int}(h:∀G:List AObj,p<G.length->q<G.length->zAd Tryz.prog f args (σ.zeM G p q lim) res (σ'.zeM G p q lim))
 (hD:QuaD F p q w a) (ver len:Nat) (ps:List (Nat×Nat)):zAd Tryz.prog f args (wK F p q w a lim σ ver len ps) res (wK F p q w a lim σ' ver len ps):=
 h _ (by simpa using hD.hs) (by simpa using hD.hr)
def CK:Cfg:= {C with inpl:=fun d=>d==29}
theorem zdc:zAb Tryz.prog CK:=C_ok
theorem zdd(t:Nat):CK.ty t=C.ty t:=rfl
theorem zdb(t:Nat):CK.inpl t=(t==29):=rfl
theorem zfm(hD:QuaD F p q w a){lim:Int}(σ:Sto)(ver len:Nat)(ps:List (Nat×Nat))(x y:Nat)(hle:len<=ps.length)(hl:len<=1000000000000):
 zAd Tryz.prog 101 [.bptr w 0,.sl [.int .i64 x] .no,.sl [.int .i64 y] .no] (wK F p q w a lim σ ver len ps) (.tup []) (wK F p q w a lim σ (ver+1) (len+1) (ps.take len++ [(x,y)])):=by
 have v0:IntKind.wrap .i64 (1-1)=0:=by decide
 have v1:IntKind.wrap .i64 (0-1)= -1:=by decide
 have u0:((0:Int)≥0)=True:=by simp
 have u1:((-1:Int)≥0)=False:=by simp
 have hle':(len<=ps.length)=True:=by simp[hle]
 have m1:(len+1<=9223372036854775807)=True:=by simp only[YAb,iff_true];omega
 have m2:((len+1)*16<=140737488355328)=True:=by simp only[YAb,iff_true];omega
 have e0:List.take len (List.map prI ps)++ [AV.agg [.int .i64 x,.int .i64 y]]=List.map prI (ps.take len++ [(x,y)]):=by rw[<-List.map_take,zSg]
 have hqa:decide (a<F.length)=true:=decide_eq_true hD.hq
 unfold zAd
 refine eD zdc Tryz.func101 Tryz.results101 fun ok=> ?_
 repeat' (first
  |refine drA zdc 3 0 ?_
  |refine zJ9 ?_ zdc Tryz.f101.ntmps rfl (by decide)
  |skip)<;>simp only[↓zaL,WY,yA,yB,yD,reduceCtorEq,yE,yF,W1,WS,W3,yI,zdd,zdb,yG,isMs,wK,bxR,arR,bxK,arK,quaP hD,zTg,yN,yO,v0,v1,u0,u1,hle',m1,m2,e0,hqa]
 all_goals exact⟨rfl,rfl⟩
theorem zfn(hD:QuaD F p q w a){lim:Int}(σ:Sto)(ver len:Nat)(ps:List (Nat×Nat))(x1 x2 y1 y2:Nat)(hle:len<=ps.length)(hl:len<=1000000000000):
 zAd Tryz.prog 101 [.bptr w 0,.sl [.int .i64 x1,.int .i64 x2] .no,.sl [.int .i64 y1,.int .i64 y2] .no] (wK F p q w a lim σ ver len ps) (.tup []) (wK F p q w a lim σ (ver+1+1) (len+1+1) (ps.take len++ [(x2,y2),(x1,y1)])):=by
 have v0:IntKind.wrap .i64 (2-1)=1:=by decide
 have v1:IntKind.wrap .i64 (1-1)=0:=by decide
 have v2:IntKind.wrap .i64 (0-1)= -1:=by decide
 have u0:((1:Int)≥0)=True:=by simp
 have u1:((0:Int)≥0)=True:=by simp
 have u2:((-1:Int)≥0)=False:=by simp
 have hle':(len<=ps.length)=True:=by simp[hle]
 have m1:(len+1<=9223372036854775807)=True:=by simp only[YAb,iff_true];omega
 have m2:((len+1)*16<=140737488355328)=True:=by simp only[YAb,iff_true];omega
 have m3:(len+1+1<=9223372036854775807)=True:=by simp only[YAb,iff_true];omega
 have m4:((len+1+1)*16<=140737488355328)=True:=by simp only[YAb,iff_true];omega
 have e0:List.take len (List.map prI ps)++ [AV.agg [.int .i64 x2,.int .i64 y2]]=List.map prI (ps.take len++ [(x2,y2)]):=by rw[<-List.map_take,zSg]
 have hl1:(ps.take len++ [(x2,y2)]).length=len+1:=by simp[hle]
 have hle2:(len+1<=(ps.take len++ [(x2,y2)]).length)=True:=by rw[hl1];simp
 have e1:List.take (len+1) (List.map prI (ps.take len++ [(x2,y2)]))++ [AV.agg [.int .i64 x1,.int .i64 y1]]=List.map prI (ps.take len++ [(x2,y2),(x1,y1)]):=by
  rw[List.take_of_length_le (by rw[YAK,hl1];exact YAV _),zSg];simp
 have hqa:decide (a<F.length)=true:=decide_eq_true hD.hq
 unfold zAd
 refine eD zdc Tryz.func101 Tryz.results101 fun ok=> ?_
 repeat' (first
  |refine drA zdc 3 0 ?_
  |refine zJ9 ?_ zdc Tryz.f101.ntmps rfl (by decide)
  |skip)<;>simp only[↓zaL,WY,yA,yB,yD,reduceCtorEq,yE,yF,W1,WS,W3,yI,zdd,zdb,yG,isMs,wK,bxR,arR,bxK,arK,quaP hD,zTg,yN,yO,v0,v1,v2,u0,u1,u2,hle',m1,m2,m3,m4,e0,e1,hl1,hqa,YAV]
 all_goals exact⟨rfl,rfl⟩
end
end
section
theorem Sto.ze1(σ:Sto)(n:Nat)(F:List AObj)(p q:Nat)(lim:Int):(σ.mark n).zeM F p q lim=σ.zeM F p q lim:=by
 unfold Sto.zeM;rw[Sto.zO0];rfl
theorem zhD(F:List AObj)(p q w a:Nat)(lim:Int)(σ:Sto)(n ver len:Nat)(ps:List (Nat×Nat)):wK F p q w a lim (σ.mark n) ver len ps=wK F p q w a lim σ ver len ps:=by
 unfold wK;rw[Sto.zO0];rfl
section
variable {F : List AObj} {p q : Nat} {lim : Int}
theorem zfw(hs:p<F.length)(hr:q<F.length)(hne:q≠p){σ:Sto}(hg:GoodS σ)(hL:σ.L.length<=1000000){x y:Nat}(hx:x<σ.L.length)(hy:y<σ.L.length)(ex:σ.L.st.root x=x)(ey:σ.L.st.root y=y)(h6:σ.L.st.kind x=6)(hxy:x≠y):
 zAd Tryz.prog 107 [.bptr p 0,.int .i64 x,.int .i64 y] (σ.zeM F p q lim) (.int .i64 (σ.link x y).1) ((σ.link x y).2.zeM F p q lim):=by
 have hx':x<σ.L.st.length:=by rw[Mem.zXR];exact hx
 have hy':y<σ.L.st.length:=by rw[Mem.zXR];exact hy
 have hL':σ.L.st.length<=1000000:=by rw[Mem.zXR];exact hL
 have lx:σ.L.st.link x=none:=by have:=hg.si.wf.zUK x;rwa[ex]at this
 have ly:σ.L.st.link y=none:=by have:=hg.si.wf.zUK y;rwa[ey]at this
 unfold Sto.link
 by_cases hin:x∈σ.L.st.all y
 ·rw[if_pos hin,Sto.ze1]
  exact zfx hs hr hne hg.si.wf hL' x y hx' hy' (by rw[ex];exact h6) (by rw[ex,ey];exact hxy) (by rw[ex];exact hin)
 ·rw[if_neg hin]
  have h:=zfy (v:=σ.v) (lim:=lim) (cnt:=σ.cnt) hs hr hne hg.si.wf hL' x y hx' hy' (by rw[ex];exact h6) (by rw[ex,ey];exact hxy) (by rw[ex];exact hin)
  rw[ex,ey]at h
  unfold Sto.zeM
  show zAd _ _ _ _ _ (hpR F p q σ.v (zNL σ.L σ.rd x y).st lim σ.cnt)
  rw[zef hg.si hx hy lx h6 ly hin]
  exact h
theorem zft{e:Nat->AV}{b m v:Nat}{S:St}{cnt:Int}{G:List AObj}(hne:q≠p)(hw:Wf S)(n:Nat)(hn:n<S.length)(hG:G[p]?=some (bxR q v S.length lim cnt)/\G[q]?=some (arR v S)):zA5 Tryz.prog 40 [.bptr p 0,.int .i64 n] (.int .i64 (S.kind (S.root n))) (FS e G b m).obj:=
 qcalls_st (s:=p) (r:=q) (bx:=bxR q v S.length lim cnt) (ar:=arR v S) (fun F' h1 h2=>zfq h1 h2 hne hw n hn) (by rw[zIP];exact hG.1) (by rw[zIP];exact hG.2) rfl rfl
end
section
variable {F : List AObj} {p q w a : Nat} {lim : Int}
def CBe:Cfg:= {C with rdr:=CR.rdr,zwr:=fun f=>f==54}
theorem zdZ:zAb Tryz.prog CBe:=C_ok
theorem zda(t:Nat):CBe.ty t=C.ty t:=rfl
theorem zdY(t:Nat):CBe.inpl t=false:=rfl
theorem zfY(hD:QuaD F p q w a){σ:Sto}(hg:GoodS σ)(hL:σ.L.length<=1000000){x y:Nat}(hx:x<σ.L.length)(hy:y<σ.L.length)(ex:σ.L.st.root x=x)(ey:σ.L.st.root y=y)(h6:σ.L.st.kind x=6)(hxy:x≠y)(left:Bool)(ver len:Nat)(ps:List (Nat×Nat))
 (hk:σ.L.st.kind y=6\/4 ∉ σ.L.st.all y):zAd Tryz.prog 100 [.bptr w 0,.int .i64 x,.int .i64 y,.bool left] (wK F p q w a lim σ ver len ps) (.int .i64 (σ.link x y).1) (wK F p q w a lim (σ.link x y).2 ver len ps):=by
 have hne:q≠p:=fun e=>hD.d1.1 e.symm
 have hy':y<σ.L.st.length:=by rw[Mem.zXR];exact hy
 have hL':σ.L.st.length<=1000000:=by rw[Mem.zXR];exact hL
 have q1:=dK (lim:=lim) (fun G hs hr=>zfq (F:=G) (v:=σ.v) (lim:=lim) (cnt:=σ.cnt) hs hr hne hg.si.wf y hy') hD ver len ps
 have q2:=dK (lim:=lim) (fun G hs hr=>zgU (F:=G) (v:=σ.v) (lim:=lim) (cnt:=σ.cnt) hs hr hne hg.si.wf hL' y hy') hD ver len ps
 have q3:=dK (lim:=lim) (fun G hs hr=>zfw (F:=G) (lim:=lim) hs hr hne hg hL hx hy ex ey h6 hxy) hD ver len ps
 rw[ey]at q1
 unfold zAd
 by_cases hk6:σ.L.st.kind y=6
 ·have b1:(σ.L.st.kind y==6)=true:=by rw[beq_iff_eq];exact hk6
  refine eD zdZ Tryz.func100 Tryz.results100 fun ok=> ?_
  repeat' (first
   |((first|apply bG|apply bH);simp only[yP,yQ];first|refine zIB (q1) (.inl rfl) ?_|refine zIA (q3) (.inl rfl) (fun hb=>kdB (by first|exact hD|exact hD.app _) hb) ?_)
   |skip)<;>simp only[↓zaL,WY,yA,yB,reduceCtorEq,W1,WS,zda,wK,bxR,arR,bxK,arK,quaP hD,zTh,yN,b1]
 ·have b1:(σ.L.st.kind y==6)=false:=by rw[YAZ];exact hk6
  rw[decide_eq_true (hk.resolve_left hk6)]at q2
  refine eD zdZ Tryz.func100 Tryz.results100 fun ok=> ?_
  repeat' (first
   |((first|apply bG|apply bH);simp only[yP,yQ];first|refine zIB (q1) (.inl rfl) ?_|refine zIB (q2) (.inl rfl) ?_|refine zIA (q3) (.inl rfl) (fun hb=>kdB (by first|exact hD|exact hD.app _) hb) ?_)
   |skip)<;>simp only[↓zaL,WY,yA,yB,reduceCtorEq,W1,WS,zda,wK,bxR,arR,bxK,arK,quaP hD,zTh,yN,b1]
theorem zfZ(hD:QuaD F p q w a){σ:Sto}(hg:GoodS σ)(hL:σ.L.length<=1000000){x y:Nat}(hx:x<σ.L.length)(hy:y<σ.L.length)(ex:σ.L.st.root x=x)(ey:σ.L.st.root y=y)(left:Bool)(ver len:Nat)(ps:List (Nat×Nat))
 (hk6:σ.L.st.kind y≠6) (h4:4∈σ.L.st.all y) (hin:x∈σ.L.st.all y):zAd Tryz.prog 100 [.bptr w 0,.int .i64 x,.int .i64 y,.bool left] (wK F p q w a lim σ ver len ps) (.int .i64 5) (wK F p q w a lim σ ver len ps):=by
 have hne:q≠p:=fun e=>hD.d1.1 e.symm
 have hx':x<σ.L.st.length:=by rw[Mem.zXR];exact hx
 have hy':y<σ.L.st.length:=by rw[Mem.zXR];exact hy
 have hL':σ.L.st.length<=1000000:=by rw[Mem.zXR];exact hL
 have q1:=dK (lim:=lim) (fun G hs hr=>zfq (F:=G) (v:=σ.v) (lim:=lim) (cnt:=σ.cnt) hs hr hne hg.si.wf y hy') hD ver len ps
 have q2:=dK (lim:=lim) (fun G hs hr=>zgU (F:=G) (v:=σ.v) (lim:=lim) (cnt:=σ.cnt) hs hr hne hg.si.wf hL' y hy') hD ver len ps
 have q3:=dK (lim:=lim) (fun G hs hr=>zge (F:=G) (v:=σ.v) (lim:=lim) (cnt:=σ.cnt) hs hr hne hg.si.wf hL' x y hx' hy') hD ver len ps
 rw[ey]at q1
 rw[ex,decide_eq_true hin]at q3
 rw[decide_eq_false (fun h=>h h4)]at q2
 have b1:(σ.L.st.kind y==6)=false:=by rw[YAZ];exact hk6
 unfold zAd
 refine eD zdZ Tryz.func100 Tryz.results100 fun ok=> ?_
 repeat' (first
  |((first|apply bG|apply bH);simp only[yP,yQ];first|refine zIB (q1) (.inl rfl) ?_|refine zIB (q2) (.inl rfl) ?_|refine zIB (q3) (.inl rfl) ?_)
  |skip)<;>simp only[↓zaL,WY,yA,yB,reduceCtorEq,W1,WS,zda,wK,bxR,arR,bxK,arK,quaP hD,zTh,yN,b1]
end
end
section
theorem Ext0.refl(σ:Sto):Ext0 σ σ:=⟨YAV _,fun _ _=>⟨rfl,rfl⟩⟩
structure BcF (σ τ:Sto) (x y:Nat) (lv:Int):Prop where
 good:GoodS τ
 x0:Ext0 σ τ
 xl:x<τ.L.length
 yl:y<τ.L.length
 rx:τ.L.st.root x=x
 ry:τ.L.st.root y=y
 kx:τ.L.st.kind x=6
 ky:τ.L.st.kind y=σ.L.st.kind y
 lvx:(τ.L.st.nd x).level=lv
theorem BcF.init{σ:Sto}(hg:GoodS σ){x y:Nat}(hx:x<σ.L.length)(hy:y<σ.L.length)(ex:σ.L.st.root x=x)(ey:σ.L.st.root y=y)(h6:σ.L.st.kind x=6):BcF σ σ x y (σ.L.st.nd x).level:=
 ⟨hg,Ext0.refl σ,hx,hy,ex,ey,h6,rfl,rfl⟩
theorem BcF.var{σ τ:Sto}{x y:Nat}{lv l:Int}(h:BcF σ τ x y lv)(hl:0<=l):BcF σ (τ.var l) x y lv:=by
 have hg:=h.good.var hl
 have e:=(Ext0.refl τ).var l h.good.si.wf hg.si.wf
 have hx:x<τ.L.st.length:=by rw[Mem.zXR];exact h.xl
 have hy:y<τ.L.st.length:=by rw[Mem.zXR];exact h.yl
 obtain⟨a1,a2⟩:=e.2 x hx
 obtain⟨b1,b2⟩:=e.2 y hy
 refine⟨hg,h.x0.var l h.good.si.wf hg.si.wf,by rw[Sto.zaS];have:=h.xl;omega,by rw[Sto.zaS];have:=h.yl;omega,by rw[a1,h.rx],by rw[b1,h.ry],?_,?_,by rw[a2,h.lvx]⟩
 ·rw[St.kind,a2];exact h.kx
 ·rw[St.kind,b2];exact h.ky
section
variable {F : List AObj} {p q w a : Nat} {lim : Int}
theorem BcF.q5{σ τ:Sto}{x y:Nat}{lv:Int}(h:BcF σ τ x y lv)(hD:QuaD F p q w a)(ver len:Nat)(ps:List (Nat×Nat)):
 zAd Tryz.prog 44 [.bptr p 0,.int .i64 x] (wK F p q w a lim τ ver len ps) (.int .i64 lv) (wK F p q w a lim τ ver len ps):=by
 have hne:q≠p:=fun e=>hD.d1.1 e.symm
 have:=dK (lim:=lim) (fun G hs hr=>zfu (F:=G) (v:=τ.v) (lim:=lim) (cnt:=τ.cnt) hs hr hne h.good.si.wf x (by rw[Mem.zXR];exact h.xl)) hD ver len ps
 rw[h.rx,if_pos h.kx,h.lvx]at this
 exact this
theorem zfF{τ:Sto}(hD:QuaD F p q w a)(lv:Int)(hl:0<=lv)(hc:τ.cnt<lim)(hL:τ.L.length<=900000)(hcb:0<=τ.cnt/\τ.cnt<=900000)(ver len:Nat)(ps:List (Nat×Nat)):
 zAd Tryz.prog 53 [.bptr p 0,.int .i64 lv] (wK F p q w a lim τ ver len ps) (.tup [.int .i64 τ.L.length,.int .i64 0]) (wK F p q w a lim (τ.var lv) ver len ps):=by
 have hne:q≠p:=fun e=>hD.d1.1 e.symm
 refine dK (lim:=lim) (fun G hs hr=> ?_) hD ver len ps
 have:=zgb (F:=G) (v:=τ.v) (S:=τ.L.st) (lim:=lim) (cnt:=τ.cnt) hs hr hne lv (by omega) (by omega) (by rw[Mem.zXR];omega) ⟨hcb.1,by omega⟩
 rw[Mem.zXR]at this
 unfold Sto.zeM
 have e:(τ.var lv).L.st=τ.L.st++ [⟨6,lv,none,[]⟩]:=by rw[Sto.var,Mem.zXM];rfl
 rw[e];exact this
theorem zfE{τ:Sto}(hD:QuaD F p q w a)(lv:Int)(hl:0<=lv)(hc:¬τ.cnt<lim)(ver len:Nat)(ps:List (Nat×Nat)):
 zAd Tryz.prog 53 [.bptr p 0,.int .i64 lv] (wK F p q w a lim τ ver len ps) (.tup [.int .i64 0,.int .i64 7]) (wK F p q w a lim τ ver len ps):=by
 have hne:q≠p:=fun e=>hD.d1.1 e.symm
 exact dK (lim:=lim) (fun G hs hr=>rvar_full (F:=G) (v:=τ.v) (S:=τ.L.st) (lim:=lim) (cnt:=τ.cnt) hs hr hne lv (by omega) (by omega)) hD ver len ps
theorem zfG{τ:Sto}(hD:QuaD F p q w a)(c:Nat)(b:Int)(hcl:c<τ.L.length)(hc:τ.cnt<lim)(hL:τ.L.length<=900000)(hcb:0<=τ.cnt/\τ.cnt<=900000)(ver len:Nat)(ps:List (Nat×Nat)):
 zAd Tryz.prog 54 [.bptr p 0,.int .i64 8,.int .i64 c,.int .i64 b] (wK F p q w a lim τ ver len ps) (.tup [.int .i64 τ.L.length,.int .i64 0]) (wK F p q w a lim (τ.mk' 8 [c]) ver len ps):=by
 have hne:q≠p:=fun e=>hD.d1.1 e.symm
 refine dK (lim:=lim) (fun G hs hr=> ?_) hD ver len ps
 have:=zf3 (F:=G) (v:=τ.v) (S:=τ.L.st) (lim:=lim) (cnt:=τ.cnt) hs hr hne c b (by rw[Mem.zXR];exact hcl) (by omega) (by rw[Mem.zXR];omega) ⟨hcb.1,by omega⟩
 rw[Mem.zXR]at this
 unfold Sto.zeM
 have e:(τ.mk' 8 [c]).L.st=τ.L.st++ [⟨8,0,none,[c]⟩]:=by rw[Sto.mk',Mem.zXM]
 rw[e];exact this
theorem zfH{τ:Sto}(hD:QuaD F p q w a)(c:Nat)(b:Int)(hcl:c<τ.L.length)(hc:¬τ.cnt<lim)(ver len:Nat)(ps:List (Nat×Nat)):
 zAd Tryz.prog 54 [.bptr p 0,.int .i64 8,.int .i64 c,.int .i64 b] (wK F p q w a lim τ ver len ps) (.tup [.int .i64 0,.int .i64 7]) (wK F p q w a lim τ ver len ps):=by
 have hne:q≠p:=fun e=>hD.d1.1 e.symm
 exact dK (lim:=lim) (fun G hs hr=>rmake_listfull (F:=G) (v:=τ.v) (S:=τ.L.st) (lim:=lim) (cnt:=τ.cnt) hs hr hne c b (by rw[Mem.zXR];exact hcl) (by omega)) hD ver len ps
theorem zfI{τ:Sto}(hD:QuaD F p q w a){kd:Int}(hk:kd=7\/kd=9)(c b:Nat)(hcl:c<τ.L.length)(hbl:b<τ.L.length)(hc:τ.cnt<lim)(hL:τ.L.length<=900000)(hcb:0<=τ.cnt/\τ.cnt<=900000)(ver len:Nat)(ps:List (Nat×Nat)):
 zAd Tryz.prog 54 [.bptr p 0,.int .i64 kd,.int .i64 c,.int .i64 b] (wK F p q w a lim τ ver len ps) (.tup [.int .i64 τ.L.length,.int .i64 0]) (wK F p q w a lim (τ.mk' kd [c,b]) ver len ps):=by
 have hne:q≠p:=fun e=>hD.d1.1 e.symm
 refine dK (lim:=lim) (fun G hs hr=> ?_) hD ver len ps
 have:=zf5 (F:=G) (v:=τ.v) (S:=τ.L.st) (lim:=lim) (cnt:=τ.cnt) hs hr hne kd c b hk (by rw[Mem.zXR];exact hcl) (by rw[Mem.zXR];exact hbl) (by omega) (by rw[Mem.zXR];omega) ⟨hcb.1,by omega⟩
 rw[Mem.zXR]at this
 unfold Sto.zeM
 have e:(τ.mk' kd [c,b]).L.st=τ.L.st++ [⟨kd,0,none,[c,b]⟩]:=by rw[Sto.mk',Mem.zXM]
 rw[e];exact this
theorem zfJ{τ:Sto}(hD:QuaD F p q w a){kd:Int}(hk:kd=7\/kd=9)(c b:Nat)(hcl:c<τ.L.length)(hbl:b<τ.L.length)(hc:¬τ.cnt<lim)(ver len:Nat)(ps:List (Nat×Nat)):
 zAd Tryz.prog 54 [.bptr p 0,.int .i64 kd,.int .i64 c,.int .i64 b] (wK F p q w a lim τ ver len ps) (.tup [.int .i64 0,.int .i64 7]) (wK F p q w a lim τ ver len ps):=by
 have hne:q≠p:=fun e=>hD.d1.1 e.symm
 exact dK (lim:=lim) (fun G hs hr=>rmake_full (F:=G) (v:=τ.v) (S:=τ.L.st) (lim:=lim) (cnt:=τ.cnt) hs hr hne kd c b hk (by rw[Mem.zXR];exact hcl) (by rw[Mem.zXR];exact hbl) (by omega)) hD ver len ps
theorem BcF.q7{σ τ:Sto}{x y:Nat}{lv:Int}(h:BcF σ τ x y lv)(hD:QuaD F p q w a)(ver len:Nat)(ps:List (Nat×Nat)):
 ∀(e:Nat->AV) (G:List AObj) (b m:Nat),G[p]?=some (bxR q τ.v τ.L.st.length lim τ.cnt)/\G[q]?=some (arR τ.v τ.L.st)->zA5 Tryz.prog 40 [.bptr p 0,.int .i64 y] (.int .i64 (σ.L.st.kind y)) (FS e G b m).obj:=fun e G b m hG=>by
 have:=zft (e:=e) (b:=b) (m:=m) (fun e=>hD.d1.1 e.symm) h.good.si.wf y (by rw[Mem.zXR];exact h.yl) hG
 rw[h.ry,h.ky]at this
 exact this
end
end
section
section
variable {F : List AObj} {p q w a : Nat} {lim : Int}
theorem zfa(hD:QuaD F p q w a){σ:Sto}(hg:GoodS σ)(hL:σ.L.length<=800000)(hcb:0<=σ.cnt/\σ.cnt<=800000){x y:Nat}(hx:x<σ.L.length)(hy:y<σ.L.length)(ex:σ.L.st.root x=x)(ey:σ.L.st.root y=y)(h6:σ.L.st.kind x=6)(left:Bool)(ver len:Nat)(ps:List (Nat×Nat))
 (hk8:σ.L.st.kind y=8) (h4:4∈σ.L.st.all y) (hin:x ∉ σ.L.st.all y) {c:Nat} (hks:σ.L.st.kids y=[c]) (hc:σ.cnt+1<lim) (hle:len<=ps.length) (hlen:len<=1000000000000):
 zAd Tryz.prog 100 [.bptr w 0,.int .i64 x,.int .i64 y,.bool left] (wK F p q w a lim σ ver len ps) (.int .i64 0)
  (wK F p q w a lim (((σ.var (σ.L.st.nd x).level).mk' (σ.L.st.kind y) [σ.L.length]).link x (σ.L.length+1)).2 (ver+1) (len+1) (ps.take len++ [if left=true then(σ.L.length,c)else(c,σ.L.length)])):=by
 have hk6:σ.L.st.kind y≠6:=by omega
 have hne:q≠p:=fun e=>hD.d1.1 e.symm
 have hx':x<σ.L.st.length:=by rw[Mem.zXR];exact hx
 have hy':y<σ.L.st.length:=by rw[Mem.zXR];exact hy
 have hL':σ.L.st.length<=1000000:=by rw[Mem.zXR];omega
 have h0:=BcF.init hg hx hy ex ey h6
 have hlv:=hg.lv x h6
 have q1:=fun(F:List AObj) (hD:QuaD F p q w a)=>dK (lim:=lim) (fun G hs hr=>zfq (F:=G) (v:=σ.v) (lim:=lim) (cnt:=σ.cnt) hs hr hne hg.si.wf y hy') hD ver len ps
 have q2:=fun(F:List AObj) (hD:QuaD F p q w a)=>dK (lim:=lim) (fun G hs hr=>zgU (F:=G) (v:=σ.v) (lim:=lim) (cnt:=σ.cnt) hs hr hne hg.si.wf hL' y hy') hD ver len ps
 have q3:=fun(F:List AObj) (hD:QuaD F p q w a)=>dK (lim:=lim) (fun G hs hr=>zge (F:=G) (v:=σ.v) (lim:=lim) (cnt:=σ.cnt) hs hr hne hg.si.wf hL' x y hx' hy') hD ver len ps
 have q4:=fun(F:List AObj) (hD:QuaD F p q w a)=>dK (lim:=lim) (fun G hs hr=>zfo (F:=G) (v:=σ.v) (lim:=lim) (cnt:=σ.cnt) hs hr hne hg.si.wf y hy') hD ver len ps
 rw[ey]at q1
 rw[ex,decide_eq_false hin]at q3
 rw[decide_eq_false (fun h=>h h4)]at q2
 rw[ey,hks]at q4
 simp only[kidI,List.map_cons,List.map_nil,I64]at q4
 have b1:(σ.L.st.kind y==6)=false:=by rw[YAZ];exact hk6
 have q5:=fun(F:List AObj) (hD:QuaD F p q w a)=>h0.q5 (lim:=lim) hD ver len ps
 generalize (σ.L.st.nd x).level=lv at*
 have h1:=h0.var hlv
 have q6:=fun(F:List AObj) (hD:QuaD F p q w a)=>zfF (lim:=lim) (τ:=σ) hD lv hlv (by omega) (by omega) ⟨hcb.1,by omega⟩ ver len ps
 have q7:=fun(F:List AObj) (hD:QuaD F p q w a)=>h1.q7 (lim:=lim) hD ver len ps
 have e1:(σ.var lv).L.length=σ.L.length+1:=Sto.zaS _ _
 have c1:(σ.var lv).cnt=σ.cnt+1:=rfl
 have q8:=fun(F:List AObj) (hD:QuaD F p q w a)=>zfG (lim:=lim) (τ:=σ.var lv) hD σ.L.length σ.L.length (by omega) (by omega) (by omega) ⟨by omega,by omega⟩ ver len ps
 rw[hk8]at q1 q7 b1⊢
 rw[e1]at q8
 have hg2:GoodS ((σ.var lv).mk' 8 [σ.L.length]):=h1.good.mk' (.inr ⟨rfl,rfl⟩) (by intro z hz;simp only[List.mem_singleton]at hz;omega)
 have x2:=h1.x0.mk' 8 [σ.L.length] h1.good.si.wf hg2.si.wf
 have e2:((σ.var lv).mk' 8 [σ.L.length]).L.length=σ.L.length+2:=by rw[Sto.zPc,e1]
 have er:=(Ext0.refl (σ.var lv)).zPe 8 [σ.L.length]
 rw[e1]at er
 have q9:=fun(F:List AObj) (hD:QuaD F p q w a)=>dK (lim:=lim) (fun G hs hr=>zfw (F:=G) (lim:=lim) (σ:=(σ.var lv).mk' 8 [σ.L.length]) (x:=x) (y:=σ.L.length+1) hs hr hne hg2 (by omega) (by omega) (by omega) (by rw[(x2.kind hx').1];exact ex) er (by rw[(x2.kind hx').2];exact h6) (by omega)) hD ver len ps
 generalize hB:((σ.var lv).mk' 8 [σ.L.length]).link x (σ.L.length+1)=B at*
 obtain⟨be,σ2⟩:=B
 simp only at q9⊢
 have v0:IntKind.wrap .i64 (1-1)=0:=by decide
 have v1:IntKind.wrap .i64 (0+1)=1:=by decide
 unfold zAd
 cases left with
 |true=>
  have k9:=fun(F:List AObj) (hD:QuaD F p q w a)=>zfm (lim:=lim) hD σ2 ver len ps σ.L.length c hle hlen
  refine eD zdZ Tryz.func100 Tryz.results100 fun ok=> ?_
  repeat' (first
   |((first|apply bG|apply bH);simp only[yP,yQ];first|refine zIB (q1 _ (by first|exact hD|exact hD.app _)) (.inl rfl) ?_|refine zIB (q2 _ (by first|exact hD|exact hD.app _)) (.inl rfl) ?_|refine zIB (q3 _ (by first|exact hD|exact hD.app _)) (.inl rfl) ?_|refine zIB (q4 _ (by first|exact hD|exact hD.app _)) (.inl rfl) ?_|refine zIB (q5 _ (by first|exact hD|exact hD.app _)) (.inl rfl) ?_|refine zIA (q6 _ (by first|exact hD|exact hD.app _)) (.inl rfl) (fun hb=>kdB (by first|exact hD|exact hD.app _) hb) ?_|refine zIk rfl (q7 _ (by first|exact hD|exact hD.app _) _ _ _ _ (by simp[quaP hD,bxR,arR])) (.inl rfl) ?_|refine zIl rfl trivial (q8 _ (by first|exact hD|exact hD.app _)) (.inl rfl) (fun hb=>kdB (by first|exact hD|exact hD.app _) hb) ?_|refine zIA (q9 _ (by first|exact hD|exact hD.app _)) (.inl rfl) (fun hb=>kdB (by first|exact hD|exact hD.app _) hb) ?_|refine zIA (k9 _ (by first|exact hD|exact hD.app _)) (.inl rfl) (fun hb=>kdB (by first|exact hD|exact hD.app _) hb) ?_)
   |refine drA zdZ 15 0 ?_
   |refine zJ9 ?_ zdZ Tryz.f100.ntmps rfl (by decide)
   |skip)<;>simp only[↓zaL,WY,yA,yB,yD,reduceCtorEq,yE,yF,W1,WS,W3,yI,yL,yM,zda,zdY,wK,bxR,arR,bxK,arK,quaP hD,zTh,yN,b1,v0]
 |false=>
  have k9:=fun(F:List AObj) (hD:QuaD F p q w a)=>zfm (lim:=lim) hD σ2 ver len ps c σ.L.length hle hlen
  refine eD zdZ Tryz.func100 Tryz.results100 fun ok=> ?_
  repeat' (first
   |((first|apply bG|apply bH);simp only[yP,yQ];first|refine zIB (q1 _ (by first|exact hD|exact hD.app _)) (.inl rfl) ?_|refine zIB (q2 _ (by first|exact hD|exact hD.app _)) (.inl rfl) ?_|refine zIB (q3 _ (by first|exact hD|exact hD.app _)) (.inl rfl) ?_|refine zIB (q4 _ (by first|exact hD|exact hD.app _)) (.inl rfl) ?_|refine zIB (q5 _ (by first|exact hD|exact hD.app _)) (.inl rfl) ?_|refine zIA (q6 _ (by first|exact hD|exact hD.app _)) (.inl rfl) (fun hb=>kdB (by first|exact hD|exact hD.app _) hb) ?_|refine zIk rfl (q7 _ (by first|exact hD|exact hD.app _) _ _ _ _ (by simp[quaP hD,bxR,arR])) (.inl rfl) ?_|refine zIl rfl trivial (q8 _ (by first|exact hD|exact hD.app _)) (.inl rfl) (fun hb=>kdB (by first|exact hD|exact hD.app _) hb) ?_|refine zIA (q9 _ (by first|exact hD|exact hD.app _)) (.inl rfl) (fun hb=>kdB (by first|exact hD|exact hD.app _) hb) ?_|refine zIA (k9 _ (by first|exact hD|exact hD.app _)) (.inl rfl) (fun hb=>kdB (by first|exact hD|exact hD.app _) hb) ?_)
   |refine drA zdZ 15 0 ?_
   |refine zJ9 ?_ zdZ Tryz.f100.ntmps rfl (by decide)
   |skip)<;>simp only[↓zaL,WY,yA,yB,yD,reduceCtorEq,yE,yF,W1,WS,W3,yI,yL,yM,zda,zdY,wK,bxR,arR,bxK,arK,quaP hD,zTh,yN,b1,v0]
end
end
end Go.Proofs.YtdngjamjccjlmaaGreat
