/- What wakes the laws of patterns in stores. No condition. -/
import Derived.Test.YtdngjamjccjlmaaGreatPQc
import Derived.Test.YtdngjamjccjlmaaGreatPWe
set_option linter.unusedSimpArgs false
set_option linter.unusedVariables false
set_option maxHeartbeats 4000000
set_option maxRecDepth 100000
namespace Go.Proofs.YtdngjamjccjlmaaGreat
open Go Go.Ab
open Nat renaming reduceEqDiff -> yA, reduceAdd -> yB, reduceLT -> yC, reduceLeDiff -> yD, reduceMul -> yE, reducePow -> yF
open Int renaming reduceLT -> yI, reduceLE -> yM
open AV renaming belL -> yO, bel -> yN, normL -> yQ, norm -> yP
attribute [local irreducible] zA0 zAA zAa zAi zAj GoIf GoGb zAk GoO GoD GoX GoDX GoG GoDG GoGv zAl Go zAB
def wnX:ByteArray:=⟨#[120]⟩
def wnY:ByteArray:=⟨#[121]⟩
def wnXp:Pt:= .mk 2 0 0 wnX 0 ByteArray.empty []
def wnYp:Pt:= .mk 2 0 0 wnY 0 ByteArray.empty []
def wnP:Pt:= .mk 9 0 0 ByteArray.empty 0 ByteArray.empty [wnXp,wnYp]
theorem zbA:chkP wnP=true:=by decide+kernel
def wnT:T:= .list (.base 0)
def wn0:Sto:=⟨(putM wnT mem0).1,5,1,0⟩
def wnI:IS:=(zN8 20 1 (IS.of wn0)).2
def wnR:Int×Int×Int×Sto:=match runC 20 5 [(5,7)] wnI.σ with
 |some r=>r
 |none=>(0,0,0,wn0)
def wn2:IS:= {wnI with σ:=wnR.2.2.2}
def wn3:IS:= {wn2 with nm:=[wnX,wnY],nd:=[6,7]}
theorem zbG:RunB 20 5 [(5,7)] wnI.σ (0,0,0,wnR.2.2.2):=zUj _ _ _ _ (by kernel_rfl)
theorem zbB:wn3.σ.L.length=8/\wn3.σ.L.st.root 6=0/\wn3.σ.v=7/\wn3.σ.cnt=3:=by decide+kernel
theorem zbD:okI (IS.of wn0):=by unfold okI;decide+kernel
theorem zbE:okI wn2:=by unfold okI;decide+kernel
theorem zbF:okI {wn2 with nm:=[wnX],nd:=[6]}:=by unfold okI;decide+kernel
theorem zbC:PatR 20 1 wnP 5 (IS.of wn0) (0,wn3):=by
 refine(zSA (fun _=>rfl)).2 ⟨zbD,?_⟩
 rw[if_neg (by decide),if_neg (by decide),if_neg (by decide),if_pos (by decide),if_neg (by decide+kernel)]
 refine⟨0,wn2,⟨5,0,0,0,wnR.2.2.2,zbG,by rw[if_pos (.inl rfl)];rfl⟩,?_⟩
 rw[if_neg (by decide)]
 refine⟨0,{wn2 with nm:=[wnX],nd:=[6]},(zSA (by decide)).2 ⟨zbE,?_⟩,?_⟩
 ·rw[if_neg (by decide),if_pos (by decide)];rfl
 ·rw[if_neg (by decide)]
  refine(zSA (by decide)).2 ⟨zbF,?_⟩
  rw[if_neg (by decide),if_pos (by decide)];rfl
theorem za8:GoodS wn0:=⟨(zSo wnT _ SI.mem0 rfl).1,fun n h=>by
 by_cases e:n<6
 ·have:n=0\/n=1\/n=2\/n=3\/n=4\/n=5:=by omega
  rcases this with rfl|rfl|rfl|rfl|rfl|rfl<;>decide
 ·have hl:wn0.L.st.length=6:=by decide
  rw[St.zPx (by omega)];decide⟩
theorem za9:GoodS wn3.σ:=(zSB (by decide) wnP (zRK zbA) 5 (IS.of wn0) (0,wn3) za8 (by decide) zbC).1
section
variable {F : List AObj} {s r : Nat}
theorem wnq1(hs:s<F.length)(hr:r<F.length)(hne:r≠s):zAd Tryz.prog 29 [.bptr s 0,emb (zNW (zM6 1))] (hpS F s r 4 mem0 20 0 0) (.tup [.int .i64 5,.int .i64 0]) (hpS F s r 5 wn0.L 20 1 0):=
 zSz hs hr hne wnT rfl rfl (by decide) (by decide) (by decide)
theorem wnq2(hs:s<F.length)(hr:r<F.length)(hne:r≠s):zAd Tryz.prog 13 [.bptr s 0,embP wnP,.int .i64 5,.int .i64 1] (hpS F s r 5 wn0.L 20 1 0) (.tup [.sl [.str wnX,.str wnY] .no,.sl [.int .i64 6,.int .i64 7] .no,.agg [.int .i64 0,.int .i64 0,.int .i64 0,.int .i64 0,.int .i64 0,.str ByteArray.empty],.int .i64 0]) (hpS F s r wn3.σ.v wn3.σ.L 20 wn3.σ.cnt wn3.σ.rd):=
 zLx hs hr hne (by decide) zbA za8 (by decide) zbC
theorem wnq3(hs:s<F.length)(hr:r<F.length)(hne:r≠s):zAd Tryz.prog 30 [.bptr s 0,.int .i64 6] (hpS F s r wn3.σ.v wn3.σ.L 20 wn3.σ.cnt wn3.σ.rd) (.int .i64 0) (hpS F s r wn3.σ.v wn3.σ.L 20 wn3.σ.cnt wn3.σ.rd):=by
 have h:=zUI (v:=wn3.σ.v) (lim:=20) (cnt:=wn3.σ.cnt) (rd:=wn3.σ.rd) hs hr hne za9.si.wf 6 (by rw[zbB.1];decide)
 rw[zbB.2.1]at h
 exact h
end
theorem zao:zA0 Tryz.prog 12 [] (.bool true):=by
 have qb1:zA0 Tryz.prog 27 [embP wnP,emb (zNW (zM6 1))] (.tup [.sl [embE (wnX,zM6 1),embE (wnY,zNW (zM6 1))] .no,.int .i64 0]):=by
  have:=bind_ok wnP (zNW (zM6 1)) (by decide)
  rw[zDn zbA (by decide)]at this
  exact this
 have qb2:zA0 Tryz.prog 27 [embP wnP,emb (zM6 1)] (.tup [.sl [] .no,.int .i64 4]):=by
  have:=bind_ok wnP (zM6 1) (by decide)
  rw[zDn zbA (by decide)]at this
  exact this
 have qn:zA0 Tryz.prog 31 [embP wnP] (.sl [.str wnX,.str wnY] .no):=zRt wnP (by decide)
 have qt:zA0 Tryz.prog 15 [.sl [.str wnX,.str wnY] .no,.sl [.str wnX,.str wnY] .no] (.bool true):=zYR [wnX,wnY]
 have hP:embP (.mk 9 0 0 ByteArray.empty 0 ByteArray.empty [.mk 2 0 0 ⟨#[120]⟩ 0 ByteArray.empty [],.mk 2 0 0 ⟨#[121]⟩ 0 ByteArray.empty []])=embP wnP:=rfl
 have hx:(wnX.toList==wnX.toList)=true:=by simp
 have hk1:((zM6 1).kind==1)=true:=by decide
 have hk8:((zNW (zM6 1)).kind==8)=true:=by decide
 have hX:(⟨#[120]⟩:ByteArray)=wnX:=rfl
 have hY:(⟨#[121]⟩:ByteArray)=wnY:=rfl
 refine eP C_ok Tryz.func12 Tryz.results12 fun ok H=> ?_
 rw[zLh]
 have hb0:H.length<=H.length:=YAV _
 repeat' (first
  |((first|apply bG|apply bH);simp only[yP,yQ,W2,W2P];first|refine zIf (zM8 1) (.inl rfl) ?_|refine zIf (qb2) (.inl rfl) ?_|refine zIj (zNX _) (.inl rfl) ?_|refine zIj (qb1) (.inl rfl) ?_)
  |refine drA C_ok 3 0 ?_
  |refine zJ9 ?_ C_ok Tryz.f12.ntmps rfl (by decide)
  |skip)<;>simp only[↓zaL,WY,yA,yB,yD,reduceCtorEq,yE,yF,W1,WS,W3,hb0,zGx,implies_true,hX,hY]
 refine zIC (by simp) fun G s r hs hr hne hl ht hbs hbr=> ?_
 rw[show zNK 20=20 by decide]
 have hl0:H.length<=G.length:=by rw[YAJ]at hl;omega
 have hle:∀k,(H.length<=G.length+k)=True:=fun k=>by simp only[YAb,iff_true];omega
 have hU0:=zXS (q:=H.length) (by rw[zCT rfl];rfl) ht hbs hbr
 have hU1:=zXS (q:=H.length+1) (by rw[zCU rfl];rfl) ht hbs hbr
 have hHt:G.take H.length=H:=zYQ ht (by simp) (by simp)
 have hbs':H.length<=s:=by rw[YAJ]at hbs;omega
 have hbr':H.length<=r:=by rw[YAJ]at hbr;omega
 repeat' (first
  |((first|apply bG|apply bH);simp only[yP,yQ,W2,W2P];first|refine zIf (zNX _) (.inl rfl) ?_|refine zIf (qn) (.inl rfl) ?_|refine zIf (qt) (.inl rfl) ?_|refine zIA (wnq1 (by first|exact hs|simp<;>omega) (by first|exact hr|simp<;>omega) hne) (.inl rfl) (fun hb=>zLV (by first|exact hs|simp<;>omega) (by first|exact hr|simp<;>omega) hne hb) ?_|refine zIA (wnq2 (by first|exact hs|simp<;>omega) (by first|exact hr|simp<;>omega) hne) (.inl rfl) (fun hb=>zLV (by first|exact hs|simp<;>omega) (by first|exact hr|simp<;>omega) hne hb) ?_|refine zIB (wnq3 (by first|exact hs|simp<;>omega) (by first|exact hr|simp<;>omega) hne) (.inl rfl) ?_)
  |refine zJ9 ?_ C_ok Tryz.f12.ntmps rfl (by decide)
  |skip)<;>simp only[↓zaL,WY,yA,yB,yC,yD,reduceCtorEq,yE,yF,W1,W1E,WS,W3,yI,yM,hpS,bxS,arS,stP hs hr hne,yN,hl0,hle,hU0,hU1,implies_true,yO,hk1,hk8]
 all_goals exact zXL hbs' hbr' hl0 hHt
end Go.Proofs.YtdngjamjccjlmaaGreat
