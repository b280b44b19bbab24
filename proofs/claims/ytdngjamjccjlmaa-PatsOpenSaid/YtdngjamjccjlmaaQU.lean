/- PatsOpen answers true, whatever the input. No condition. -/
import Derived.Test.YtdngjamjccjlmaaPQd
import Derived.Test.YtdngjamjccjlmaaPW
import Derived.Test.YtdngjamjccjlmaaPFa
set_option linter.unusedSimpArgs false
set_option linter.unusedVariables false
set_option maxHeartbeats 4000000
set_option maxRecDepth 100000
namespace Go.Proofs.Ytdngjamjccjlmaa
open Go Go.Ab
open Nat renaming reduceEqDiff -> yA, reduceAdd -> yB, reduceLT -> yC, reduceLeDiff -> yD, reduceMul -> yE, reducePow -> yF, reduceBEq -> yG
open Int renaming reduceAdd -> yH, reduceLT -> yI, reduceToNat -> yJ, reduceBEq -> yK, reduceBNe -> yL, reduceLE -> yM
attribute [local irreducible] zA0 zAA zAa zAi zAj GoIf GoGb zAk GoO GoD GoX GoDX GoG GoDG GoGv zAl Go zAB
theorem zSR(p:Pt)(m:List Ty):zA0 Try.prog 17 [embP p,.sl (m.map emb) .no] (.bool true):=by
 have q1:=zLK p
 cases hp:zLI p with
 |true=>
  rw[hp]at q1
  refine zSa C_ok Try.func17 rfl (by decide) (YAL rfl) (by decide) rfl fun ok H=> ?_
  rw[Try.results17]
  have h:=YAN
  repeat' (first
   |(with_reducible first|apply bA|apply bB|apply bC|apply bD|apply bE|apply bF)<;>intro h
   |((first|apply bG|apply bH);simp only[AV.norm,AV.zQg,W2,W2P,W2E,W2B,zGh];first|refine zIf (q1) (.inl rfl) ?_|refine zIj (q1) (.inl rfl) ?_)
   |refine zKg (id:=25) C_ok (fun _=>trivial) mixed 0 Try.f17.ntmps rfl (by kernel_rfl) (by decide) ?_
   |skip)<;>simp only[h,↓zaL,↓zHC,WZ,reduceIte,yA,yB,yC,yD,reduceCtorEq,yE,yF,W1,W1P,W1E,W1B,zGh]
 |false=>
 rw[hp]at q1
 have hsz:=zLJ hp
 have qr:=zTH p (by omega)
 rw[<-zEk]at qr
 cases hc:chkP p with
 |false=>
  rw[hc]at qr
  refine zSa C_ok Try.func17 rfl (by decide) (YAL rfl) (by decide) rfl fun ok H=> ?_
  rw[Try.results17]
  have h:=YAN
  repeat' (first
   |(with_reducible first|apply bA|apply bB|apply bC|apply bD|apply bE|apply bF)<;>intro h
   |((first|apply bG|apply bH);simp only[AV.norm,AV.zQg,W2,W2P,W2E,W2B,zGh];first|refine zIf (q1) (.inl rfl) ?_|refine zIf (qr) (.inl rfl) ?_|refine zIj (q1) (.inl rfl) ?_|refine zIj (qr) (.inl rfl) ?_)
   |refine zKg (id:=25) C_ok (fun _=>trivial) mixed 0 Try.f17.ntmps rfl (by kernel_rfl) (by decide) ?_
   |skip)<;>simp only[h,↓zaL,↓zHC,WZ,reduceIte,yA,yB,yC,yD,reduceCtorEq,yE,yF,W1,W1P,W1E,W1B,zGh]
 |true=>
 rw[hc]at qr
 cases h2:small m with
 |false=>
  refine zSa C_ok Try.func17 rfl (by decide) (YAL rfl) (by decide) rfl fun ok H=> ?_
  rw[Try.results17]
  have h:=YAN
  repeat' (first
   |(with_reducible first|apply bA|apply bB|apply bC|apply bD|apply bE|apply bF)<;>intro h
   |((first|apply bG|apply bH);simp only[AV.norm,AV.zQg,W2,W2P,W2E,W2B,h2,YAK,zGh];first|refine zIf (q1) (.inl rfl) ?_|refine zIf (qr) (.inl rfl) ?_|refine zIf (zWQ _) (.inl rfl) ?_|refine zIf (zHl _) (.inl rfl) ?_|refine zIj (q1) (.inl rfl) ?_|refine zIj (qr) (.inl rfl) ?_|refine zIj (zWQ _) (.inl rfl) ?_|refine zIj (zHl _) (.inl rfl) ?_)
   |refine zKg (id:=25) C_ok (fun _=>trivial) mixed 0 Try.f17.ntmps rfl (by kernel_rfl) (by decide) ?_
   |skip)<;>simp only[h,↓zaL,↓zHC,WZ,reduceIte,yA,yB,yC,yD,reduceCtorEq,yE,yF,W1,W1P,W1E,W1B,h2,YAK,zGh]
 |true=>
 by_cases h3:(m.length:Int)>10
 ·have c3:((m.length:Int)>10)=True:=by simp[h3]
  refine zSa C_ok Try.func17 rfl (by decide) (YAL rfl) (by decide) rfl fun ok H=> ?_
  rw[Try.results17]
  have h:=YAN
  repeat' (first
   |(with_reducible first|apply bA|apply bB|apply bC|apply bD|apply bE|apply bF)<;>intro h
   |((first|apply bG|apply bH);simp only[AV.norm,AV.zQg,W2,W2P,W2E,W2B,h2,c3,YAK,zGh];first|refine zIf (q1) (.inl rfl) ?_|refine zIf (qr) (.inl rfl) ?_|refine zIf (zWQ _) (.inl rfl) ?_|refine zIf (zHl _) (.inl rfl) ?_|refine zIj (q1) (.inl rfl) ?_|refine zIj (qr) (.inl rfl) ?_|refine zIj (zWQ _) (.inl rfl) ?_|refine zIj (zHl _) (.inl rfl) ?_)
   |refine zKg (id:=25) C_ok (fun _=>trivial) mixed 0 Try.f17.ntmps rfl (by kernel_rfl) (by decide) ?_
   |skip)<;>simp only[h,↓zaL,↓zHC,WZ,reduceIte,yA,yB,yC,yD,reduceCtorEq,yE,yF,W1,W1P,W1E,W1B,h2,c3,YAK,zGh]
 have c3:((m.length:Int)>10)=False:=by simp only[YAb,iff_false];exact h3
 have hm10:m.length<=10:=by omega
 cases h4:zHk m with
 |false=>
  refine zSa C_ok Try.func17 rfl (by decide) (YAL rfl) (by decide) rfl fun ok H=> ?_
  rw[Try.results17]
  have h:=YAN
  repeat' (first
   |(with_reducible first|apply bA|apply bB|apply bC|apply bD|apply bE|apply bF)<;>intro h
   |((first|apply bG|apply bH);simp only[AV.norm,AV.zQg,W2,W2P,W2E,W2B,h2,c3,h4,YAK,zGh];first|refine zIf (q1) (.inl rfl) ?_|refine zIf (qr) (.inl rfl) ?_|refine zIf (zWQ _) (.inl rfl) ?_|refine zIf (zHl _) (.inl rfl) ?_|refine zIj (q1) (.inl rfl) ?_|refine zIj (qr) (.inl rfl) ?_|refine zIj (zWQ _) (.inl rfl) ?_|refine zIj (zHl _) (.inl rfl) ?_)
   |refine zKg (id:=25) C_ok (fun _=>trivial) mixed 0 Try.f17.ntmps rfl (by kernel_rfl) (by decide) ?_
   |skip)<;>simp only[h,↓zaL,↓zHC,WZ,reduceIte,yA,yB,yC,yD,reduceCtorEq,yE,yF,W1,W1P,W1E,W1B,h2,c3,h4,YAK,zGh]
 |true=>
 have hmr:∀y∈m,right y=true:=fun y hy=>by
  have h4':=h4
  simp only[zHk,YAA]at h4'
  exact zTw h4'.2 hy
 have hok:=zRK hc
 obtain⟨e,x,hI⟩:=zLu hok hsz
 refine zSa C_ok Try.func17 rfl (by decide) (YAL rfl) (by decide) rfl fun ok H=> ?_
 rw[Try.results17]
 rw[zLh]
 have hb0:H.length<=H.length:=YAV _
 have h:=YAN
 repeat' (first
  |(with_reducible first|apply bA|apply bB|apply bC|apply bD|apply bE|apply bF)<;>intro h
  |((first|apply bG|apply bH);simp only[AV.norm,AV.zQg,W2,W2P,W2E,W2B,h2,c3,h4,hb0,YAK,zGh,zGx,implies_true,AV.belL];first|refine zIf (q1) (.inl rfl) ?_|refine zIf (qr) (.inl rfl) ?_|refine zIf (zWQ _) (.inl rfl) ?_|refine zIf (zHl _) (.inl rfl) ?_|refine zIj (q1) (.inl rfl) ?_|refine zIj (qr) (.inl rfl) ?_|refine zIj (zWQ _) (.inl rfl) ?_|refine zIj (zHl _) (.inl rfl) ?_)
  |refine zKh (id:=25) C_ok (fun _=>trivial) mixed 0 Try.f17.ntmps (by first|(simp;done)|(simp;omega)) rfl (by kernel_rfl) (by decide) ?_
  |skip)<;>simp only[h,↓zaL,↓zHC,WY,reduceIte,yA,yB,yC,yD,reduceCtorEq,yE,yF,W1,W1P,W1E,W1B,WS,h2,c3,h4,hb0,YAK,zGh,zGx,implies_true,AV.belL]
 refine zIC (by simp) fun G s r hs hr hne hl ht hbs hbr=> ?_
 rw[show zNK 65536=65536 by decide]
 have hl0:H.length<=G.length:=by rw[YAJ]at hl;omega
 have hle:∀k,(H.length<=G.length+k)=True:=fun k=>by simp only[YAb,iff_true];omega
 have hU0:=zXS (q:=H.length) (by rw[zCT rfl];rfl) ht hbs hbr
 have hHt:G.take H.length=H:=zYQ ht (by simp) (by simp)
 have hbs':H.length<=s:=by rw[YAJ]at hbs;omega
 have hbr':H.length<=r:=by rw[YAJ]at hbr;omega
 have d1:=fun(F:List AObj) (hs:s<F.length) (hr:r<F.length)=>zaP hs hr hne
 have d2:=fun(F:List AObj) (hs:s<F.length) (hr:r<F.length)=>zLx hs hr hne (by decide) hc zVp (n:=5) (by decide) hI.pr
 have d3:=fun(F:List AObj) (hs:s<F.length) (hr:r<F.length)=>rd14 hs hr hne hI.good (n:=5) (by have:=hI.len6;omega) (c:=x.σ.cnt) ⟨hI.cnt1,by have:=hI.cnt;omega⟩
 unfold Sto.heap zLn badA at d2
 have e5:((5:Nat):Int)=5:=rfl
 rw[e5]at d2 d3
 change∀F:List AObj,s<F.length->r<F.length->zAd _ _ _ (hpS F s r 5 sg0.L 65536 1 0) _ _ at d2
 by_cases he:e=0
 case neg=>
  have hw:=hI.bw he
  simp only[if_neg he]at d2
  rw[hw]at d2
  have b0:(e !=0)=true:=by rw[bne_iff_ne];exact he
  have b1:(e==4)=true\/((e==4)=false/\(e==5)=true):=by
   rcases hI.er with h|h|h
   ·exact absurd h he
   ·exact .inl (by rw[h];rfl)
   ·exact .inr ⟨by rw[h];rfl,by rw[h];rfl⟩
  rcases b1 with b1|⟨b1,b2⟩
  ·have h:=YAN
   repeat' (first
    |(with_reducible first|apply bA|apply bB|apply bC|apply bD|apply bE|apply bF)<;>intro h
    |((first|apply bG|apply bH);simp only[AV.norm,AV.zQg,W2,W2P,W2E,W2B,W3,yH,yI,yJ,yK,yL,yM,hpS,bxS,arS,stP hs hr hne,zTh,zTg,AV.bel,zOg,hb0,hl0,hle,hU0,b0,b1,zGx,zGh,implies_true,AV.belL,AV.bel,beq_self_eq_true];first|refine zIf (zao) (.inl rfl) ?_|refine zIj (zao) (.inl rfl) ?_|refine zIA (d1 _ (by first|exact hs|simp<;>omega) (by first|exact hr|simp<;>omega)) (.inl rfl) (fun hb=>zLV (by first|exact hs|simp<;>omega) (by first|exact hr|simp<;>omega) hne hb) ?_|refine zIA (d2 _ (by first|exact hs|simp<;>omega) (by first|exact hr|simp<;>omega)) (.inl rfl) (fun hb=>zLV (by first|exact hs|simp<;>omega) (by first|exact hr|simp<;>omega) hne hb) ?_)
    |refine zKh (id:=25) C_ok (fun _=>trivial) mixed 0 Try.f17.ntmps (by first|(simp;done)|(simp;omega)) rfl (by kernel_rfl) (by decide) ?_
    |refine zJ9 ?_ C_ok Try.f17.ntmps rfl (by decide)
    |skip)<;>simp only[h,↓zaL,↓zHC,WY,reduceIte,yA,yB,yC,yD,reduceCtorEq,yE,yF,W1,W1P,W1E,W1B,WS,W3,yH,yI,yJ,yK,yL,yM,hpS,bxS,arS,stP hs hr hne,zTh,zTg,AV.bel,zOg,hb0,hl0,hle,hU0,b0,b1,zGx,zGh,implies_true,AV.belL,AV.bel,beq_self_eq_true,zFY]
   all_goals exact zXL hbs' hbr' hl0 hHt
  ·have h:=YAN
   repeat' (first
    |(with_reducible first|apply bA|apply bB|apply bC|apply bD|apply bE|apply bF)<;>intro h
    |((first|apply bG|apply bH);simp only[AV.norm,AV.zQg,W2,W2P,W2E,W2B,W3,yH,yI,yJ,yK,yL,yM,hpS,bxS,arS,stP hs hr hne,zTh,zTg,AV.bel,zOg,hb0,hl0,hle,hU0,b0,b1,b2,zGx,zGh,implies_true,AV.belL,AV.bel,beq_self_eq_true];first|refine zIf (zao) (.inl rfl) ?_|refine zIj (zao) (.inl rfl) ?_|refine zIA (d1 _ (by first|exact hs|simp<;>omega) (by first|exact hr|simp<;>omega)) (.inl rfl) (fun hb=>zLV (by first|exact hs|simp<;>omega) (by first|exact hr|simp<;>omega) hne hb) ?_|refine zIA (d2 _ (by first|exact hs|simp<;>omega) (by first|exact hr|simp<;>omega)) (.inl rfl) (fun hb=>zLV (by first|exact hs|simp<;>omega) (by first|exact hr|simp<;>omega) hne hb) ?_)
    |refine zKh (id:=25) C_ok (fun _=>trivial) mixed 0 Try.f17.ntmps (by first|(simp;done)|(simp;omega)) rfl (by kernel_rfl) (by decide) ?_
    |refine zJ9 ?_ C_ok Try.f17.ntmps rfl (by decide)
    |skip)<;>simp only[h,↓zaL,↓zHC,WY,reduceIte,yA,yB,yC,yD,reduceCtorEq,yE,yF,W1,W1P,W1E,W1B,WS,W3,yH,yI,yJ,yK,yL,yM,hpS,bxS,arS,stP hs hr hne,zTh,zTg,AV.bel,zOg,hb0,hl0,hle,hU0,b0,b1,b2,zGx,zGh,implies_true,AV.belL,AV.bel,beq_self_eq_true,zFY]
   all_goals exact zXL hbs' hbr' hl0 hHt
 subst he
 simp only[if_true]at d2
 obtain⟨y1,y2,y3⟩:=hI.yes hok
 have hcnt1:=hI.cnt1
 have hcnt:=hI.cnt
 have hlen6:=hI.len6
 have hlen:=hI.len
 have hNl:=hI.nm
 have hxo:=hI.good.si.wf.zYC (n:=5) (by rw[IS.zNB];omega) (by rw[IS.zNB];omega)
 by_cases hfit:((x.σ.L.st.tT 5).size:Int)<=65536-x.σ.cnt
 case neg=>
  simp only[if_neg hfit]at d3
  have b7:((7:Int) !=0)=true:=rfl
  have b8:((7:Int)==0)=false:=rfl
  have h:=YAN
  repeat' (first
   |(with_reducible first|apply bA|apply bB|apply bC|apply bD|apply bE|apply bF)<;>intro h
   |((first|apply bG|apply bH);simp only[AV.norm,AV.zQg,W2,W2P,W2E,W2B,W3,yH,yI,yJ,yK,yL,yM,hpS,bxS,arS,stP hs hr hne,zTh,zTg,AV.bel,zOg,hb0,hl0,hle,hU0,b7,b8,zGx,zGh,implies_true,AV.belL,AV.bel,zXu,zQM,zXs,zQK,beq_self_eq_true];first|refine zIf (zao) (.inl rfl) ?_|refine zIj (zao) (.inl rfl) ?_|refine zIA (d1 _ (by first|exact hs|simp<;>omega) (by first|exact hr|simp<;>omega)) (.inl rfl) (fun hb=>zLV (by first|exact hs|simp<;>omega) (by first|exact hr|simp<;>omega) hne hb) ?_|refine zIA (d2 _ (by first|exact hs|simp<;>omega) (by first|exact hr|simp<;>omega)) (.inl rfl) (fun hb=>zLV (by first|exact hs|simp<;>omega) (by first|exact hr|simp<;>omega) hne hb) ?_|refine zIA (d3 _ (by first|exact hs|simp<;>omega) (by first|exact hr|simp<;>omega)) (.inl rfl) (fun hb=>zLV (by first|exact hs|simp<;>omega) (by first|exact hr|simp<;>omega) hne hb) ?_)
   |refine zKh (id:=25) C_ok (fun _=>trivial) mixed 0 Try.f17.ntmps (by first|(simp;done)|(simp;omega)) rfl (by kernel_rfl) (by decide) ?_
   |refine zJ9 ?_ C_ok Try.f17.ntmps rfl (by decide)
   |skip)<;>simp only[h,↓zaL,↓zHC,WY,reduceIte,yA,yB,yC,yD,reduceCtorEq,yE,yF,W1,W1P,W1E,W1B,WS,W3,yH,yI,yJ,yK,yL,yM,hpS,bxS,arS,stP hs hr hne,zTh,zTg,AV.bel,zOg,hb0,hl0,hle,hU0,b7,b8,zGx,zGh,implies_true,AV.belL,AV.bel,zXu,zQM,zXs,zQK,beq_self_eq_true,zFY]
  all_goals exact zXL hbs' hbr' hl0 hHt
 simp only[if_pos hfit]at d3
 have qv:=zTI (x.σ.L.st.tT 5).ty (by rw[zQb];omega)
 rw[zab]at qv
 by_cases hv:(((x.σ.L.st.tT 5).zaU []).length:Int)>60
 ·have cv:((((x.σ.L.st.tT 5).zaU []).length:Int)>60)=True:=by simp[hv]
  have h:=YAN
  repeat' (first
   |(with_reducible first|apply bA|apply bB|apply bC|apply bD|apply bE|apply bF)<;>intro h
   |((first|apply bG|apply bH);simp only[AV.norm,AV.zQg,W2,W2P,W2E,W2B,W3,yH,yI,yJ,yK,yL,yM,hpS,bxS,arS,stP hs hr hne,zTh,zTg,AV.bel,zOg,hb0,hl0,hle,hU0,cv,YAK,zGx,zGh,implies_true,AV.belL,AV.bel,zXu,zQM,zXs,zQK,beq_self_eq_true,YAO];first|refine zIf (qv) (.inl rfl) ?_|refine zIf (zao) (.inl rfl) ?_|refine zIj (qv) (.inl rfl) ?_|refine zIj (zao) (.inl rfl) ?_|refine zIA (d1 _ (by first|exact hs|simp<;>omega) (by first|exact hr|simp<;>omega)) (.inl rfl) (fun hb=>zLV (by first|exact hs|simp<;>omega) (by first|exact hr|simp<;>omega) hne hb) ?_|refine zIA (d2 _ (by first|exact hs|simp<;>omega) (by first|exact hr|simp<;>omega)) (.inl rfl) (fun hb=>zLV (by first|exact hs|simp<;>omega) (by first|exact hr|simp<;>omega) hne hb) ?_|refine zIA (d3 _ (by first|exact hs|simp<;>omega) (by first|exact hr|simp<;>omega)) (.inl rfl) (fun hb=>zLV (by first|exact hs|simp<;>omega) (by first|exact hr|simp<;>omega) hne hb) ?_)
   |refine zKh (id:=25) C_ok (fun _=>trivial) mixed 0 Try.f17.ntmps (by first|(simp;done)|(simp;omega)) rfl (by kernel_rfl) (by decide) ?_
   |refine zJ9 ?_ C_ok Try.f17.ntmps rfl (by decide)
   |skip)<;>simp only[h,↓zaL,↓zHC,WY,reduceIte,yA,yB,yC,yD,reduceCtorEq,yE,yF,W1,W1P,W1E,W1B,WS,W3,yH,yI,yJ,yK,yL,yM,hpS,bxS,arS,stP hs hr hne,zTh,zTg,AV.bel,zOg,hb0,hl0,hle,hU0,cv,YAK,zGx,zGh,implies_true,AV.belL,AV.bel,zXu,zQM,zXs,zQK,beq_self_eq_true,YAO,zFY]
  all_goals exact zXL hbs' hbr' hl0 hHt
 have cv:((((x.σ.L.st.tT 5).zaU []).length:Int)>60)=False:=by simp only[YAb,iff_false];exact hv
 have hxr:right (x.σ.L.st.tT 5).ty=true:=by rw[T.zT5];exact hxo
 have qc:=zEx (x.σ.L.st.tT 5).ty m (by rw[zQb];omega) (by omega) hmr
 rw[zab]at qc
 have hB:=zXY hxo hmr true
 have qs:=zXx (x.σ.L.st.tT 5).ty (zXW ((x.σ.L.st.tT 5).zaU []) m true)
 rw[zXv,if_pos ⟨hxr,hB⟩,zX5]at qs
 have hso:=zEy hxo hmr
 have y4:=y3 (sigB (zXW ((x.σ.L.st.tT 5).zaU []) m true))
 have qb:=bind_ok p (putS (sigB (zXW ((x.σ.L.st.tT 5).zaU []) m true)) (x.σ.L.st.tT 5)).ty (by omega)
 rw[zDn hc (by rw[T.zT5];exact hso),y4]at qb
 simp only at qb
 have hel:=zHB (sigB (zXW ((x.σ.L.st.tT 5).zaU []) m true)) x.σ.L.st y1
 have heg:=fun i (hi:i<x.nm.length)=>zHA (sigB (zXW ((x.σ.L.st.tT 5).zaU []) m true)) x.σ.L.st y1 hi
 have qi:∀i,i<x.nm.length->zA0 Try.prog 58 [emb (x.σ.L.st.tT (x.nd.getD i 0)).ty,.sl ((zXW ((x.σ.L.st.tT 5).zaU []) m true).map embB) .no] (.tup [emb (putS (sigB (zXW ((x.σ.L.st.tT 5).zaU []) m true)) (x.σ.L.st.tT (x.nd.getD i 0))).ty,.int .i64 0]):=fun i hi=>by
  have hd:x.nd.getD i 0∈x.nd:=by rw[YAF,YAI (by omega)];exact List.getElem_mem _
  have h:=zXx (x.σ.L.st.tT (x.nd.getD i 0)).ty (zXW ((x.σ.L.st.tT 5).zaU []) m true)
  rw[zXv,if_pos ⟨by rw[T.zT5];exact hI.good.si.wf.zYC (by rw[IS.zNB];omega) (by rw[IS.zNB];exact(y2 _ hd).1),hB⟩,zX5]at h
  exact h
 have qd:∀i,i<x.nm.length->∀(c:Int),0<=c/\c<=65536->∀(F:List AObj) (hs:s<F.length) (hr:r<F.length),_:=fun i hi c hc F hs hr=>rd14 hs hr hne hI.good (n:=x.nd.getD i 0) (by
  have hd:x.nd.getD i 0∈x.nd:=by rw[YAF,YAI (by omega)];exact List.getElem_mem _
  exact(y2 _ hd).1) hc
 have c0:0<=x.σ.cnt+((x.σ.L.st.tT 5).size:Int)/\x.σ.cnt+((x.σ.L.st.tT 5).size:Int)<=65536:=by omega
 generalize zXW ((x.σ.L.st.tT 5).zaU []) m true=bs at*
 generalize hE:enS (sigB bs) x.σ.L.st x.nm x.nd=E at*
 generalize (putS (sigB bs) (x.σ.L.st.tT 5)).ty=t2 at*
 generalize (x.σ.L.st.tT 5).size=N at*
 generalize (x.σ.L.st.tT 5).zaU []=vs at*
 generalize (x.σ.L.st.tT 5).ty=t1 at*
 clear hfit hso y3 y4 hv hxo hxr hI
 have h:=YAN
 repeat' (first
  |(with_reducible first|apply bA|apply bB|apply bC|apply bD|apply bE|apply bF)<;>intro h
  |((first|apply bG|apply bH);simp only[AV.norm,AV.zQg,W2,W2P,W2E,W2B,hpS,bxS,arS,stP hs hr hne,zTh,zTg,AV.bel,zOg,hb0,hl0,hle,hU0,cv,hel,<-y1,YAK,zGx,zGh,zG6,implies_true,AV.belL,AV.bel,zXu,zQM,zOc,zOZ,zXs,zQK,beq_self_eq_true,YAO];first|refine zIf (qv) (.inl rfl) ?_|refine zIf (qc) (.inl rfl) ?_|refine zIf (qs) (.inl rfl) ?_|refine zIf (qb) (.inl rfl) ?_|refine zIj (qv) (.inl rfl) ?_|refine zIj (qc) (.inl rfl) ?_|refine zIj (qs) (.inl rfl) ?_|refine zIj (qb) (.inl rfl) ?_|refine zIA (d1 _ (by first|exact hs|simp<;>omega) (by first|exact hr|simp<;>omega)) (.inl rfl) (fun hb=>zLV (by first|exact hs|simp<;>omega) (by first|exact hr|simp<;>omega) hne hb) ?_|refine zIA (d2 _ (by first|exact hs|simp<;>omega) (by first|exact hr|simp<;>omega)) (.inl rfl) (fun hb=>zLV (by first|exact hs|simp<;>omega) (by first|exact hr|simp<;>omega) hne hb) ?_|refine zIA (d3 _ (by first|exact hs|simp<;>omega) (by first|exact hr|simp<;>omega)) (.inl rfl) (fun hb=>zLV (by first|exact hs|simp<;>omega) (by first|exact hr|simp<;>omega) hne hb) ?_)
  |refine zKh (id:=25) C_ok (fun _=>trivial) mixed 0 Try.f17.ntmps (by first|(simp;done)|(simp;omega)) rfl (by kernel_rfl) (by decide) ?_
  |skip)<;>simp only[h,↓zaL,↓zHC,WY,reduceIte,yA,yB,yC,yD,reduceCtorEq,yE,yF,W1,W1P,W1E,W1B,WS,hpS,bxS,arS,stP hs hr hne,zTh,zTg,AV.bel,zOg,hb0,hl0,hle,hU0,cv,hel,<-y1,YAK,zGx,zGh,zG6,implies_true,AV.belL,AV.bel,zXu,zQM,zOc,zOZ,zXs,zQK,beq_self_eq_true,YAO]
 refine zCN [19,5,8,9,14,17] ?_
 simp only[List.map_cons,List.map_nil,↓zaL,↓zHC,WY,reduceIte,yA,yB,yC,yD,reduceCtorEq,yE,yF,W1,W1P,W1E,W1B,WS]
 refine zJ1 1 (fun z:Nat×Int×List AObj=> [(19,.int .i64 z.1)]) (fun z=>hpS z.2.2 s r x.σ.v x.σ.L 65536 z.2.1 x.σ.rd)
  (fun z=>z.1<=x.nm.length/\(0<=z.2.1/\z.2.1<=65536)/\∃K,z.2.2=G++(.box [.int .i64 0,.int .i64 0,.int .i64 0,.int .i64 0,.int .i64 0,.str ByteArray.empty]:: .box [.int .i64 t1.kind,.int .i64 t1.num,.sl (t1.kids.map emb) .no]:: .box [.int .i64 t2.kind,.int .i64 t2.num,.sl (t2.kids.map emb) .no]::K))
  (fun z=>x.nm.length-z.1) C_ok (0,x.σ.cnt+N,G++ [.box [.int .i64 0,.int .i64 0,.int .i64 0,.int .i64 0,.int .i64 0,.str ByteArray.empty],.box [.int .i64 t1.kind,.int .i64 t1.num,.sl (t1.kids.map emb) .no],.box [.int .i64 t2.kind,.int .i64 t2.num,.sl (t2.kids.map emb) .no]]) rfl (by simp only[hpS,bxS,arS]) ⟨YAX _,c0,[],rfl⟩ (by decide) ?_
 clear d1 d2 d3 qv qc qs qb h c0 cv
 have hbs1:=hbs'
 have hbr1:=hbr'
 rintro⟨i,c,G2⟩ ⟨hi,hc01,K,hK⟩
 simp only at hi hc01 hK
 simp only[List.drop_succ_cons,List.drop_zero,List.cons_append,List.nil_append]
 have hGl:G.length<=G2.length:=by rw[hK];simp
 have hs:s<G2.length:=by omega
 have hr:r<G2.length:=by omega
 have hHt2:G2.take H.length=H:=by rw[hK,List.take_append_of_le_length hl0];exact hHt
 have hl2:H.length<=G2.length:=by omega
 have hle2:∀k,(H.length<=G2.length+k)=True:=fun k=>by simp only[YAb,iff_true];omega
 have hV1:=zXQ (G:=G2) (s:=s) (r:=r) (q:=G.length) (by rw[hK,zCT rfl];rfl) (by omega) (by omega)
 have hV2:=zXQ (G:=G2) (s:=s) (r:=r) (q:=G.length+1) (by rw[hK,zCU rfl];rfl) (by omega) (by omega)
 have hV3:=zXQ (G:=G2) (s:=s) (r:=r) (q:=G.length+2) (by rw[hK,zCU rfl];rfl) (by omega) (by omega)
 have hmax:x.nm.length<=maxLen:=by rw[zPC];omega
 by_cases hlt:i<x.nm.length
 ·have hlt2:i<x.nd.length:=by omega
  have ql:=qi i hlt
  have qr2:=fun(F:List AObj) (hs:s<F.length) (hr:r<F.length)=>qd i hlt c hc01 F hs hr
  have g1:=zXt hlt
  have g2:=zQL (l:=x.nd) (i:=i) (by omega)
  have g3:=zOb (l:=E) (i:=i) (by omega)
  rw[heg i hlt]at g3
  generalize x.nm.getD i default=nme at*
  generalize x.nd.getD i 0=d at*
  have e1:=zXq nme
  by_cases hf:((x.σ.L.st.tT d).size:Int)<=65536-c
  ·simp only[if_pos hf]at qr2
   have qe:=zMo (putS (sigB bs) (x.σ.L.st.tT d)).ty (putS (sigB bs) (x.σ.L.st.tT d)).ty
   rw[zVO]at qe
   generalize (x.σ.L.st.tT d).size=N1 at*
   generalize (putS (sigB bs) (x.σ.L.st.tT d)).ty=u2 at*
   generalize (x.σ.L.st.tT d).ty=u1 at*
   have h:=YAN
   repeat' (first
    |(with_reducible first|apply bA|apply bB|apply bC|apply bD|apply bE|apply bF)<;>intro h
    |((first|apply bG|apply bH);simp only[AV.norm,AV.zQg,W2,W2P,W2E,W2B,W3,yH,yI,yJ,yK,yL,yM,hpS,bxS,arS,stP hs hr hne,zTh,zTg,AV.bel,zOg,hlt,hlt2,hel,g1,g2,g3,ST,NI,e1,zGO,hb0,hl2,hle2,hV1,hV2,hV3,YAK,zGx,zG6,implies_true,AV.belL,AV.bel,zXu,zQM,zOc,zOZ,zXs,zQK,beq_self_eq_true,YAO];first|refine zIf (ql) (.inl rfl) ?_|refine zIf (qe) (.inl rfl) ?_|refine zIj (ql) (.inl rfl) ?_|refine zIj (qe) (.inl rfl) ?_|refine zIA (qr2 _ (by first|exact hs|simp<;>omega) (by first|exact hr|simp<;>omega)) (.inl rfl) (fun hb=>zLV (by first|exact hs|simp<;>omega) (by first|exact hr|simp<;>omega) hne hb) ?_)
    |refine zKh (id:=25) C_ok (fun _=>trivial) mixed 0 Try.f17.ntmps (by first|(simp;done)|(simp;omega)) rfl (by kernel_rfl) (by decide) ?_
    |refine zJ9 ?_ C_ok Try.f17.ntmps rfl (by decide)
    |skip)<;>simp only[h,↓zaL,↓zHC,WY,reduceIte,yA,yB,yC,yD,reduceCtorEq,yE,yF,W1,W1P,W1E,W1B,WS,W3,yH,yI,yJ,yK,yL,yM,hpS,bxS,arS,stP hs hr hne,zTh,zTg,AV.bel,zOg,hlt,hlt2,hel,g1,g2,g3,ST,NI,e1,zGO,hb0,hl2,hle2,hV1,hV2,hV3,YAK,zGx,zG6,implies_true,AV.belL,AV.bel,zXu,zQM,zOc,zOZ,zXs,zQK,beq_self_eq_true,YAO,zFY]
   refine⟨(i+1,c+N1,G2++ [.box [.int .i64 u1.kind,.int .i64 u1.num,.sl (u1.kids.map emb) .no],.box [.int .i64 u2.kind,.int .i64 u2.num,.sl (u2.kids.map emb) .no]]),⟨hlt,by simp only;omega,K++ [.box [.int .i64 u1.kind,.int .i64 u1.num,.sl (u1.kids.map emb) .no],.box [.int .i64 u2.kind,.int .i64 u2.num,.sl (u2.kids.map emb) .no]],by simp only;rw[hK];simp⟩,by simp only;omega,zap ?_ ?_⟩
   ·simp only[hpS,bxS,arS]
   ·simp only[WK,↓zaL,↓zHC,yA,reduceIte,AV.bel,AV.belL,AObj.bel,AV.norm,AV.zQg,yB,yC,zbX hlt hmax]
  ·simp only[if_neg hf]at qr2
   have b7:((7:Int) !=0)=true:=rfl
   have h:=YAN
   repeat' (first
    |(with_reducible first|apply bA|apply bB|apply bC|apply bD|apply bE|apply bF)<;>intro h
    |((first|apply bG|apply bH);simp only[AV.norm,AV.zQg,W2,W2P,W2E,W2B,W3,yH,yI,yJ,yK,yL,yM,hpS,bxS,arS,stP hs hr hne,zTh,zTg,AV.bel,zOg,hlt,hlt2,hel,g1,g2,g3,ST,NI,b7,hb0,hl2,hle2,hV1,hV2,hV3,YAK,zGx,zG6,implies_true,AV.belL,AV.bel,beq_self_eq_true,YAO];first|refine zIf (zao) (.inl rfl) ?_|refine zIj (zao) (.inl rfl) ?_|refine zIA (qr2 _ (by first|exact hs|simp<;>omega) (by first|exact hr|simp<;>omega)) (.inl rfl) (fun hb=>zLV (by first|exact hs|simp<;>omega) (by first|exact hr|simp<;>omega) hne hb) ?_)
    |refine zKh (id:=25) C_ok (fun _=>trivial) mixed 0 Try.f17.ntmps (by first|(simp;done)|(simp;omega)) rfl (by kernel_rfl) (by decide) ?_
    |refine zJ9 ?_ C_ok Try.f17.ntmps rfl (by decide)
    |skip)<;>simp only[h,↓zaL,↓zHC,WY,reduceIte,yA,yB,yC,yD,reduceCtorEq,yE,yF,W1,W1P,W1E,W1B,WS,W3,yH,yI,yJ,yK,yL,yM,hpS,bxS,arS,stP hs hr hne,zTh,zTg,AV.bel,zOg,hlt,hlt2,hel,g1,g2,g3,ST,NI,b7,hb0,hl2,hle2,hV1,hV2,hV3,YAK,zGx,zG6,implies_true,AV.belL,AV.bel,beq_self_eq_true,YAO,zFY]
   all_goals exact zXL hbs1 hbr1 hl2 hHt2
 ·have hlt':(i<x.nm.length)=False:=by simp[hlt]
  have h:=YAN
  repeat' (first
   |(with_reducible first|apply bA|apply bB|apply bC|apply bD|apply bE|apply bF)<;>intro h
   |((first|apply bG|apply bH);simp only[AV.norm,AV.zQg,W2,W2P,W2E,W2B,hpS,bxS,arS,stP hs hr hne,zTh,zTg,AV.bel,zOg,hlt',hel,hb0,hl2,hle2,YAK];first|refine zIf (zao) (.inl rfl) ?_|refine zIj (zao) (.inl rfl) ?_)
   |refine zKh (id:=25) C_ok (fun _=>trivial) mixed 0 Try.f17.ntmps (by first|(simp;done)|(simp;omega)) rfl (by kernel_rfl) (by decide) ?_
   |skip)<;>simp only[h,↓zaL,↓zHC,WY,reduceIte,yA,yB,yC,yD,reduceCtorEq,yE,yF,W1,W1P,W1E,W1B,WS,hpS,bxS,arS,stP hs hr hne,zTh,zTg,AV.bel,zOg,hlt',hel,hb0,hl2,hle2,YAK]
  all_goals exact zXU hbs1 hbr1 hHt2
end Go.Proofs.Ytdngjamjccjlmaa
