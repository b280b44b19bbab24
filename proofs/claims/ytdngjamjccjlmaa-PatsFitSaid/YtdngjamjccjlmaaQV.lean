/- PatsFit answers true, whatever the input. No condition. -/
import Derived.Test.YtdngjamjccjlmaaPQd
import Derived.Test.YtdngjamjccjlmaaQP
import Derived.Test.YtdngjamjccjlmaaPEb
set_option linter.unusedSimpArgs false
set_option linter.unusedVariables false
set_option maxHeartbeats 4000000
set_option maxRecDepth 100000
namespace Go.Proofs.Ytdngjamjccjlmaa
open Go Go.Ab
open Nat renaming reduceEqDiff -> yA, reduceAdd -> yB, reduceLT -> yC, reduceLeDiff -> yD, reduceMul -> yE, reducePow -> yF, reduceBEq -> yG
open Int renaming reduceAdd -> yH, reduceLT -> yI, reduceToNat -> yJ, reduceBEq -> yK, reduceBNe -> yL, reduceLE -> yM
attribute [local irreducible] zA0 zAA zAa zAi zAj GoIf GoGb zAk GoO GoD GoX GoDX GoG GoDG GoGv zAl Go zAB
theorem zck(p:Pt)(t:Ty):zA0 Try.prog 18 [embP p,emb t] (.bool true):=by
 have q1:=zct p t
 cases h1:rgtP p t with
 |false=>
  rw[h1]at q1
  refine zSa C_ok Try.func18 rfl (by decide) (YAL rfl) (by decide) rfl fun ok H=> ?_
  rw[Try.results18]
  have h:=YAN
  repeat' (first
   |(with_reducible first|apply bA|apply bB|apply bC|apply bD|apply bE|apply bF)<;>intro h
   |((first|apply bG|apply bH);simp only[AV.norm,AV.zQg,W2,W2P,W2E,W2B,zGh,zGx];first|refine zIf (q1) (.inl rfl) ?_|refine zIj (q1) (.inl rfl) ?_)
   |refine zKg (id:=26) C_ok (fun _=>trivial) mixed 0 Try.f18.ntmps rfl (by kernel_rfl) (by decide) ?_
   |skip)<;>simp only[h,↓zaL,↓zHC,WZ,reduceIte,yA,yB,yC,yD,reduceCtorEq,yE,yF,W1,W1P,W1E,W1B,zGh,zGx]
 |true=>
 rw[h1]at q1
 have q2:=zcu t 5
 cases h2:without 5 t with
 |false=>
  rw[h2]at q2
  refine zSa C_ok Try.func18 rfl (by decide) (YAL rfl) (by decide) rfl fun ok H=> ?_
  rw[Try.results18]
  have h:=YAN
  repeat' (first
   |(with_reducible first|apply bA|apply bB|apply bC|apply bD|apply bE|apply bF)<;>intro h
   |((first|apply bG|apply bH);simp only[AV.norm,AV.zQg,W2,W2P,W2E,W2B,zGh,zGx];first|refine zIf (q1) (.inl rfl) ?_|refine zIf (q2) (.inl rfl) ?_|refine zIj (q1) (.inl rfl) ?_|refine zIj (q2) (.inl rfl) ?_)
   |refine zKg (id:=26) C_ok (fun _=>trivial) mixed 0 Try.f18.ntmps rfl (by kernel_rfl) (by decide) ?_
   |skip)<;>simp only[h,↓zaL,↓zHC,WZ,reduceIte,yA,yB,yC,yD,reduceCtorEq,yE,yF,W1,W1P,W1E,W1B,zGh,zGx]
 |true=>
 rw[h2]at q2
 simp only[rgtP,YAA,YAD]at h1
 obtain⟨⟨⟨a1,a2⟩,hc⟩,a4⟩:=h1
 have hsz:=zLJ a1
 obtain⟨t,rfl,hto⟩:=T.zRB a4
 rw[T.zc4]at h2
 have hok:=zRK hc
 have qb:=bind_ok p t.ty (by omega)
 rw[zDn hc a4]at qb
 obtain⟨e,x,hI⟩:=zLu hok hsz
 have hfit:=fun L=>hI.fit hok (L:=L) h2
 have hmt:=fun(he:e=0) L=>(he▸hI:IntoF p 0 x).match hok (L:=L) h2 hto
 have d1:=fun(s r:Nat) (hne:r≠s) (F:List AObj) (hs:s<F.length) (hr:r<F.length)=>zaP hs hr hne
 have d2:=fun(s r:Nat) (hne:r≠s) (F:List AObj) (hs:s<F.length) (hr:r<F.length)=>zLx hs hr hne (by decide) hc zVp (n:=5) (by decide) hI.pr
 have e5:((5:Nat):Int)=5:=rfl
 unfold Sto.heap zLn badA at d2
 rw[e5]at d2
 change∀s r:Nat,r≠s->∀F:List AObj,s<F.length->r<F.length->zAd _ _ _ (hpS F s r 5 sg0.L 65536 1 0) _ _ at d2
 cases hb:zDo p t.ty []with
 |none=>
  rw[hb]at qb
  simp only at qb
  have b4:((4:Int) !=0)=true:=rfl
  refine zSa C_ok Try.func18 rfl (by decide) (YAL rfl) (by decide) rfl fun ok H=> ?_
  rw[Try.results18]
  rw[zLh]
  have hb0:H.length<=H.length:=YAV _
  have h:=YAN
  repeat' (first
   |(with_reducible first|apply bA|apply bB|apply bC|apply bD|apply bE|apply bF)<;>intro h
   |((first|apply bG|apply bH);simp only[AV.norm,AV.zQg,W2,W2P,W2E,W2B,hb0,zGh,zGx,implies_true,AV.belL];first|refine zIf (q1) (.inl rfl) ?_|refine zIf (q2) (.inl rfl) ?_|refine zIf (qb) (.inl rfl) ?_|refine zIj (q1) (.inl rfl) ?_|refine zIj (q2) (.inl rfl) ?_|refine zIj (qb) (.inl rfl) ?_)
   |refine zKh (id:=26) C_ok (fun _=>trivial) mixed 0 Try.f18.ntmps (by first|(simp;done)|(simp;omega)) rfl (by kernel_rfl) (by decide) ?_
   |skip)<;>simp only[h,↓zaL,↓zHC,WY,reduceIte,yA,yB,yC,yD,reduceCtorEq,yE,yF,W1,W1P,W1E,W1B,WS,hb0,zGh,zGx,implies_true,AV.belL]
  refine zIC (by simp) fun G s r hs hr hne hl ht hbs hbr=> ?_
  rw[show zNK 65536=65536 by decide]
  have hl0:H.length<=G.length:=by rw[YAJ]at hl;omega
  have hle:∀k,(H.length<=G.length+k)=True:=fun k=>by simp only[YAb,iff_true];omega
  have hU0:=zXS (q:=H.length) (by rw[zCT rfl];rfl) ht hbs hbr
  have hHt:G.take H.length=H:=zYQ ht (by simp) (by simp)
  have hbs':H.length<=s:=by rw[YAJ]at hbs;omega
  have hbr':H.length<=r:=by rw[YAJ]at hbr;omega
  have d1:=d1 s r hne
  have d2:=d2 s r hne
  by_cases he:e=0
  ·simp only[if_pos he]at d2
   have h:=YAN
   repeat' (first
    |(with_reducible first|apply bA|apply bB|apply bC|apply bD|apply bE|apply bF)<;>intro h
    |((first|apply bG|apply bH);simp only[AV.norm,AV.zQg,W2,W2P,W2E,W2B,W3,yH,yI,yJ,yK,yL,yM,hpS,bxS,arS,stP hs hr hne,zTh,zTg,AV.bel,zOg,hb0,hl0,hle,hU0,b4,zGx,zGh,implies_true,AV.belL,AV.bel,zXu,zQM,zXs,zQK,beq_self_eq_true];first|refine zIf (zao) (.inl rfl) ?_|refine zIj (zao) (.inl rfl) ?_|refine zIA (d1 _ (by first|exact hs|simp<;>omega) (by first|exact hr|simp<;>omega)) (.inl rfl) (fun hb=>zLV (by first|exact hs|simp<;>omega) (by first|exact hr|simp<;>omega) hne hb) ?_|refine zIA (d2 _ (by first|exact hs|simp<;>omega) (by first|exact hr|simp<;>omega)) (.inl rfl) (fun hb=>zLV (by first|exact hs|simp<;>omega) (by first|exact hr|simp<;>omega) hne hb) ?_)
    |refine zKh (id:=26) C_ok (fun _=>trivial) mixed 0 Try.f18.ntmps (by first|(simp;done)|(simp;omega)) rfl (by kernel_rfl) (by decide) ?_
    |refine zJ9 ?_ C_ok Try.f18.ntmps rfl (by decide)
    |skip)<;>simp only[h,↓zaL,↓zHC,WY,reduceIte,yA,yB,yC,yD,reduceCtorEq,yE,yF,W1,W1P,W1E,W1B,WS,W3,yH,yI,yJ,yK,yL,yM,hpS,bxS,arS,stP hs hr hne,zTh,zTg,AV.bel,zOg,hb0,hl0,hle,hU0,b4,zGx,zGh,implies_true,AV.belL,AV.bel,zXu,zQM,zXs,zQK,beq_self_eq_true,zFY]
   all_goals exact zXL hbs' hbr' hl0 hHt
  ·simp only[if_neg he]at d2
   have h:=YAN
   repeat' (first
    |(with_reducible first|apply bA|apply bB|apply bC|apply bD|apply bE|apply bF)<;>intro h
    |((first|apply bG|apply bH);simp only[AV.norm,AV.zQg,W2,W2P,W2E,W2B,W3,yH,yI,yJ,yK,yL,yM,hpS,bxS,arS,stP hs hr hne,zTh,zTg,AV.bel,zOg,hb0,hl0,hle,hU0,b4,zGx,zGh,implies_true,AV.belL,AV.bel,zXu,zQM,zXs,zQK,beq_self_eq_true];first|refine zIf (zao) (.inl rfl) ?_|refine zIj (zao) (.inl rfl) ?_|refine zIA (d1 _ (by first|exact hs|simp<;>omega) (by first|exact hr|simp<;>omega)) (.inl rfl) (fun hb=>zLV (by first|exact hs|simp<;>omega) (by first|exact hr|simp<;>omega) hne hb) ?_|refine zIA (d2 _ (by first|exact hs|simp<;>omega) (by first|exact hr|simp<;>omega)) (.inl rfl) (fun hb=>zLV (by first|exact hs|simp<;>omega) (by first|exact hr|simp<;>omega) hne hb) ?_)
    |refine zKh (id:=26) C_ok (fun _=>trivial) mixed 0 Try.f18.ntmps (by first|(simp;done)|(simp;omega)) rfl (by kernel_rfl) (by decide) ?_
    |refine zJ9 ?_ C_ok Try.f18.ntmps rfl (by decide)
    |skip)<;>simp only[h,↓zaL,↓zHC,WY,reduceIte,yA,yB,yC,yD,reduceCtorEq,yE,yF,W1,W1P,W1E,W1B,WS,W3,yH,yI,yJ,yK,yL,yM,hpS,bxS,arS,stP hs hr hne,zTh,zTg,AV.bel,zOg,hb0,hl0,hle,hU0,b4,zGx,zGh,implies_true,AV.belL,AV.bel,zXu,zQM,zXs,zQK,beq_self_eq_true,zFY]
   all_goals exact zXL hbs' hbr' hl0 hHt
 |some L=>
 rw[hb]at qb
 simp only at qb
 have he:=(hfit L hb).1
 obtain⟨B,m1,m2,m3⟩:=hmt he L hb
 subst he
 simp only[if_true]at d2
 obtain⟨y1,y2,_⟩:=hI.yes hok
 have hcnt1:=hI.cnt1
 have hcnt:=hI.cnt
 have hlen6:=hI.len6
 have hlen:=hI.len
 have hNl:=hI.nm
 have hxo:=hI.good.si.wf.zYC (n:=5) (by rw[IS.zNB];omega) (by rw[IS.zNB];omega)
 have d3:=fun(s r:Nat) (hne:r≠s) (F:List AObj) (hs:s<F.length) (hr:r<F.length)=>rd14 hs hr hne hI.good (n:=5) (by have:=hI.len6;omega) (c:=x.σ.cnt) ⟨hI.cnt1,by have:=hI.cnt;omega⟩
 rw[e5]at d3
 have hel:L.length=x.nm.length:=by rw[m3];exact zHB _ _ y1
 refine zSa C_ok Try.func18 rfl (by decide) (YAL rfl) (by decide) rfl fun ok H=> ?_
 rw[Try.results18]
 rw[zLh]
 have hb0:H.length<=H.length:=YAV _
 have h:=YAN
 repeat' (first
  |(with_reducible first|apply bA|apply bB|apply bC|apply bD|apply bE|apply bF)<;>intro h
  |((first|apply bG|apply bH);simp only[AV.norm,AV.zQg,W2,W2P,W2E,W2B,hb0,zGh,zGx,zOa,zOc,implies_true,AV.belL,AV.bel];first|refine zIf (q1) (.inl rfl) ?_|refine zIf (q2) (.inl rfl) ?_|refine zIf (qb) (.inl rfl) ?_|refine zIj (q1) (.inl rfl) ?_|refine zIj (q2) (.inl rfl) ?_|refine zIj (qb) (.inl rfl) ?_)
  |refine zKh (id:=26) C_ok (fun _=>trivial) mixed 0 Try.f18.ntmps (by first|(simp;done)|(simp;omega)) rfl (by kernel_rfl) (by decide) ?_
  |skip)<;>simp only[h,↓zaL,↓zHC,WY,reduceIte,yA,yB,yC,yD,reduceCtorEq,yE,yF,W1,W1P,W1E,W1B,WS,hb0,zGh,zGx,zOa,zOc,implies_true,AV.belL,AV.bel]
 refine zIC (by simp) fun G s r hs hr hne hl ht hbs hbr=> ?_
 rw[show zNK 65536=65536 by decide]
 have hl0:H.length<=G.length:=by rw[YAJ]at hl;omega
 have hle:∀k,(H.length<=G.length+k)=True:=fun k=>by simp only[YAb,iff_true];omega
 have hU0:=zXS (q:=H.length) (by rw[zCT rfl];rfl) ht hbs hbr
 have hU1:=zXS (q:=H.length+1) (by rw[zCU rfl];rfl) ht hbs hbr
 have hHt:G.take H.length=H:=zYQ ht (by simp) (by simp)
 have hbs':H.length<=s:=by rw[YAJ]at hbs;omega
 have hbr':H.length<=r:=by rw[YAJ]at hbr;omega
 have d1:=d1 s r hne
 have d2:=d2 s r hne
 have d3:=d3 s r hne
 by_cases hfit:((x.σ.L.st.tT 5).size:Int)<=65536-x.σ.cnt
 case neg=>
  simp only[if_neg hfit]at d3
  have b7:((7:Int) !=0)=true:=rfl
  have h:=YAN
  repeat' (first
   |(with_reducible first|apply bA|apply bB|apply bC|apply bD|apply bE|apply bF)<;>intro h
   |((first|apply bG|apply bH);simp only[AV.norm,AV.zQg,W2,W2P,W2E,W2B,W3,yH,yI,yJ,yK,yL,yM,hpS,bxS,arS,stP hs hr hne,zTh,zTg,AV.bel,zOg,hb0,hl0,hle,hU0,hU1,hel,<-y1,b7,YAK,zGx,zGh,implies_true,AV.belL,AV.bel,zXu,zQM,zXs,zQK,beq_self_eq_true,YAO];first|refine zIf (zao) (.inl rfl) ?_|refine zIj (zao) (.inl rfl) ?_|refine zIA (d1 _ (by first|exact hs|simp<;>omega) (by first|exact hr|simp<;>omega)) (.inl rfl) (fun hb=>zLV (by first|exact hs|simp<;>omega) (by first|exact hr|simp<;>omega) hne hb) ?_|refine zIA (d2 _ (by first|exact hs|simp<;>omega) (by first|exact hr|simp<;>omega)) (.inl rfl) (fun hb=>zLV (by first|exact hs|simp<;>omega) (by first|exact hr|simp<;>omega) hne hb) ?_|refine zIA (d3 _ (by first|exact hs|simp<;>omega) (by first|exact hr|simp<;>omega)) (.inl rfl) (fun hb=>zLV (by first|exact hs|simp<;>omega) (by first|exact hr|simp<;>omega) hne hb) ?_)
   |refine zKh (id:=26) C_ok (fun _=>trivial) mixed 0 Try.f18.ntmps (by first|(simp;done)|(simp;omega)) rfl (by kernel_rfl) (by decide) ?_
   |refine zJ9 ?_ C_ok Try.f18.ntmps rfl (by decide)
   |skip)<;>simp only[h,↓zaL,↓zHC,WY,reduceIte,yA,yB,yC,yD,reduceCtorEq,yE,yF,W1,W1P,W1E,W1B,WS,W3,yH,yI,yJ,yK,yL,yM,hpS,bxS,arS,stP hs hr hne,zTh,zTg,AV.bel,zOg,hb0,hl0,hle,hU0,hU1,hel,<-y1,b7,YAK,zGx,zGh,implies_true,AV.belL,AV.bel,zXu,zQM,zXs,zQK,beq_self_eq_true,YAO,zFY]
  all_goals exact zXL hbs' hbr' hl0 hHt
 simp only[if_pos hfit]at d3
 have qm:=zcZ (x.σ.L.st.tT 5).ty t.ty (by rw[zQb];omega)
 rw[zO7,if_pos ⟨by rw[T.zT5];exact hxo,a4⟩,zX5,zX5,m1]at qm
 simp only at qm
 have heg:∀i (hi:i<x.nm.length),L.getD i default=(x.nm.getD i default,(putS (sigB (bdL B)) (x.σ.L.st.tT (x.nd.getD i 0))).ty):=fun i hi=>by
  rw[m3];exact zHA (sigB (bdL B)) x.σ.L.st y1 hi
 have qi:∀i,i<x.nm.length->zA0 Try.prog 58 [emb (x.σ.L.st.tT (x.nd.getD i 0)).ty,.sl ((bdL B).map embB) .no] (.tup [emb (putS (sigB (bdL B)) (x.σ.L.st.tT (x.nd.getD i 0))).ty,.int .i64 0]):=fun i hi=>by
  have hd:x.nd.getD i 0∈x.nd:=by rw[YAF,YAI (by omega)];exact List.getElem_mem _
  have h:=zXx (x.σ.L.st.tT (x.nd.getD i 0)).ty (bdL B)
  rw[zXv,if_pos ⟨by rw[T.zT5];exact hI.good.si.wf.zYC (by rw[IS.zNB];omega) (by rw[IS.zNB];exact(y2 _ hd).1),m2⟩,zX5]at h
  exact h
 have qd:∀i,i<x.nm.length->∀(c:Int),0<=c/\c<=65536->∀(F:List AObj) (hs:s<F.length) (hr:r<F.length),_:=fun i hi c hc F hs hr=>rd14 hs hr hne hI.good (n:=x.nd.getD i 0) (by
  have hd:x.nd.getD i 0∈x.nd:=by rw[YAF,YAI (by omega)];exact List.getElem_mem _
  exact(y2 _ hd).1) hc
 have c0:0<=x.σ.cnt+((x.σ.L.st.tT 5).size:Int)/\x.σ.cnt+((x.σ.L.st.tT 5).size:Int)<=65536:=by omega
 clear m1 m3 hb hmt hfit hxo hI
 generalize bdL B=bs at*
 generalize (x.σ.L.st.tT 5).size=N at*
 generalize (x.σ.L.st.tT 5).ty=t1 at*
 generalize t.ty=t0 at*
 have h:=YAN
 repeat' (first
  |(with_reducible first|apply bA|apply bB|apply bC|apply bD|apply bE|apply bF)<;>intro h
  |((first|apply bG|apply bH);simp only[AV.norm,AV.zQg,W2,W2P,W2E,W2B,hpS,bxS,arS,stP hs hr hne,zTh,zTg,AV.bel,zOg,hb0,hl0,hle,hU0,hU1,hel,<-y1,YAK,zGx,zGh,zG6,implies_true,AV.belL,AV.bel,zXu,zQM,zOc,zOZ,zXs,zQK,beq_self_eq_true,YAO];first|refine zIf (qm) (.inl rfl) ?_|refine zIj (qm) (.inl rfl) ?_|refine zIA (d1 _ (by first|exact hs|simp<;>omega) (by first|exact hr|simp<;>omega)) (.inl rfl) (fun hb=>zLV (by first|exact hs|simp<;>omega) (by first|exact hr|simp<;>omega) hne hb) ?_|refine zIA (d2 _ (by first|exact hs|simp<;>omega) (by first|exact hr|simp<;>omega)) (.inl rfl) (fun hb=>zLV (by first|exact hs|simp<;>omega) (by first|exact hr|simp<;>omega) hne hb) ?_|refine zIA (d3 _ (by first|exact hs|simp<;>omega) (by first|exact hr|simp<;>omega)) (.inl rfl) (fun hb=>zLV (by first|exact hs|simp<;>omega) (by first|exact hr|simp<;>omega) hne hb) ?_)
  |refine zKh (id:=26) C_ok (fun _=>trivial) mixed 0 Try.f18.ntmps (by first|(simp;done)|(simp;omega)) rfl (by kernel_rfl) (by decide) ?_
  |skip)<;>simp only[h,↓zaL,↓zHC,WY,reduceIte,yA,yB,yC,yD,reduceCtorEq,yE,yF,W1,W1P,W1E,W1B,WS,hpS,bxS,arS,stP hs hr hne,zTh,zTg,AV.bel,zOg,hb0,hl0,hle,hU0,hU1,hel,<-y1,YAK,zGx,zGh,zG6,implies_true,AV.belL,AV.bel,zXu,zQM,zOc,zOZ,zXs,zQK,beq_self_eq_true,YAO]
 refine zCN [18,5,7,10,11,16] ?_
 simp only[List.map_cons,List.map_nil,↓zaL,↓zHC,WY,reduceIte,yA,yB,yC,yD,reduceCtorEq,yE,yF,W1,W1P,W1E,W1B,WS]
 refine zJ1 1 (fun z:Nat×Int×List AObj=> [(18,.int .i64 z.1)]) (fun z=>hpS z.2.2 s r x.σ.v x.σ.L 65536 z.2.1 x.σ.rd)
  (fun z=>z.1<=x.nm.length/\(0<=z.2.1/\z.2.1<=65536)/\∃K,z.2.2=G++(.box [.int .i64 0,.int .i64 0,.int .i64 0,.int .i64 0,.int .i64 0,.str ByteArray.empty]:: .box [.int .i64 t1.kind,.int .i64 t1.num,.sl (t1.kids.map emb) .no]::K))
  (fun z=>x.nm.length-z.1) C_ok (0,x.σ.cnt+N,G++ [.box [.int .i64 0,.int .i64 0,.int .i64 0,.int .i64 0,.int .i64 0,.str ByteArray.empty],.box [.int .i64 t1.kind,.int .i64 t1.num,.sl (t1.kids.map emb) .no]]) rfl (by simp only[hpS,bxS,arS]) ⟨YAX _,c0,[],rfl⟩ (by decide) ?_
 clear d1 d2 d3 qm qb h c0
 have hbs1:=hbs'
 have hbr1:=hbr'
 rintro⟨i,c,G2⟩ ⟨hi,hc01,K,hK⟩
 simp only at hi hc01 hK
 simp only[List.drop_succ_cons,List.drop_zero,List.cons_append,List.nil_append]
 have hGl:G.length<=G2.length:=by rw[hK];simp
 have hs:s<G2.length:=by omega
 have hr:r<G2.length:=by omega
 have hHt2:G2.take H.length=H:=by rw[hK,List.take_append_of_le_length hl0];exact hHt
 have hl2:H.length<=G2.length:=by omega
 have hle2:∀k,(H.length<=G2.length+k)=True:=fun k=>by simp only[YAb,iff_true];omega
 have hV1:=zXQ (G:=G2) (s:=s) (r:=r) (q:=G.length) (by rw[hK,zCT rfl];rfl) (by omega) (by omega)
 have hV2:=zXQ (G:=G2) (s:=s) (r:=r) (q:=G.length+1) (by rw[hK,zCU rfl];rfl) (by omega) (by omega)
 have hmax:x.nm.length<=maxLen:=by rw[zPC];omega
 by_cases hlt:i<x.nm.length
 ·have hlt2:i<x.nd.length:=by omega
  have ql:=qi i hlt
  have qr2:=fun(F:List AObj) (hs:s<F.length) (hr:r<F.length)=>qd i hlt c hc01 F hs hr
  have g1:=zXt hlt
  have g2:=zQL (l:=x.nd) (i:=i) (by omega)
  have g3:=zOb (l:=L) (i:=i) (by omega)
  rw[heg i hlt]at g3
  generalize x.nm.getD i default=nme at*
  generalize x.nd.getD i 0=d at*
  have e1:=zXq nme
  by_cases hf:((x.σ.L.st.tT d).size:Int)<=65536-c
  ·simp only[if_pos hf]at qr2
   have qe:=zMo (putS (sigB bs) (x.σ.L.st.tT d)).ty (putS (sigB bs) (x.σ.L.st.tT d)).ty
   rw[zVO]at qe
   generalize (x.σ.L.st.tT d).size=N1 at*
   generalize (putS (sigB bs) (x.σ.L.st.tT d)).ty=u2 at*
   generalize (x.σ.L.st.tT d).ty=u1 at*
   have h:=YAN
   repeat' (first
    |(with_reducible first|apply bA|apply bB|apply bC|apply bD|apply bE|apply bF)<;>intro h
    |((first|apply bG|apply bH);simp only[AV.norm,AV.zQg,W2,W2P,W2E,W2B,W3,yH,yI,yJ,yK,yL,yM,hpS,bxS,arS,stP hs hr hne,zTh,zTg,AV.bel,zOg,hlt,hlt2,hel,g1,g2,g3,ST,NI,e1,zGO,hb0,hl2,hle2,hV1,hV2,YAK,zGx,zG6,implies_true,AV.belL,AV.bel,zXu,zQM,zOc,zOZ,zXs,zQK,beq_self_eq_true,YAO];first|refine zIf (ql) (.inl rfl) ?_|refine zIf (qe) (.inl rfl) ?_|refine zIj (ql) (.inl rfl) ?_|refine zIj (qe) (.inl rfl) ?_|refine zIA (qr2 _ (by first|exact hs|simp<;>omega) (by first|exact hr|simp<;>omega)) (.inl rfl) (fun hb=>zLV (by first|exact hs|simp<;>omega) (by first|exact hr|simp<;>omega) hne hb) ?_)
    |refine zKh (id:=26) C_ok (fun _=>trivial) mixed 0 Try.f18.ntmps (by first|(simp;done)|(simp;omega)) rfl (by kernel_rfl) (by decide) ?_
    |refine zJ9 ?_ C_ok Try.f18.ntmps rfl (by decide)
    |skip)<;>simp only[h,↓zaL,↓zHC,WY,reduceIte,yA,yB,yC,yD,reduceCtorEq,yE,yF,W1,W1P,W1E,W1B,WS,W3,yH,yI,yJ,yK,yL,yM,hpS,bxS,arS,stP hs hr hne,zTh,zTg,AV.bel,zOg,hlt,hlt2,hel,g1,g2,g3,ST,NI,e1,zGO,hb0,hl2,hle2,hV1,hV2,YAK,zGx,zG6,implies_true,AV.belL,AV.bel,zXu,zQM,zOc,zOZ,zXs,zQK,beq_self_eq_true,YAO,zFY]
   refine⟨(i+1,c+N1,G2++ [.box [.int .i64 u1.kind,.int .i64 u1.num,.sl (u1.kids.map emb) .no],.box [.int .i64 u2.kind,.int .i64 u2.num,.sl (u2.kids.map emb) .no]]),⟨hlt,by simp only;omega,K++ [.box [.int .i64 u1.kind,.int .i64 u1.num,.sl (u1.kids.map emb) .no],.box [.int .i64 u2.kind,.int .i64 u2.num,.sl (u2.kids.map emb) .no]],by simp only;rw[hK];simp⟩,by simp only;omega,zap ?_ ?_⟩
   ·simp only[hpS,bxS,arS]
   ·simp only[WK,↓zaL,↓zHC,yA,reduceIte,AV.bel,AV.belL,AObj.bel,AV.norm,AV.zQg,yB,yC,zbX hlt hmax]
  ·simp only[if_neg hf]at qr2
   have b7:((7:Int) !=0)=true:=rfl
   have h:=YAN
   repeat' (first
    |(with_reducible first|apply bA|apply bB|apply bC|apply bD|apply bE|apply bF)<;>intro h
    |((first|apply bG|apply bH);simp only[AV.norm,AV.zQg,W2,W2P,W2E,W2B,W3,yH,yI,yJ,yK,yL,yM,hpS,bxS,arS,stP hs hr hne,zTh,zTg,AV.bel,zOg,hlt,hlt2,hel,g1,g2,g3,ST,NI,b7,hb0,hl2,hle2,hV1,hV2,YAK,zGx,zG6,implies_true,AV.belL,AV.bel,beq_self_eq_true,YAO];first|refine zIf (zao) (.inl rfl) ?_|refine zIj (zao) (.inl rfl) ?_|refine zIA (qr2 _ (by first|exact hs|simp<;>omega) (by first|exact hr|simp<;>omega)) (.inl rfl) (fun hb=>zLV (by first|exact hs|simp<;>omega) (by first|exact hr|simp<;>omega) hne hb) ?_)
    |refine zKh (id:=26) C_ok (fun _=>trivial) mixed 0 Try.f18.ntmps (by first|(simp;done)|(simp;omega)) rfl (by kernel_rfl) (by decide) ?_
    |refine zJ9 ?_ C_ok Try.f18.ntmps rfl (by decide)
    |skip)<;>simp only[h,↓zaL,↓zHC,WY,reduceIte,yA,yB,yC,yD,reduceCtorEq,yE,yF,W1,W1P,W1E,W1B,WS,W3,yH,yI,yJ,yK,yL,yM,hpS,bxS,arS,stP hs hr hne,zTh,zTg,AV.bel,zOg,hlt,hlt2,hel,g1,g2,g3,ST,NI,b7,hb0,hl2,hle2,hV1,hV2,YAK,zGx,zG6,implies_true,AV.belL,AV.bel,beq_self_eq_true,YAO,zFY]
   all_goals exact zXL hbs1 hbr1 hl2 hHt2
 ·have hlt':(i<x.nm.length)=False:=by simp[hlt]
  have h:=YAN
  repeat' (first
   |(with_reducible first|apply bA|apply bB|apply bC|apply bD|apply bE|apply bF)<;>intro h
   |((first|apply bG|apply bH);simp only[AV.norm,AV.zQg,W2,W2P,W2E,W2B,hpS,bxS,arS,stP hs hr hne,zTh,zTg,AV.bel,zOg,hlt',hel,hb0,hl2,hle2,YAK];first|refine zIf (zao) (.inl rfl) ?_|refine zIj (zao) (.inl rfl) ?_)
   |refine zKh (id:=26) C_ok (fun _=>trivial) mixed 0 Try.f18.ntmps (by first|(simp;done)|(simp;omega)) rfl (by kernel_rfl) (by decide) ?_
   |skip)<;>simp only[h,↓zaL,↓zHC,WY,reduceIte,yA,yB,yC,yD,reduceCtorEq,yE,yF,W1,W1P,W1E,W1B,WS,hpS,bxS,arS,stP hs hr hne,zTh,zTg,AV.bel,zOg,hlt',hel,hb0,hl2,hle2,YAK]
  all_goals exact zXU hbs1 hbr1 hHt2
end Go.Proofs.Ytdngjamjccjlmaa
