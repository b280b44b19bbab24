/- Lemmas: a pattern goes into a store, second part. No condition. -/
import Derived.Test.YtdngjamjccjlmaaGreatPQb
set_option linter.unusedSimpArgs false
set_option linter.unusedVariables false
set_option maxHeartbeats 4000000
set_option maxRecDepth 100000
namespace Go.Proofs.YtdngjamjccjlmaaGreat
open Go Go.Ab
open Nat renaming reduceEqDiff -> yA, reduceAdd -> yB, reduceLT -> yC, reduceLeDiff -> yD, reduceMul -> yE, reducePow -> yF
open Int renaming reduceAdd -> yH, reduceLT -> yI, reduceLE -> yM
open AV renaming bel -> yN, normL -> yQ, norm -> yP, belL -> yO
attribute [local irreducible] zA0 zAA zAa zAi zAj GoIf GoGb zAk GoO GoD GoX GoDX GoG GoDG GoGv zAl Go zAB
section
section
variable {F : List AObj} {s r c a b p : Nat} {lim lv : Int} {y : AObj}
theorem zTN{K K1:List AObj}{m v n v' n' w w':Nat}{L L':Mem}{lim' cnt rd cnt' rd' z1 z2 z3 z4 z5 u1 u2 u3 u4 u5:Int}{j1 j2 j3 j4:Nat}{l1 l1':List ByteArray}{l2 l2':List Nat}{tx tx':ByteArray}(h:SxdD F s r c a b p)(hm:m<=F.length)
 (hb:∀z∈(sxd (F++K1) s r c a b p (bxS r v n lim cnt rd) (arS w L) y (.tok j1 1) (.tok j2 1) (.box [.bptr s 0,.int .i64 lv,.sl (l1.map ST) (.own a),.sl (l2.map NI) (.own b),.int .i64 z1,.int .i64 z2,.int .i64 z3,.int .i64 z4,.int .i64 z5,.str tx])).take m,z.bel m=true):
 ∀z∈(sxd (F++K) s r c a b p (bxS r v' n' lim' cnt' rd') (arS w' L') y (.tok j3 1) (.tok j4 1) (.box [.bptr s 0,.int .i64 lv,.sl (l1'.map ST) (.own a),.sl (l2'.map NI) (.own b),.int .i64 u1,.int .i64 u2,.int .i64 u3,.int .i64 u4,.int .i64 u5,.str tx'])).take m,z.bel m=true:=by
 rw[<-zXy h K1,List.take_append_of_le_length (by rw[zV4];exact hm)]at hb
 rw[<-zXy h K,List.take_append_of_le_length (by rw[zV4];exact hm)]
 exact zTM h hb
end
theorem zLs{lim lv:Int}(hl:¬lv<0){q:Pt}(hk:q.kind=8):zAm lim lv q:=by
 intro F s r c a b p y hD n x res hg hn h
 rw[zSA (by omega),if_neg (by omega),if_neg (by omega),if_neg (by omega),if_pos (by omega)]at h
 obtain⟨ho,h⟩:=h
 have b1:(q.kind==1)=false:=by simp;omega
 have b2:(q.kind==2)=false:=by simp;omega
 have b7:(q.kind==7)=false:=by simp;omega
 have b8:(q.kind==8)=true:=by simp;omega
 have b9:(q.kind==9)=false:=by simp;omega
 by_cases h0:(zN8 lim lv x).1=0
 ·rw[if_neg (by simpa using h0)]at h
  obtain⟨e,x2,hA,h⟩:=h
  rw[if_pos (.inr hk)]at h
  subst h
  have d:=fun J:List AObj=>zOC (y:=y) (hD.app J) (q:=q) hl hg hn ho h0 hA
  unfold zAd
  unfold hI bxI arT arI at*
  by_cases he:e=0
  ·subst he
   refine eD zAY Tryz.func33 Tryz.results33 fun ok=> ?_
   repeat' (first
    |((first|apply bG|apply bH);simp only[yP,yQ,W2P];refine zIA (d _) (.inl rfl) (fun hb=>zTM (by first|exact hD|exact hD.app _) hb) ?_)
    |refine zJ9 ?_ zAY Tryz.f33.ntmps rfl (by decide)
    |skip)<;>simp only[↓zaL,WY,yA,yB,yC,reduceCtorEq,W1,W1P,WS,zAZ,sxdP hD,zTh,yN,YAO,b1,b2,b7,b8]
  ·have e1:(e !=0)=true:=by simpa using he
   refine eD zAY Tryz.func33 Tryz.results33 fun ok=> ?_
   have h:=YAN
   repeat' (first
    |((first|apply bG|apply bH);simp only[yP,yQ,W2P];refine zIA (d _) (.inl rfl) (fun hb=>zTM (by first|exact hD|exact hD.app _) hb) ?_)
    |refine zJ9 ?_ zAY Tryz.f33.ntmps rfl (by decide)
    |skip)<;>simp only[↓zaL,WY,yA,yB,yC,reduceCtorEq,W1,W1P,WS,zAZ,sxdP hD,zTh,yN,b1,b2,b7,b8,e1]
 ·rw[if_pos h0]at h
  subst h
  have d:=fun J:List AObj=>zOA (y:=y) (hD.app J) (q:=q) hl hg hn ho h0
  have e1:((zN8 lim lv x).1 !=0)=true:=by simpa using h0
  unfold zAd
  generalize zN8 lim lv x=z at*
  obtain⟨e,x2⟩:=z
  unfold hI bxI arT arI at*
  refine eD zAY Tryz.func33 Tryz.results33 fun ok=> ?_
  repeat' (first
   |((first|apply bG|apply bH);simp only[yP,yQ,W2P];refine zIA (d _) (.inl rfl) (fun hb=>zTM (by first|exact hD|exact hD.app _) hb) ?_)
   |refine zJ9 ?_ zAY Tryz.f33.ntmps rfl (by decide)
   |skip)<;>simp only[↓zaL,WY,yA,yB,yC,reduceCtorEq,W1,W1P,WS,zAZ,sxdP hD,zTh,yN,b1,b2,b7,b8,e1]
theorem zLt{lim lv:Int}(hl:¬lv<0){q:Pt}(hk:q.kind=7)(hlk:q.kids.length=2)(hok:∀x∈q.kids,okA x=true)(ih:∀x∈q.kids,okA x=true->zAm lim lv x):zAm lim lv q:=by
 intro F s r c a b p y hD n x res hg hn h
 rw[zSA (fun _=>hlk),if_neg (by omega),if_neg (by omega),if_pos hk]at h
 obtain⟨ho,h⟩:=h
 have b1:(q.kind==1)=false:=by simp;omega
 have b2:(q.kind==2)=false:=by simp;omega
 have b7:(q.kind==7)=true:=by simp;omega
 have b8:(q.kind==8)=false:=by simp;omega
 have b9:(q.kind==9)=false:=by simp;omega
 by_cases h0:(zOD lim lv x).1=0
 ·rw[if_neg (by simpa using h0)]at h
  obtain⟨p0,p1,hks⟩:∃p0 p1,q.kids=[p0,p1]:=by
   match q.kids,hlk with
   | [p0,p1],_=>exact⟨p0,p1,rfl⟩
  have k0:q.kid 0=p0:=by rw[Pt.kid,hks];rfl
  have k1:q.kid 1=p1:=by rw[Pt.kid,hks];rfl
  have m0:p0∈q.kids:=by rw[hks];simp
  have m1:p1∈q.kids:=by rw[hks];simp
  have hkm:q.kids.map embP=[embP p0,embP p1]:=by rw[hks];rfl
  have hqe:embP q=embP (.mk q.kind q.fr q.to_ q.name q.num q.str [p0,p1]):=by rw[<-hks,Pt.eta]
  rw[k0,k1]at h
  obtain⟨e,x2,hA,h⟩:=h
  have d:=fun J:List AObj=>zOG (y:=y) (hD.app J) (q:=q) hl hg hn ho h0 hA
  simp only[hqe]at d
  have mg:=zOE (lim:=lim) hg hl
  have ml:=mg.2.2 h0
  have ag:=zBz mg.1 (by omega) (by omega) hA
  simp only at ag
  have c0:((0:Int)<(2:Nat))=True:=by simp
  have c1:((1:Int)<(2:Nat))=True:=by simp
  by_cases he:e=0
  ·rw[if_neg (by omega)]at h
   subst he
   obtain⟨e2,x3,h3,h4⟩:=h
   have ag3:=zSB hl p0 (hok _ m0) _ _ _ ag.1 (by omega) h3
   simp only at ag3
   have d2:=fun J:List AObj=> @ih _ m0 (hok _ m0) _ _ _ _ _ _ _ y (hD.app J) _ _ _ ag.1 (by omega) h3
   by_cases he2:e2=0
   ·subst he2
    rw[if_neg (by simp)]at h4
    obtain⟨e3,x4⟩:=res
    have d3:=fun J:List AObj=> @ih _ m1 (hok _ m1) _ _ _ _ _ _ _ y (hD.app J) _ _ _ ag3.1 (by omega) h4
    unfold zAd
    unfold hI bxI arT arI at*
    by_cases he3:e3=0
    ·subst he3
     refine eD zAY Tryz.func33 Tryz.results33 fun ok=> ?_
     repeat' (first
      |((first|apply bG|apply bH);simp only[yP,yQ,W2P];first|refine zIA (d _) (.inl rfl) (fun hb=>zTM (by first|exact hD|exact hD.app _) hb) ?_|refine zIl rfl trivial (d2 _) (.inl rfl) (fun hb=>zTM (by first|exact hD|exact hD.app _) hb) ?_|refine zIl rfl trivial (d3 _) (.inl rfl) (fun hb=>zTM (by first|exact hD|exact hD.app _) hb) ?_)
      |refine drA zAY 23 0 ?_
      |refine zJ9 ?_ zAY Tryz.f33.ntmps rfl (by decide)
      |skip)<;>simp only[↓zaL,WY,yA,yB,yC,reduceCtorEq,W1,W1P,WS,W3,yH,yI,yM,zAZ,zAX,sxdP hD,zTh,yN,YAO,b1,b2,b7,hkm]
    ·have e1:(e3 !=0)=true:=by simpa using he3
     refine eD zAY Tryz.func33 Tryz.results33 fun ok=> ?_
     repeat' (first
      |((first|apply bG|apply bH);simp only[yP,yQ,W2P];first|refine zIA (d _) (.inl rfl) (fun hb=>zTM (by first|exact hD|exact hD.app _) hb) ?_|refine zIl rfl trivial (d2 _) (.inl rfl) (fun hb=>zTM (by first|exact hD|exact hD.app _) hb) ?_|refine zIl rfl trivial (d3 _) (.inl rfl) (fun hb=>zTM (by first|exact hD|exact hD.app _) hb) ?_)
      |refine drA zAY 23 0 ?_
      |refine zJ9 ?_ zAY Tryz.f33.ntmps rfl (by decide)
      |skip)<;>simp only[↓zaL,WY,yA,yB,yC,reduceCtorEq,W1,W1P,WS,W3,yI,yM,zAZ,zAX,sxdP hD,zTh,yN,YAO,b1,b2,b7,e1,hkm]
   ·rw[if_pos he2]at h4
    subst h4
    have e1:(e2 !=0)=true:=by simpa using he2
    unfold zAd
    unfold hI bxI arT arI at*
    refine eD zAY Tryz.func33 Tryz.results33 fun ok=> ?_
    have h:=YAN
    repeat' (first
     |((first|apply bG|apply bH);simp only[yP,yQ,W2P];first|refine zIA (d _) (.inl rfl) (fun hb=>zTM (by first|exact hD|exact hD.app _) hb) ?_|refine zIl rfl trivial (d2 _) (.inl rfl) (fun hb=>zTM (by first|exact hD|exact hD.app _) hb) ?_)
     |refine drA zAY 23 0 ?_
     |refine zJ9 ?_ zAY Tryz.f33.ntmps rfl (by decide)
     |skip)<;>simp only[↓zaL,WY,yA,yB,yC,reduceCtorEq,W1,W1P,WS,W3,yI,yM,zAZ,zAX,sxdP hD,zTh,yN,YAO,b1,b2,b7,e1,hkm]
  ·rw[if_pos (by omega)]at h
   subst h
   have e1:(e !=0)=true:=by simpa using he
   unfold zAd
   unfold hI bxI arT arI at*
   refine eD zAY Tryz.func33 Tryz.results33 fun ok=> ?_
   have h:=YAN
   repeat' (first
    |((first|apply bG|apply bH);simp only[yP,yQ,W2P];refine zIA (d _) (.inl rfl) (fun hb=>zTM (by first|exact hD|exact hD.app _) hb) ?_)
    |refine zJ9 ?_ zAY Tryz.f33.ntmps rfl (by decide)
    |skip)<;>simp only[↓zaL,WY,yA,yB,yC,reduceCtorEq,W1,W1P,WS,zAZ,sxdP hD,zTh,yN,b1,b2,b7,e1,hkm]
 ·rw[if_pos h0]at h
  subst h
  have d:=fun J:List AObj=>zOF (y:=y) (hD.app J) (q:=q) hl hg hn ho h0
  have e1:((zOD lim lv x).1 !=0)=true:=by simpa using h0
  unfold zAd
  generalize zOD lim lv x=z at*
  obtain⟨e,x2⟩:=z
  unfold hI bxI arT arI at*
  refine eD zAY Tryz.func33 Tryz.results33 fun ok=> ?_
  repeat' (first
   |((first|apply bG|apply bH);simp only[yP,yQ,W2P];refine zIA (d _) (.inl rfl) (fun hb=>zTM (by first|exact hD|exact hD.app _) hb) ?_)
   |refine zJ9 ?_ zAY Tryz.f33.ntmps rfl (by decide)
   |skip)<;>simp only[↓zaL,WY,yA,yB,yC,reduceCtorEq,W1,W1P,WS,zAZ,sxdP hD,zTh,yN,b1,b2,b7,e1]
theorem zLp{lim lv:Int}(hl:¬lv<0){q:Pt}(hk:q.kind=9)(hlk:q.kids.length=2)(hok:∀x∈q.kids,okA x=true)(ih:∀x∈q.kids,okA x=true->zAm lim lv x):zAm lim lv q:=by
 intro F s r c a b p y hD n x res hg hn h
 rw[zSA (fun _=>hlk),if_neg (by omega),if_neg (by omega),if_neg (by omega),if_pos (.inr hk)]at h
 obtain⟨ho,h⟩:=h
 have b1:(q.kind==1)=false:=by simp;omega
 have b2:(q.kind==2)=false:=by simp;omega
 have b7:(q.kind==7)=false:=by simp;omega
 have b8:(q.kind==8)=false:=by simp;omega
 have b9:(q.kind==9)=true:=by simp;omega
 by_cases h0:(zN8 lim lv x).1=0
 ·rw[if_neg (by simpa using h0)]at h
  obtain⟨p0,p1,hks⟩:∃p0 p1,q.kids=[p0,p1]:=by
   match q.kids,hlk with
   | [p0,p1],_=>exact⟨p0,p1,rfl⟩
  have k0:q.kid 0=p0:=by rw[Pt.kid,hks];rfl
  have k1:q.kid 1=p1:=by rw[Pt.kid,hks];rfl
  have m0:p0∈q.kids:=by rw[hks];simp
  have m1:p1∈q.kids:=by rw[hks];simp
  have hkm:q.kids.map embP=[embP p0,embP p1]:=by rw[hks];rfl
  have hkm0:(Pt.mk q.kind q.fr q.to_ q.name q.num q.str [p0,p1]).kids.map embP=[embP p0,embP p1]:=rfl
  have hqe:embP q=embP (.mk q.kind q.fr q.to_ q.name q.num q.str [p0,p1]):=by rw[<-hks,Pt.eta]
  rw[k0,k1]at h
  obtain⟨e,x2,hA,h⟩:=h
  have d:=fun J:List AObj=>zOB (y:=y) (hD.app J) (q:=q) hl hg hn ho h0 hA
  have d:=d [.box (cellsOf (embP q))]
  simp only[hqe,zGi,hkm0,YAJ,List.length_cons,List.length_nil,Nat.add_assoc,yB,List.append_assoc,List.cons_append,List.nil_append]at d
  have mg:=zN9 (lim:=lim) hg hl
  have ml:=mg.2.2 h0
  have ag:=zBz mg.1 (by omega) (by omega) hA
  simp only at ag
  have c0:((0:Int)<(2:Nat))=True:=by simp
  have c1:((1:Int)<(2:Nat))=True:=by simp
  by_cases he:e=0
  ·rw[if_neg (by omega)]at h
   subst he
   obtain⟨e2,x3,h3,h4⟩:=h
   have ag3:=zSB hl p0 (hok _ m0) _ _ _ ag.1 (by omega) h3
   simp only at ag3
   have d2:=fun J:List AObj=> @ih _ m0 (hok _ m0) _ _ _ _ _ _ _ y (hD.app J) _ _ _ ag.1 (by omega) h3
   by_cases he2:e2=0
   ·subst he2
    rw[if_neg (by simp)]at h4
    obtain⟨e3,x4⟩:=res
    have d3:=fun J:List AObj=> @ih _ m1 (hok _ m1) _ _ _ _ _ _ _ y (hD.app J) _ _ _ ag3.1 (by omega) h4
    unfold zAd
    unfold hI bxI arT arI at*
    by_cases he3:e3=0
    ·subst he3
     refine eD zAY Tryz.func33 Tryz.results33 fun ok=> ?_
     repeat' (first
      |refine zJ9 ?_ zAY Tryz.f33.ntmps rfl (by decide)
      |skip)<;>simp only[↓zaL,WY,yA,yB,reduceCtorEq,W1,W1P,WS,zAZ,sxdP hD,b1,b2,b7,b8,b9,hkm]
     refine zIA d (.inl rfl) (fun hb=>zTN hD (YAV _) hb) ?_
     repeat' (first
      |((first|apply bG|apply bH);simp only[yP,yQ,W2P];first|refine zIl rfl trivial (d2 _) (.inl rfl) (fun hb=>zTM (by first|exact hD|exact hD.app _) hb) ?_|refine zIl rfl trivial (d3 _) (.inl rfl) (fun hb=>zTM (by first|exact hD|exact hD.app _) hb) ?_)
      |refine drA zAY 23 0 ?_
      |refine zJ9 ?_ zAY Tryz.f33.ntmps rfl (by decide)
      |skip)<;>simp only[↓zaL,WY,yA,yB,yC,yD,reduceCtorEq,yE,yF,W1,W1P,WS,W3,yH,yI,yM,zAZ,zAX,sxdP hD,zTh,yN,YAO,b8]
    ·have e1:(e3 !=0)=true:=by simpa using he3
     refine eD zAY Tryz.func33 Tryz.results33 fun ok=> ?_
     repeat' (first
      |refine zJ9 ?_ zAY Tryz.f33.ntmps rfl (by decide)
      |skip)<;>simp only[↓zaL,WY,yA,yB,reduceCtorEq,W1,W1P,WS,zAZ,sxdP hD,b1,b2,b7,b8,b9,hkm]
     refine zIA d (.inl rfl) (fun hb=>zTN hD (YAV _) hb) ?_
     repeat' (first
      |((first|apply bG|apply bH);simp only[yP,yQ,W2P];first|refine zIl rfl trivial (d2 _) (.inl rfl) (fun hb=>zTM (by first|exact hD|exact hD.app _) hb) ?_|refine zIl rfl trivial (d3 _) (.inl rfl) (fun hb=>zTM (by first|exact hD|exact hD.app _) hb) ?_)
      |refine drA zAY 23 0 ?_
      |refine zJ9 ?_ zAY Tryz.f33.ntmps rfl (by decide)
      |skip)<;>simp only[↓zaL,WY,yA,yB,yC,yD,reduceCtorEq,yE,yF,W1,W1P,WS,W3,yI,yM,zAZ,zAX,sxdP hD,zTh,yN,YAO,b8,e1]
   ·rw[if_pos he2]at h4
    subst h4
    have e1:(e2 !=0)=true:=by simpa using he2
    unfold zAd
    unfold hI bxI arT arI at*
    refine eD zAY Tryz.func33 Tryz.results33 fun ok=> ?_
    repeat' (first
     |refine zJ9 ?_ zAY Tryz.f33.ntmps rfl (by decide)
     |skip)<;>simp only[↓zaL,WY,yA,yB,reduceCtorEq,W1,W1P,WS,zAZ,sxdP hD,b1,b2,b7,b8,b9,hkm]
    refine zIA d (.inl rfl) (fun hb=>zTN hD (YAV _) hb) ?_
    have h:=YAN
    repeat' (first
     |((first|apply bG|apply bH);simp only[yP,yQ,W2P];refine zIl rfl trivial (d2 _) (.inl rfl) (fun hb=>zTM (by first|exact hD|exact hD.app _) hb) ?_)
     |refine drA zAY 23 0 ?_
     |refine zJ9 ?_ zAY Tryz.f33.ntmps rfl (by decide)
     |skip)<;>simp only[↓zaL,WY,yA,yB,yC,yD,reduceCtorEq,yE,yF,W1,W1P,WS,W3,yI,yM,zAZ,zAX,sxdP hD,zTh,yN,YAO,b8,e1]
  ·rw[if_pos (by omega)]at h
   subst h
   have e1:(e !=0)=true:=by simpa using he
   unfold zAd
   unfold hI bxI arT arI at*
   refine eD zAY Tryz.func33 Tryz.results33 fun ok=> ?_
   repeat' (first
    |refine zJ9 ?_ zAY Tryz.f33.ntmps rfl (by decide)
    |skip)<;>simp only[↓zaL,WY,yA,yB,reduceCtorEq,W1,W1P,WS,zAZ,sxdP hD,b1,b2,b7,b8,b9,hkm]
   refine zIA d (.inl rfl) (fun hb=>zTN hD (YAV _) hb) ?_
   have h:=YAN
   repeat' (first
    |refine zJ9 ?_ zAY Tryz.f33.ntmps rfl (by decide)
    |skip)<;>simp only[↓zaL,WY,yA,yB,yC,W1,W1P,WS,zAZ,sxdP hD,zTh,yN,e1]
 ·rw[if_pos h0]at h
  subst h
  have d:=fun J:List AObj=>zOA (y:=y) (hD.app J) (q:=q) hl hg hn ho h0
  have e1:((zN8 lim lv x).1 !=0)=true:=by simpa using h0
  unfold zAd
  generalize zN8 lim lv x=z at*
  obtain⟨e,x2⟩:=z
  unfold hI bxI arT arI at*
  refine eD zAY Tryz.func33 Tryz.results33 fun ok=> ?_
  repeat' (first
   |((first|apply bG|apply bH);simp only[yP,yQ,W2P];refine zIA (d _) (.inl rfl) (fun hb=>zTM (by first|exact hD|exact hD.app _) hb) ?_)
   |refine zJ9 ?_ zAY Tryz.f33.ntmps rfl (by decide)
   |skip)<;>simp only[↓zaL,WY,yA,yB,yC,reduceCtorEq,W1,W1P,WS,zAZ,sxdP hD,zTh,yN,b1,b2,b7,b8,b9,e1]
theorem zLw{lim lv:Int}(hl:¬lv<0):∀q:Pt,okA q=true->zAm lim lv q:=
 Pt.ind (p:=fun q=>okA q=true->zAm lim lv q) fun q ih hok=>by
  obtain⟨hk,ho⟩:=zRH hok
  have hkd:=zRN hk
  have hlk:=zRP hk
  have:q.kind=1\/q.kind=2\/(3<=q.kind/\q.kind<=6)\/q.kind=7\/q.kind=8\/q.kind=9:=by omega
  rcases this with h|h|h|h|h|h
  ·exact zLo h
  ·exact zLr h
  ·exact zLq h
  ·exact @zLt lim lv hl q h (hlk (.inl h)) ho ih
  ·exact zLs hl h
  ·exact @zLp lim lv hl q h (hlk (.inr h)) ho ih
end
section
def IS.of(σ:Sto):IS:=⟨σ,[],[],0,0,0,0,0⟩
def badA(f t w l r:Int):AV:= .agg [.int .i64 f,.int .i64 t,.int .i64 w,.int .i64 l,.int .i64 r,.str ByteArray.empty]
def zLn(e:Int)(x:IS):AV:=
 if e=0 then .tup [.sl (x.nm.map ST) .no,.sl (x.nd.map NI) .no,badA 0 0 0 0 0,.int .i64 0]else .tup [.sl [] .no,.sl [] .no,badA x.bf x.bt x.bw x.bl x.br,.int .i64 e]
section
variable {F : List AObj} {s r : Nat} {lim lv : Int}
theorem zMw(hs:s<F.length)(hr:r<F.length)(B A X0 X1 X Y Y' T1 T2:AObj):
 ((stF (F++ [X0,X1,X]) s r B A).set (F.length+2) Y++ [T1]).set (F.length+2) Y'++ [T2]=sxd (F++ [X0,X1,Y',T1,T2]) s r F.length (F.length+3) (F.length+4) (F.length+2) B A X0 T1 T2 Y':=by
 have e1:(((((F++ [X0,X1,Y',T1,T2]).set F.length X0).set (F.length+3) T1).set (F.length+4) T2).set (F.length+2) Y')=F++ [X0,X1,Y',T1,T2]:=by
  rw[List.set_append_right _ _ (by omega),List.set_append_right _ _ (by omega),List.set_append_right _ _ (by omega),List.set_append_right _ _ (by omega)]
  simp
 unfold sxd
 rw[e1,<-zW9 hs hr,<-zW9 hs hr]
 have e2:∀(G:List AObj) (Z:AObj) (J:List AObj),(G++J).set (G.length+2) Z=G++J.set 2 Z:=fun G Z J=>by rw[List.set_append_right _ _ (by omega),Nat.add_sub_cancel_left]
 have e3:F.length=(stF F s r B A).length:=(zXB).symm
 rw[e3,e2,List.append_assoc,e2,List.append_assoc]
 rfl
theorem zMv(hs:s<F.length)(hr:r<F.length)(hne:r≠s)(X0 X1 X2 X3 X4:AObj):SxdD (F++ [X0,X1,X2,X3,X4]) s r F.length (F.length+3) (F.length+4) (F.length+2):=
 ⟨by simp;omega,by simp;omega,by simp,by simp,by simp,by simp,by omega,by omega,by omega,by omega⟩
theorem zLv(hs:s<F.length)(hr:r<F.length)(hne:r≠s)(hl:¬lv<0){q:Pt}(hq:okA q=true){n:Nat}{σ:Sto}(hg:GoodS σ)(hn:n<σ.L.length){e:Int}{x:IS}(h:PatR lim lv q n (IS.of σ) (e,x))(X0 X1:AObj):
 zAd Tryz.prog 33 [.bptr (F.length+2) 0,embP q,.int .i64 n] (hpS (F++ [X0,X1,.box [.bptr s 0,.int .i64 lv,.sl [] .full,.sl [] .full,.int .i64 0,.int .i64 0,.int .i64 0,.int .i64 0,.int .i64 0,.str ByteArray.empty]]) s r σ.v σ.L lim σ.cnt σ.rd) (.int .i64 e)
  (hI (F++ [X0,X1,bxI s (F.length+3) (F.length+4) lv (IS.of σ),.tok 0 1,.tok 0 1]) s r F.length (F.length+3) (F.length+4) (F.length+2) lim lv X0 x):=by
 have hD:=zMv hs hr hne X0 X1 (bxI s (F.length+3) (F.length+4) lv (IS.of σ)) (.tok 0 1) (.tok 0 1)
 have d:= @zLw lim lv hl q hq _ _ _ _ _ _ _ X0 hD n (IS.of σ) (e,x) hg hn h
 unfold zAd hpS at*
 refine zBR (p:=F.length+2) (off:=2) (size:=1) (cs:=[.bptr s 0,.int .i64 lv,.sl [] .full,.sl [] .full,.int .i64 0,.int .i64 0,.int .i64 0,.int .i64 0,.int .i64 0,.str ByteArray.empty]) (by rw[zXC (by omega) (by omega),zCU rfl];rfl) rfl ?_
 refine zBR (p:=F.length+2) (off:=3) (size:=1) (cs:=[.bptr s 0,.int .i64 lv,.sl [] (.own (F.length+3)),.sl [] .full,.int .i64 0,.int .i64 0,.int .i64 0,.int .i64 0,.int .i64 0,.str ByteArray.empty]) ?_ rfl ?_
 ·rw[zXB,YAJ,zCS (by rw[List.length_set,zXB];simp),zVl (by rw[zXB];simp)];rfl
 ·have e1:(stF (F++ [X0,X1,.box [.bptr s 0,.int .i64 lv,.sl [] .full,.sl [] .full,.int .i64 0,.int .i64 0,.int .i64 0,.int .i64 0,.int .i64 0,.str ByteArray.empty]]) s r (bxS r σ.v σ.L.length lim σ.cnt σ.rd) (arS σ.v σ.L)).length=F.length+3:=by rw[zXB];simp
  simp only[YAJ,List.length_set,e1,List.length_cons,List.length_nil,List.set_cons_succ,List.set_cons_zero]
  rw[zMw hs hr]
  exact d
def hT(F:List AObj)(s r:Nat)(lim lv:Int)(X0 X1 b0:AObj)(x:IS):List AObj:=hI (F++ [X0,X1,b0,.tok 0 1,.tok 0 1]) s r F.length (F.length+3) (F.length+4) (F.length+2) lim lv X0 x
theorem zK4(X0 X1 b0:AObj)(x:IS):hT F s r lim lv X0 X1 b0 x=stF (F++ [X0,X1,bxI s (F.length+3) (F.length+4) lv x,arT x.nm,arI x.nd]) s r (bxS r x.σ.v x.σ.L.length lim x.σ.cnt x.σ.rd) (arS x.σ.v x.σ.L):=by
 unfold hT hI sxd
 congr 1
 rw[List.set_append_right _ _ (by omega),List.set_append_right _ _ (by omega),List.set_append_right _ _ (by omega),List.set_append_right _ _ (by omega)]
 simp
@[simp] theorem zK5 (X0 X1 b0:AObj) (x:IS):(hT F s r lim lv X0 X1 b0 x).length=F.length+5:=by rw[zK4];simp
theorem hT_P(hs:s<F.length)(hr:r<F.length)(X0 b0:AObj)(x:IS):(∀X1,(hT F s r lim lv X0 X1 b0 x).length=F.length+5)/\(∀X1,(hT F s r lim lv X0 X1 b0 x)[F.length]?=some X0)/\(∀X1,(hT F s r lim lv X0 X1 b0 x)[F.length+1]?=some X1)/\
 (∀X1,(hT F s r lim lv X0 X1 b0 x)[F.length+2]?=some (bxI s (F.length+3) (F.length+4) lv x))/\(∀X1 z,(hT F s r lim lv X0 X1 b0 x).set (F.length+1) z=hT F s r lim lv X0 z b0 x)/\
 (∀X1,(hT F s r lim lv X0 X1 b0 x).take F.length=hpS F s r x.σ.v x.σ.L lim x.σ.cnt x.σ.rd)/\(∀X1,(F.length<=(hT F s r lim lv X0 X1 b0 x).length)=True):=by
 simp only[zK4]
 refine⟨fun _=>by simp,fun _=> ?_,fun _=> ?_,fun _=> ?_,fun _ z=> ?_,fun _=>zXK hs hr,fun _=>by simp⟩
 ·rw[zXC (by omega) (by omega),zCT rfl];rfl
 ·rw[zXC (by omega) (by omega),zCU rfl];rfl
 ·rw[zXC (by omega) (by omega),zCU rfl];rfl
 ·rw[zXG (by omega) (by omega),zCY rfl];rfl
theorem zK3(hs:s<F.length)(hr:r<F.length)(hne:r≠s){K:List AObj}{σ:Sto}{X0 X1 b0:AObj}{x:IS}(hb:∀z∈(hpS (F++K) s r σ.v σ.L lim σ.cnt σ.rd).take F.length,z.bel F.length=true):
 ∀z∈(hT F s r lim lv X0 X1 b0 x).take F.length,z.bel F.length=true:=by
 rw[(hT_P hs hr X0 b0 x).2.2.2.2.2.1]
 unfold hpS at hb
 rw[zXK hs hr]at hb
 have h0:∀(bx ar:AObj),(stF F s r bx ar).take F.length=stF F s r bx ar:=fun _ _=>List.take_of_length_le (by rw[zXB];exact YAV _)
 rw[<-h0]at hb
 have:=zXA hs hr hne (fun _ h=>zD1 (v':=x.σ.v) (n':=x.σ.L.length) (lim':=lim) (cnt':=x.σ.cnt) (rd':=x.σ.rd) h) (zCa _ x.σ.v x.σ.L) hb
 rw[h0]at this
 exact this
theorem zLx(hs:s<F.length)(hr:r<F.length)(hne:r≠s)(hl:¬lv<0){q:Pt}(hq:chkP q=true){n:Nat}{σ:Sto}(hg:GoodS σ)(hn:n<σ.L.length){e:Int}{x:IS}(h:PatR lim lv q n (IS.of σ) (e,x)):
 zAd Tryz.prog 13 [.bptr s 0,embP q,.int .i64 n,.int .i64 lv] (σ.heap F s r lim) (zLn e x) (x.σ.heap F s r lim):=by
 have q1:=zEi q
 rw[if_pos hq]at q1
 have q2:=fun J:List AObj=>zUI (F:=F++J) (v:=σ.v) (lim:=lim) (cnt:=σ.cnt) (rd:=σ.rd) (zN3 hs) (zN3 hr) hne hg.si.wf n hn
 have c1:((σ.L.st.root n:Int)<0)=False:=by simp
 have d:=fun X0 X1:AObj=>zLv (lim:=lim) hs hr hne hl (zRK hq) hg hn h X0 X1
 have hP:=fun X0 b0:AObj=>hT_P (lim:=lim) (lv:=lv) hs hr X0 b0 x
 unfold Sto.heap
 unfold zAd
 refine eD C_ok Tryz.func13 Tryz.results13 fun ok=> ?_
 repeat' (first
  |((first|apply bG|apply bH);simp only[yP,yQ,W2P];first|refine zIf (q1) (.inl rfl) ?_|refine zIB (q2 _) (.inl rfl) ?_)
  |skip)<;>simp only[↓zaL,WY,yA,yB,yD,reduceCtorEq,W1,W1P,WS,hpS,bxS,arS,stP hs hr hne,c1,hl,YAO]
 refine zIA (d _ _) (.inl rfl) (fun hb=>zK3 (lim:=lim) (lv:=lv) (σ:=σ) hs hr hne hb) ?_
 rw[<-hT]
 unfold zLn badA
 by_cases he:e=0
 ·subst he
  simp only[if_true]
  repeat' (first
   |refine drA C_ok 7 0 ?_
   |skip)<;>simp only[↓zaL,WY,yA,yB,yC,W1,WS,hP,bxI,hpS,bxS,arS,zTh,YAO,yN,yO,zXu,zQM,zXs,zQK]
 ·simp only[if_neg he]
  have e1:(e !=0)=true:=by simpa using he
  repeat' (first
   |refine drA C_ok 6 0 ?_
   |skip)<;>simp only[↓zaL,WY,yA,yB,W1,WS,hP,bxI,hpS,bxS,arS,zTh,e1,yN,yO]
end
end
end Go.Proofs.YtdngjamjccjlmaaGreat
