/- The document's way of patterns, walked: pairs, lists. No condition. -/
import Derived.Test.YtdngjamjccjlmaaGreatPXa
set_option linter.unusedSimpArgs false
set_option linter.unusedVariables false
set_option maxHeartbeats 4000000
set_option maxRecDepth 100000
namespace Go.Proofs.YtdngjamjccjlmaaGreat
open Go Go.Ab
open Nat renaming reduceEqDiff -> yA, reduceAdd -> yB, reduceLT -> yC, reduceLeDiff -> yD
open Int renaming reduceLT -> yI, reduceBEq -> yK, reduceLE -> yM
open AV renaming belL -> yO, bel -> yN, normL -> yQ, norm -> yP
theorem zmX(lim lv:Int)(x:IS):(zN8 lim lv x).2.nm=x.nm/\(zN8 lim lv x).2.nd=x.nd:=by
 unfold zN8
 split
 ·exact⟨rfl,rfl⟩
 split<;>exact⟨rfl,rfl⟩
theorem zmW{lim lv:Int}{x:IS}(h:x.σ.cnt<=lim):(zN8 lim lv x).2.σ.cnt<=lim:=by
 unfold zN8
 split
 ·exact h
 split
 ·show x.σ.cnt+1<=lim;omega
 ·show x.σ.cnt+1+1<=lim;omega
theorem zmq{lim lv:Int}(hl:¬lv<0){q:Pt}(hk:q.kind=8):PatJ lim lv q:=by
 intro F s r c a b p y hD n x res hg hlim hn h
 rw[zSA (by omega),if_neg (by omega),if_neg (by omega),if_neg (by omega),if_pos (by omega)]at h
 obtain⟨ho,h⟩:=h
 have b2:(q.kind==2)=((8:Int)==2):=by rw[hk]
 have b3:(q.kind==3)=((8:Int)==3):=by rw[hk]
 have b4:(q.kind==4)=((8:Int)==4):=by rw[hk]
 have b5:(q.kind==5)=((8:Int)==5):=by rw[hk]
 have b6:(q.kind==6)=((8:Int)==6):=by rw[hk]
 have b7:(q.kind==7)=((8:Int)==7):=by rw[hk]
 have b8:(q.kind==8)=((8:Int)==8):=by rw[hk]
 have b9:(q.kind==9)=((8:Int)==9):=by rw[hk]
 obtain⟨nm1,nd1⟩:=zmX lim lv x
 have hc1:=zmW (lv:=lv) hlim
 by_cases h0:(zN8 lim lv x).1=0
 ·rw[if_neg (by simpa using h0)]at h
  obtain⟨e,x2,hA,h⟩:=h
  rw[if_pos (.inr hk)]at h
  subst h
  have mg:=zN9 (lim:=lim) hg hl
  have ml:=mg.2.2 h0
  have d:=fun(F:List AObj) (hD:SxdD F s r c a b p)=>zmV (y:=y) hD hl ho hlim h0
  have d2:=fun(F:List AObj) (hD:SxdD F s r c a b p)=>(zlt (y:=y) hD mg.1 hc1 (n:=n) (m:=x.len+1) (by show n<(zN8 lim lv x).2.len;omega) (by show x.len+1<(zN8 lim lv x).2.len;omega) hA).1
  have hc:=(zlt (y:=y) hD mg.1 hc1 (n:=n) (m:=x.len+1) (by show n<(zN8 lim lv x).2.len;omega) (by show x.len+1<(zN8 lim lv x).2.len;omega) hA).2
  obtain⟨nm,nd⟩:=zls hA
  refine⟨?_,hc⟩
  simp only at nm nd d2⊢
  rw[nm,nd,nm1,nd1]
  generalize zN8 lim lv x=z at*
  obtain⟨e1,x1⟩:=z
  simp only at*
  unfold zAd
  unfold hJ bxJ arT arI at*
  simp only[nm,nd,nm1,nd1]at d d2⊢
  refine eO zlj Tryz.func36 Tryz.results36 fun ok=> ?_
  have h:=YAN
  repeat' (first
   |((first|apply bG|apply bH);simp only[yP,yQ];first|refine zIl rfl (zfrJ rfl rfl (bagJ hD)) (d _ (hD.app _)) (.inl rfl) (fun hb=>znB (hD.app _) hb) ?_|refine zIl rfl (zfrJ rfl rfl (bagJ hD)) (d2 _ (hD.app _)) (.inl rfl) (fun hb=>znB (hD.app _) hb) ?_)
   |refine zif (id:=18) zlj mixed [] 0 Tryz.f36.ntmps (by first|(simp;done)|(simp;omega)) rfl (by kernel_rfl) (by decide) ?_
   |refine zJ9 ?_ zlj Tryz.f36.ntmps rfl (by decide)
   |skip)<;>simp only[↓zaL,WY,yA,yB,yD,reduceCtorEq,W1,W1P,WS,yK,zlk,znk,exB,zmQ,sxdP hD,znE,yN,yO,YAO,b2,b3,b4,b5,b6,b7,b8]
  all_goals first|rfl|exact⟨rfl,rfl⟩|(simp only[zXs,zQK,hD.h1,hD.h2,decide_true,Bool.and_true];done)|trace_state
 ·rw[if_pos h0]at h
  subst h
  have d:=fun(F:List AObj) (hD:SxdD F s r c a b p)=>(zmU (y:=y) hD hl ho hlim h0).1
  have e7:=(zmU (y:=y) hD hl ho hlim h0).2
  have d2:=fun(F:List AObj) (hD:SxdD F s r c a b p)=>zlu (lim:=lim) (y:=y) hD (zN8 lim lv x).2 (e:=7) rfl n 0 q.fr q.to_
  refine⟨?_,hc1⟩
  rw[e7,nm1,nd1]
  generalize zN8 lim lv x=z at*
  obtain⟨e1,x1⟩:=z
  simp only at*
  unfold zAd
  unfold hJ bxJ arT arI at*
  simp only[nm1,nd1]at d d2⊢
  refine eO zlj Tryz.func36 Tryz.results36 fun ok=> ?_
  repeat' (first
   |((first|apply bG|apply bH);simp only[yP,yQ];first|refine zIl rfl (zfrJ rfl rfl (bagJ hD)) (d _ (hD.app _)) (.inl rfl) (fun hb=>znB (hD.app _) hb) ?_|refine zIl rfl (zfrJ rfl rfl (bagJ hD)) (d2 _ (hD.app _)) (.inl rfl) (fun hb=>znB (hD.app _) hb) ?_)
   |refine zif (id:=18) zlj mixed [] 0 Tryz.f36.ntmps (by first|(simp;done)|(simp;omega)) rfl (by kernel_rfl) (by decide) ?_
   |refine zJ9 ?_ zlj Tryz.f36.ntmps rfl (by decide)
   |skip)<;>simp only[↓zaL,WY,yA,yB,yD,reduceCtorEq,W1,W1P,WS,yK,zlk,znk,exB,zmQ,sxdP hD,znE,yN,yO,YAO,b2,b3,b4,b5,b6,b7,b8]
  all_goals first|rfl|exact⟨rfl,rfl⟩|(simp only[zXs,zQK,hD.h1,hD.h2,decide_true,Bool.and_true];done)|trace_state
theorem zmn{lim lv:Int}(hl:¬lv<0){q:Pt}(hk:q.kind=9)(hlk:q.kids.length=2)(hok:∀x∈q.kids,okA x=true)(ih:∀x∈q.kids,okA x=true->PatJ lim lv x):PatJ lim lv q:=by
 intro F s r c a b p y hD n x res hg hlim hn h
 rw[zSA (by omega),if_neg (by omega),if_neg (by omega),if_neg (by omega),if_pos (by omega)]at h
 obtain⟨ho,h⟩:=h
 have b2:(q.kind==2)=((9:Int)==2):=by rw[hk]
 have b3:(q.kind==3)=((9:Int)==3):=by rw[hk]
 have b4:(q.kind==4)=((9:Int)==4):=by rw[hk]
 have b5:(q.kind==5)=((9:Int)==5):=by rw[hk]
 have b6:(q.kind==6)=((9:Int)==6):=by rw[hk]
 have b7:(q.kind==7)=((9:Int)==7):=by rw[hk]
 have b8:(q.kind==8)=((9:Int)==8):=by rw[hk]
 have b9:(q.kind==9)=((9:Int)==9):=by rw[hk]
 obtain⟨p0,p1,hks⟩:∃p0 p1,q.kids=[p0,p1]:=by
  match q.kids,hlk with
  | [p0,p1],_=>exact⟨p0,p1,rfl⟩
 have k0:q.kid 0=p0:=by rw[Pt.kid,hks];rfl
 have k1:q.kid 1=p1:=by rw[Pt.kid,hks];rfl
 have m0:p0∈q.kids:=by rw[hks];simp
 have m1:p1∈q.kids:=by rw[hks];simp
 have hkm:q.kids.map embP=[embP p0,embP p1]:=by rw[hks];rfl
 have c0:((0:Int)<(2:Nat))=True:=by simp
 have c1:((1:Int)<(2:Nat))=True:=by simp
 rw[k0,k1]at h
 obtain⟨nm1,nd1⟩:=zmX lim lv x
 have hc1:=zmW (lv:=lv) hlim
 by_cases h0:(zN8 lim lv x).1=0
 ·rw[if_neg (by simpa using h0)]at h
  obtain⟨e,x2,hA,h⟩:=h
  have mg:=zN9 (lim:=lim) hg hl
  have ml:=mg.2.2 h0
  have hmk:(zN8 lim lv x).2.σ.L.st.kids (x.len+1)=[x.len]:=by
   have e:(zN8 lim lv x).2=(x.var lv).mk' 8 [x.len]:=by
    unfold zN8 at h0⊢
    split at h0
    ·cases h0
    split at h0
    ·cases h0
    rename_i a b
    rw[if_neg a,if_neg b]
   rw[e]
   have e2:((x.var lv).mk' 8 [x.len]).σ.L.st=(x.var lv).σ.L.st++ [⟨8,0,none,[x.len]⟩]:=(x.var lv).σ.zPf 8 [x.len]
   have l1:(x.var lv).σ.L.st.length=x.len+1:=by rw[IS.zNB,IS.zaS]
   rw[e2,St.kids,<-l1,St.zPw]
  have ag:=zBz mg.1 (by omega) (by omega) hA
  have kk:=zlr mg.1 (by omega) (by omega) hA
  have d:=fun(F:List AObj) (hD:SxdD F s r c a b p)=>zmV (y:=y) hD hl ho hlim h0
  have d2:=fun(F:List AObj) (hD:SxdD F s r c a b p)=>(zlt (y:=y) hD mg.1 hc1 (n:=n) (m:=x.len+1) (by show n<(zN8 lim lv x).2.len;omega) (by show x.len+1<(zN8 lim lv x).2.len;omega) hA).1
  have hc:=(zlt (y:=y) hD mg.1 hc1 (n:=n) (m:=x.len+1) (by show n<(zN8 lim lv x).2.len;omega) (by show x.len+1<(zN8 lim lv x).2.len;omega) hA).2
  obtain⟨nm,nd⟩:=zls hA
  simp only at nm nd d2 ag kk hc
  have hkA:kA (x2.σ.L.st.nd (x.len+1))=x.len:=by
   have:=kk.2 (x.len+1) (by show x.len+1<(zN8 lim lv x).2.len;omega)
   rw[hmk]at this
   show(x2.σ.L.st.kids (x.len+1)).headD 0=x.len
   rw[this];rfl
  have hlt:x.len+1<x2.σ.L.st.length:=by rw[IS.zNB];omega
  have hgt:=zez hlt
  by_cases he:e=0
  ·subst he
   rw[if_neg (by omega)]at h
   obtain⟨e3,x3,h3,h4⟩:=h
   have p3:= @ih _ m0 (hok _ m0) F s r c a b p y hD x.len x2 (e3,x3) ag.1 hc (by omega) h3
   have d3:=fun(F:List AObj) (hD:SxdD F s r c a b p)=>(@ih _ m0 (hok _ m0) _ s r c a b p y hD x.len x2 (e3,x3) ag.1 hc (by omega) h3).1
   have ag3:=zSB hl p0 (hok _ m0) _ _ _ ag.1 (by omega) h3
   simp only at p3 d3 ag3
   by_cases he3:e3=0
   ·subst he3
    rw[if_neg (by simp)]at h4
    obtain⟨e4,x4⟩:=res
    have p4:= @ih _ m1 (hok _ m1) F s r c a b p y hD (x.len+1) x3 (e4,x4) ag3.1 p3.2 (by omega) h4
    have d4:=fun(F:List AObj) (hD:SxdD F s r c a b p)=>(@ih _ m1 (hok _ m1) _ s r c a b p y hD (x.len+1) x3 (e4,x4) ag3.1 p3.2 (by omega) h4).1
    refine⟨?_,p4.2⟩
    simp only at d4⊢
    clear p3 p4 h3 h4 ih
    generalize zN8 lim lv x=z at*
    obtain⟨e1,x1⟩:=z
    simp only at nm1 nd1 d d2 nm nd
    unfold zAd
    unfold hJ bxJ arT arI bxR arR at*
    simp only[nm,nd,nm1,nd1]at d d2 d3⊢
    refine eO zlc Tryz.func36 Tryz.results36 fun ok=> ?_
    repeat' (first
     |(first|refine zIl rfl trivial (d3 _ (by first|exact hD|exact hD.app _)) (.inl rfl) (fun hb=>znB (by first|exact hD|exact hD.app _) hb) ?_|refine zIA (d4 _ (by first|exact hD|exact hD.app _)) (.inl rfl) (fun hb=>znB (by first|exact hD|exact hD.app _) hb) ?_|((first|apply bG|apply bH);simp only[yP,yQ];first|refine zIA (d _ (by first|exact hD|exact hD.app _)) (.inl rfl) (fun hb=>znB (by first|exact hD|exact hD.app _) hb) ?_|refine zIA (d2 _ (by first|exact hD|exact hD.app _)) (.inl rfl) (fun hb=>znB (by first|exact hD|exact hD.app _) hb) ?_))
     |refine drA zlc 24 0 ?_
     |refine zJ9 ?_ zlc Tryz.f36.ntmps rfl (by decide)
     |skip)<;>simp only[↓zaL,WY,yA,yB,yC,yD,reduceCtorEq,W1,W1P,WS,W3,yI,yK,yM,zle,sxdP hD,znE,yN,yO,YAO,b2,b3,b4,b5,b6,b7,b8,b9,hkm,hlt,hgt,hkA,zeI]
    all_goals first|rfl|exact⟨rfl,rfl⟩|(simp only[zXs,zQK,hD.h1,hD.h2,decide_true,Bool.and_true];done)|trace_state
   ·rw[if_pos he3]at h4
    subst h4
    have e31:(e3 !=0)=true:=by simpa using he3
    have d4:=fun(F:List AObj) (hD:SxdD F s r c a b p)=>zms (lim:=lim) (y:=y) hD p1 ((x.len+1:Nat):Int) lv x3 e31
    refine⟨?_,p3.2⟩
    simp only at d4⊢
    clear p3 h3 ih
    generalize zN8 lim lv x=z at*
    obtain⟨e1,x1⟩:=z
    simp only at nm1 nd1 d d2 nm nd
    unfold zAd
    unfold hJ bxJ arT arI bxR arR at*
    simp only[nm,nd,nm1,nd1]at d d2 d3⊢
    refine eO zlc Tryz.func36 Tryz.results36 fun ok=> ?_
    have h:=YAN
    repeat' (first
     |(first|refine zIl rfl trivial (d3 _ (by first|exact hD|exact hD.app _)) (.inl rfl) (fun hb=>znB (by first|exact hD|exact hD.app _) hb) ?_|refine zIA (d4 _ (by first|exact hD|exact hD.app _)) (.inl rfl) (fun hb=>znB (by first|exact hD|exact hD.app _) hb) ?_|((first|apply bG|apply bH);simp only[yP,yQ];first|refine zIA (d _ (by first|exact hD|exact hD.app _)) (.inl rfl) (fun hb=>znB (by first|exact hD|exact hD.app _) hb) ?_|refine zIA (d2 _ (by first|exact hD|exact hD.app _)) (.inl rfl) (fun hb=>znB (by first|exact hD|exact hD.app _) hb) ?_))
     |refine drA zlc 24 0 ?_
     |refine zJ9 ?_ zlc Tryz.f36.ntmps rfl (by decide)
     |skip)<;>simp only[↓zaL,WY,yA,yB,yC,yD,reduceCtorEq,W1,W1P,WS,W3,yI,yK,yM,zle,sxdP hD,znE,yN,yO,YAO,b2,b3,b4,b5,b6,b7,b8,b9,hkm,hlt,hgt,hkA,zeI]
    all_goals first|rfl|exact⟨rfl,rfl⟩|(simp only[zXs,zQK,hD.h1,hD.h2,decide_true,Bool.and_true];done)|trace_state
  ·rw[if_pos (.inl he)]at h
   subst h
   have e81:(e !=0)=true:=by simpa using he
   refine⟨?_,hc⟩
   simp only at d2⊢
   rw[nm,nd,nm1,nd1]
   clear ih
   generalize zN8 lim lv x=z at*
   obtain⟨e1,x1⟩:=z
   simp only at nm1 nd1 d d2 nm nd
   unfold zAd
   unfold hJ bxJ arT arI at*
   simp only[nm,nd,nm1,nd1]at d d2⊢
   refine eO zlc Tryz.func36 Tryz.results36 fun ok=> ?_
   have h:=YAN
   repeat' (first
    |((first|apply bG|apply bH);simp only[yP,yQ];first|refine zIA (d _ (by first|exact hD|exact hD.app _)) (.inl rfl) (fun hb=>znB (by first|exact hD|exact hD.app _) hb) ?_|refine zIA (d2 _ (by first|exact hD|exact hD.app _)) (.inl rfl) (fun hb=>znB (by first|exact hD|exact hD.app _) hb) ?_)
    |refine zJ9 ?_ zlc Tryz.f36.ntmps rfl (by decide)
    |skip)<;>simp only[↓zaL,WY,yA,yB,yD,reduceCtorEq,W1,W1P,WS,yK,zle,sxdP hD,znE,yN,yO,YAO,b2,b3,b4,b5,b6,b7,b8,b9,hkm,e81]
   all_goals first|rfl|exact⟨rfl,rfl⟩|(simp only[zXs,zQK,hD.h1,hD.h2,decide_true,Bool.and_true];done)|trace_state
 ·rw[if_pos h0]at h
  subst h
  have d:=fun(F:List AObj) (hD:SxdD F s r c a b p)=>(zmU (y:=y) hD hl ho hlim h0).1
  have e7:=(zmU (y:=y) hD hl ho hlim h0).2
  have d2:=fun(F:List AObj) (hD:SxdD F s r c a b p)=>zlu (lim:=lim) (y:=y) hD (zN8 lim lv x).2 (e:=7) rfl n 0 q.fr q.to_
  have e71:((7:Int) !=0)=true:=rfl
  refine⟨?_,hc1⟩
  rw[e7,nm1,nd1]
  clear ih
  generalize zN8 lim lv x=z at*
  obtain⟨e1,x1⟩:=z
  simp only at*
  unfold zAd
  unfold hJ bxJ arT arI at*
  simp only[nm1,nd1]at d d2⊢
  refine eO zlc Tryz.func36 Tryz.results36 fun ok=> ?_
  repeat' (first
   |((first|apply bG|apply bH);simp only[yP,yQ];first|refine zIA (d _ (by first|exact hD|exact hD.app _)) (.inl rfl) (fun hb=>znB (by first|exact hD|exact hD.app _) hb) ?_|refine zIA (d2 _ (by first|exact hD|exact hD.app _)) (.inl rfl) (fun hb=>znB (by first|exact hD|exact hD.app _) hb) ?_)
   |refine zJ9 ?_ zlc Tryz.f36.ntmps rfl (by decide)
   |skip)<;>simp only[↓zaL,WY,yA,yB,yD,reduceCtorEq,W1,W1P,WS,yK,zle,sxdP hD,znE,yN,yO,YAO,b2,b3,b4,b5,b6,b7,b8,b9,hkm,e71]
  all_goals first|rfl|exact⟨rfl,rfl⟩|(simp only[zXs,zQK,hD.h1,hD.h2,decide_true,Bool.and_true];done)|trace_state
theorem zmr{lim lv:Int}(hl:¬lv<0){q:Pt}(hk:q.kind=7)(hlk:q.kids.length=2)(hok:∀x∈q.kids,okA x=true)(ih:∀x∈q.kids,okA x=true->PatJ lim lv x):PatJ lim lv q:=by
 intro F s r c a b p y hD n x res hg hlim hn h
 rw[zSA (by omega),if_neg (by omega),if_neg (by omega),if_pos (by omega)]at h
 obtain⟨ho,h⟩:=h
 obtain⟨o1,o2,o3,o4,o5⟩:=ho
 have b2:(q.kind==2)=((7:Int)==2):=by rw[hk]
 have b3:(q.kind==3)=((7:Int)==3):=by rw[hk]
 have b4:(q.kind==4)=((7:Int)==4):=by rw[hk]
 have b5:(q.kind==5)=((7:Int)==5):=by rw[hk]
 have b6:(q.kind==6)=((7:Int)==6):=by rw[hk]
 have b7:(q.kind==7)=((7:Int)==7):=by rw[hk]
 have b8:(q.kind==8)=((7:Int)==8):=by rw[hk]
 have b9:(q.kind==9)=((7:Int)==9):=by rw[hk]
 obtain⟨p0,p1,hks⟩:∃p0 p1,q.kids=[p0,p1]:=by
  match q.kids,hlk with
  | [p0,p1],_=>exact⟨p0,p1,rfl⟩
 have k0:q.kid 0=p0:=by rw[Pt.kid,hks];rfl
 have k1:q.kid 1=p1:=by rw[Pt.kid,hks];rfl
 have m0:p0∈q.kids:=by rw[hks];simp
 have m1:p1∈q.kids:=by rw[hks];simp
 have hkm:q.kids.map embP=[embP p0,embP p1]:=by rw[hks];rfl
 have c0:((0:Int)<(2:Nat))=True:=by simp
 have c1:((1:Int)<(2:Nat))=True:=by simp
 rw[k0,k1]at h
 have hll:x.len=x.σ.L.length:=rfl
 unfold zOD at h
 by_cases h1:x.σ.cnt=lim
 ·rw[if_pos h1]at h
  simp only[ne_eq,Int.reduceEq,not_false_eq_true,if_true]at h
  subst h
  have d:=fun(F:List AObj) (hD:SxdD F s r c a b p)=>zmA (lim:=lim) (y:=y) hD x hl h1
  have d2:=fun(F:List AObj) (hD:SxdD F s r c a b p)=>zmB (lim:=lim) (lv:=lv) (y:=y) hD x (e:=7) rfl
  have d3:=fun(F:List AObj) (hD:SxdD F s r c a b p)=>zmc (lim:=lim) (y:=y) hD x (e:=7) rfl 7 0 0
  have d4:=fun(F:List AObj) (hD:SxdD F s r c a b p)=>zlu (lim:=lim) (y:=y) hD x (e:=7) rfl n 0 q.fr q.to_
  have d5:=fun(F:List AObj) (hD:SxdD F s r c a b p)=>zms (lim:=lim) (y:=y) hD p0 0 lv x (e:=7) rfl
  have d6:=fun(F:List AObj) (hD:SxdD F s r c a b p)=>zms (lim:=lim) (y:=y) hD p1 0 lv x (e:=7) rfl
  refine⟨?_,hlim⟩
  clear ih
  unfold zAd
  unfold hJ bxJ arT arI at*
  refine eO zlc Tryz.func36 Tryz.results36 fun ok=> ?_
  have h:=YAN
  repeat' (first
   |(first|refine zIA (d5 _ (by first|exact hD|exact hD.app _)) (.inl rfl) (fun hb=>znB (by first|exact hD|exact hD.app _) hb) ?_|refine zIA (d6 _ (by first|exact hD|exact hD.app _)) (.inl rfl) (fun hb=>znB (by first|exact hD|exact hD.app _) hb) ?_|((first|apply bG|apply bH);simp only[yP,yQ];first|refine zIA (d _ (by first|exact hD|exact hD.app _)) (.inl rfl) (fun hb=>znB (by first|exact hD|exact hD.app _) hb) ?_|refine zIA (d2 _ (by first|exact hD|exact hD.app _)) (.inl rfl) (fun hb=>znB (by first|exact hD|exact hD.app _) hb) ?_|refine zIA (d3 _ (by first|exact hD|exact hD.app _)) (.inl rfl) (fun hb=>znB (by first|exact hD|exact hD.app _) hb) ?_|refine zIA (d4 _ (by first|exact hD|exact hD.app _)) (.inl rfl) (fun hb=>znB (by first|exact hD|exact hD.app _) hb) ?_))
   |refine zJ9 ?_ zlc Tryz.f36.ntmps rfl (by decide)
   |skip)<;>simp only[↓zaL,WY,yA,yB,yD,reduceCtorEq,W1,W1P,WS,W3,yI,yK,yM,zle,sxdP hD,znE,yN,yO,YAO,b2,b3,b4,b5,b6,b7,hkm]
  all_goals first|rfl|exact⟨rfl,rfl⟩|(simp only[zXs,zQK,hD.h1,hD.h2,decide_true,Bool.and_true];done)|trace_state
 rw[if_neg h1]at h
 have f1:=fun(F:List AObj) (hD:SxdD F s r c a b p)=>zl9 (lim:=lim) (y:=y) hD x hl (by omega) (by omega) (by omega)
 by_cases h2:x.σ.cnt+1=lim
 ·rw[if_pos h2]at h
  simp only[ne_eq,Int.reduceEq,not_false_eq_true,if_true]at h
  subst h
  have d2:=fun(F:List AObj) (hD:SxdD F s r c a b p)=>zmA (lim:=lim) (y:=y) hD (x.var lv) hl h2
  have d3:=fun(F:List AObj) (hD:SxdD F s r c a b p)=>zmc (lim:=lim) (y:=y) hD (x.var lv) (e:=7) rfl 7 (x.len:Nat) 0
  have d4:=fun(F:List AObj) (hD:SxdD F s r c a b p)=>zlu (lim:=lim) (y:=y) hD (x.var lv) (e:=7) rfl n 0 q.fr q.to_
  have d5:=fun(F:List AObj) (hD:SxdD F s r c a b p)=>zms (lim:=lim) (y:=y) hD p0 (x.len:Nat) lv (x.var lv) (e:=7) rfl
  have d6:=fun(F:List AObj) (hD:SxdD F s r c a b p)=>zms (lim:=lim) (y:=y) hD p1 0 lv (x.var lv) (e:=7) rfl
  refine⟨?_,by show x.σ.cnt+1<=lim;omega⟩
  clear ih
  unfold zAd
  unfold hJ bxJ arT arI at*
  refine eO zlc Tryz.func36 Tryz.results36 fun ok=> ?_
  have h:=YAN
  repeat' (first
   |(first|refine zIA (d5 _ (by first|exact hD|exact hD.app _)) (.inl rfl) (fun hb=>znB (by first|exact hD|exact hD.app _) hb) ?_|refine zIA (d6 _ (by first|exact hD|exact hD.app _)) (.inl rfl) (fun hb=>znB (by first|exact hD|exact hD.app _) hb) ?_|((first|apply bG|apply bH);simp only[yP,yQ];first|refine zIA (f1 _ (by first|exact hD|exact hD.app _)) (.inl rfl) (fun hb=>znB (by first|exact hD|exact hD.app _) hb) ?_|refine zIA (d2 _ (by first|exact hD|exact hD.app _)) (.inl rfl) (fun hb=>znB (by first|exact hD|exact hD.app _) hb) ?_|refine zIA (d3 _ (by first|exact hD|exact hD.app _)) (.inl rfl) (fun hb=>znB (by first|exact hD|exact hD.app _) hb) ?_|refine zIA (d4 _ (by first|exact hD|exact hD.app _)) (.inl rfl) (fun hb=>znB (by first|exact hD|exact hD.app _) hb) ?_))
   |refine zJ9 ?_ zlc Tryz.f36.ntmps rfl (by decide)
   |skip)<;>simp only[↓zaL,WY,yA,yB,yD,reduceCtorEq,W1,W1P,WS,W3,yI,yK,yM,zle,sxdP hD,znE,yN,yO,YAO,b2,b3,b4,b5,b6,b7,hkm]
  all_goals first|rfl|exact⟨rfl,rfl⟩|(simp only[zXs,zQK,hD.h1,hD.h2,decide_true,Bool.and_true];done)|trace_state
 rw[if_neg h2]at h
 have f2:=fun(F:List AObj) (hD:SxdD F s r c a b p)=>zl9 (lim:=lim) (y:=y) hD (x.var lv) hl (by show x.σ.cnt+1<lim;omega) (by show(x.σ.L++_).length<=_;simp;omega) (by show 0<=x.σ.cnt+1/\x.σ.cnt+1<=_;omega)
 simp only[IS.zaS]at f2
 by_cases h3:x.σ.cnt+2=lim
 ·rw[if_pos h3]at h
  simp only[ne_eq,Int.reduceEq,not_false_eq_true,if_true]at h
  subst h
  have d3:=fun(F:List AObj) (hD:SxdD F s r c a b p)=>zmb (lim:=lim) (y:=y) hD ((x.var lv).var lv) x.len (x.len+1) (by rw[IS.zaS,IS.zaS];omega) (by rw[IS.zaS,IS.zaS];omega) (by show x.σ.cnt+1+1=lim;omega)
  have d4:=fun(F:List AObj) (hD:SxdD F s r c a b p)=>zlu (lim:=lim) (y:=y) hD ((x.var lv).var lv) (e:=7) rfl n 0 q.fr q.to_
  have d5:=fun(F:List AObj) (hD:SxdD F s r c a b p)=>zms (lim:=lim) (y:=y) hD p0 (x.len:Nat) lv ((x.var lv).var lv) (e:=7) rfl
  have d6:=fun(F:List AObj) (hD:SxdD F s r c a b p)=>zms (lim:=lim) (y:=y) hD p1 ((x.len+1:Nat):Int) lv ((x.var lv).var lv) (e:=7) rfl
  refine⟨?_,by show x.σ.cnt+1+1<=lim;omega⟩
  clear ih
  unfold zAd
  unfold hJ bxJ arT arI at*
  refine eO zlc Tryz.func36 Tryz.results36 fun ok=> ?_
  have h:=YAN
  repeat' (first
   |(first|refine zIA (d5 _ (by first|exact hD|exact hD.app _)) (.inl rfl) (fun hb=>znB (by first|exact hD|exact hD.app _) hb) ?_|refine zIA (d6 _ (by first|exact hD|exact hD.app _)) (.inl rfl) (fun hb=>znB (by first|exact hD|exact hD.app _) hb) ?_|((first|apply bG|apply bH);simp only[yP,yQ];first|refine zIA (f1 _ (by first|exact hD|exact hD.app _)) (.inl rfl) (fun hb=>znB (by first|exact hD|exact hD.app _) hb) ?_|refine zIA (f2 _ (by first|exact hD|exact hD.app _)) (.inl rfl) (fun hb=>znB (by first|exact hD|exact hD.app _) hb) ?_|refine zIA (d3 _ (by first|exact hD|exact hD.app _)) (.inl rfl) (fun hb=>znB (by first|exact hD|exact hD.app _) hb) ?_|refine zIA (d4 _ (by first|exact hD|exact hD.app _)) (.inl rfl) (fun hb=>znB (by first|exact hD|exact hD.app _) hb) ?_))
   |refine zJ9 ?_ zlc Tryz.f36.ntmps rfl (by decide)
   |skip)<;>simp only[↓zaL,WY,yA,yB,yD,reduceCtorEq,W1,W1P,WS,W3,yI,yK,yM,zle,sxdP hD,znE,yN,yO,YAO,b2,b3,b4,b5,b6,b7,hkm]
  all_goals first|rfl|exact⟨rfl,rfl⟩|(simp only[zXs,zQK,hD.h1,hD.h2,decide_true,Bool.and_true];done)|trace_state
 rw[if_neg h3]at h
 simp only[ne_eq,not_true_eq_false,if_false]at h
 obtain⟨e,x2,hA,h⟩:=h
 have f3:=fun(F:List AObj) (hD:SxdD F s r c a b p)=>zma (lim:=lim) (y:=y) hD ((x.var lv).var lv) x.len (x.len+1) (by rw[IS.zaS,IS.zaS];omega) (by rw[IS.zaS,IS.zaS];omega) (by show x.σ.cnt+1+1<lim;omega) (by show((x.σ.L++_)++_).length<=_;simp;omega) (by show 0<=x.σ.cnt+1+1/\x.σ.cnt+1+1<=_;omega)
 simp only[IS.zaS]at f3
 have hgv:GoodS (((x.var lv).var lv).mk' 7 [x.len,x.len+1]).σ:=((hg.var (by omega)).var (by omega)).mk' (.inl ⟨.inl rfl,rfl⟩) (by
  intro z hz
  show z<((x.σ.L++_)++_).length
  simp only[List.mem_cons,List.not_mem_nil,or_false]at hz
  rcases hz with rfl|rfl<;>simp[IS.len]<;>omega)
 have hlv:(((x.var lv).var lv).mk' 7 [x.len,x.len+1]).len=x.len+3:=by rw[IS.zPc,IS.zaS,IS.zaS]
 have hcv:(((x.var lv).var lv).mk' 7 [x.len,x.len+1]).σ.cnt<=lim:=by show x.σ.cnt+1+1+1<=lim;omega
 have ag:=zBz hgv (by omega) (by omega) hA
 have d:=fun(F:List AObj) (hD:SxdD F s r c a b p)=>(zlt (y:=y) hD hgv hcv (n:=n) (m:=x.len+2) (by show n<(((x.var lv).var lv).mk' 7 [x.len,x.len+1]).len;omega) (by show x.len+2<(((x.var lv).var lv).mk' 7 [x.len,x.len+1]).len;omega) hA).1
 have hc:=(zlt (y:=y) hD hgv hcv (n:=n) (m:=x.len+2) (by show n<(((x.var lv).var lv).mk' 7 [x.len,x.len+1]).len;omega) (by show x.len+2<(((x.var lv).var lv).mk' 7 [x.len,x.len+1]).len;omega) hA).2
 obtain⟨nm,nd⟩:=zls hA
 simp only at nm nd d ag hc
 have nm':x2.nm=x.nm:=nm
 have nd':x2.nd=x.nd:=nd
 by_cases he:e=0
 ·subst he
  rw[if_neg (by omega)]at h
  obtain⟨e3,x3,g3,g4⟩:=h
  have p3:= @ih _ m0 (hok _ m0) F s r c a b p y hD x.len x2 (e3,x3) ag.1 hc (by omega) g3
  have d3:=fun(F:List AObj) (hD:SxdD F s r c a b p)=>(@ih _ m0 (hok _ m0) _ s r c a b p y hD x.len x2 (e3,x3) ag.1 hc (by omega) g3).1
  have ag3:=zSB hl p0 (hok _ m0) _ _ _ ag.1 (by omega) g3
  simp only at p3 d3 ag3
  by_cases he3:e3=0
  ·subst he3
   rw[if_neg (by simp)]at g4
   obtain⟨e4,x4⟩:=res
   have p4:= @ih _ m1 (hok _ m1) F s r c a b p y hD (x.len+1) x3 (e4,x4) ag3.1 p3.2 (by omega) g4
   have d4:=fun(F:List AObj) (hD:SxdD F s r c a b p)=>(@ih _ m1 (hok _ m1) _ s r c a b p y hD (x.len+1) x3 (e4,x4) ag3.1 p3.2 (by omega) g4).1
   refine⟨?_,p4.2⟩
   simp only at d4⊢
   clear p3 p4 g3 g4 ih
   unfold zAd
   unfold hJ bxJ arT arI at*
   simp only[nm',nd']at d d3⊢
   refine eO zlc Tryz.func36 Tryz.results36 fun ok=> ?_
   repeat' (first
    |(first|refine zIA (d3 _ (by first|exact hD|exact hD.app _)) (.inl rfl) (fun hb=>znB (by first|exact hD|exact hD.app _) hb) ?_|refine zIA (d4 _ (by first|exact hD|exact hD.app _)) (.inl rfl) (fun hb=>znB (by first|exact hD|exact hD.app _) hb) ?_|((first|apply bG|apply bH);simp only[yP,yQ];first|refine zIA (f1 _ (by first|exact hD|exact hD.app _)) (.inl rfl) (fun hb=>znB (by first|exact hD|exact hD.app _) hb) ?_|refine zIA (f2 _ (by first|exact hD|exact hD.app _)) (.inl rfl) (fun hb=>znB (by first|exact hD|exact hD.app _) hb) ?_|refine zIA (f3 _ (by first|exact hD|exact hD.app _)) (.inl rfl) (fun hb=>znB (by first|exact hD|exact hD.app _) hb) ?_|refine zIA (d _ (by first|exact hD|exact hD.app _)) (.inl rfl) (fun hb=>znB (by first|exact hD|exact hD.app _) hb) ?_))
    |refine zJ9 ?_ zlc Tryz.f36.ntmps rfl (by decide)
    |skip)<;>simp only[↓zaL,WY,yA,yB,yD,reduceCtorEq,W1,W1P,WS,W3,yI,yK,yM,zle,sxdP hD,znE,yN,yO,YAO,b2,b3,b4,b5,b6,b7,hkm]
   all_goals first|rfl|exact⟨rfl,rfl⟩|(simp only[zXs,zQK,hD.h1,hD.h2,decide_true,Bool.and_true];done)|trace_state
  ·rw[if_pos he3]at g4
   subst g4
   have e31:(e3 !=0)=true:=by simpa using he3
   have d4:=fun(F:List AObj) (hD:SxdD F s r c a b p)=>zms (lim:=lim) (y:=y) hD p1 ((x.len+1:Nat):Int) lv x3 e31
   refine⟨?_,p3.2⟩
   simp only at d4⊢
   clear p3 g3 ih
   unfold zAd
   unfold hJ bxJ arT arI at*
   simp only[nm',nd']at d d3⊢
   refine eO zlc Tryz.func36 Tryz.results36 fun ok=> ?_
   have h:=YAN
   repeat' (first
    |(first|refine zIA (d3 _ (by first|exact hD|exact hD.app _)) (.inl rfl) (fun hb=>znB (by first|exact hD|exact hD.app _) hb) ?_|refine zIA (d4 _ (by first|exact hD|exact hD.app _)) (.inl rfl) (fun hb=>znB (by first|exact hD|exact hD.app _) hb) ?_|((first|apply bG|apply bH);simp only[yP,yQ];first|refine zIA (f1 _ (by first|exact hD|exact hD.app _)) (.inl rfl) (fun hb=>znB (by first|exact hD|exact hD.app _) hb) ?_|refine zIA (f2 _ (by first|exact hD|exact hD.app _)) (.inl rfl) (fun hb=>znB (by first|exact hD|exact hD.app _) hb) ?_|refine zIA (f3 _ (by first|exact hD|exact hD.app _)) (.inl rfl) (fun hb=>znB (by first|exact hD|exact hD.app _) hb) ?_|refine zIA (d _ (by first|exact hD|exact hD.app _)) (.inl rfl) (fun hb=>znB (by first|exact hD|exact hD.app _) hb) ?_))
    |refine zJ9 ?_ zlc Tryz.f36.ntmps rfl (by decide)
    |skip)<;>simp only[↓zaL,WY,yA,yB,yD,reduceCtorEq,W1,W1P,WS,W3,yI,yK,yM,zle,sxdP hD,znE,yN,yO,YAO,b2,b3,b4,b5,b6,b7,hkm]
   all_goals first|rfl|exact⟨rfl,rfl⟩|(simp only[zXs,zQK,hD.h1,hD.h2,decide_true,Bool.and_true];done)|trace_state
 ·rw[if_pos he]at h
  subst h
  have e31:(e !=0)=true:=by simpa using he
  have d3:=fun(F:List AObj) (hD:SxdD F s r c a b p)=>zms (lim:=lim) (y:=y) hD p0 (x.len:Nat) lv x2 e31
  have d4:=fun(F:List AObj) (hD:SxdD F s r c a b p)=>zms (lim:=lim) (y:=y) hD p1 ((x.len+1:Nat):Int) lv x2 e31
  refine⟨?_,hc⟩
  simp only at d3 d4⊢
  clear ih
  unfold zAd
  unfold hJ bxJ arT arI at*
  simp only[nm',nd']at d d3 d4⊢
  refine eO zlc Tryz.func36 Tryz.results36 fun ok=> ?_
  repeat' (first
   |(first|refine zIA (d3 _ (by first|exact hD|exact hD.app _)) (.inl rfl) (fun hb=>znB (by first|exact hD|exact hD.app _) hb) ?_|refine zIA (d4 _ (by first|exact hD|exact hD.app _)) (.inl rfl) (fun hb=>znB (by first|exact hD|exact hD.app _) hb) ?_|((first|apply bG|apply bH);simp only[yP,yQ];first|refine zIA (f1 _ (by first|exact hD|exact hD.app _)) (.inl rfl) (fun hb=>znB (by first|exact hD|exact hD.app _) hb) ?_|refine zIA (f2 _ (by first|exact hD|exact hD.app _)) (.inl rfl) (fun hb=>znB (by first|exact hD|exact hD.app _) hb) ?_|refine zIA (f3 _ (by first|exact hD|exact hD.app _)) (.inl rfl) (fun hb=>znB (by first|exact hD|exact hD.app _) hb) ?_|refine zIA (d _ (by first|exact hD|exact hD.app _)) (.inl rfl) (fun hb=>znB (by first|exact hD|exact hD.app _) hb) ?_))
   |refine zJ9 ?_ zlc Tryz.f36.ntmps rfl (by decide)
   |skip)<;>simp only[↓zaL,WY,yA,yB,yD,reduceCtorEq,W1,W1P,WS,W3,yI,yK,yM,zle,sxdP hD,znE,yN,yO,YAO,b2,b3,b4,b5,b6,b7,hkm]
  all_goals first|rfl|exact⟨rfl,rfl⟩|(simp only[zXs,zQK,hD.h1,hD.h2,decide_true,Bool.and_true];done)|trace_state
theorem zml{lim lv:Int}(hl:¬lv<0):∀q:Pt,okA q=true->PatJ lim lv q:=
 Pt.ind (p:=fun q=>okA q=true->PatJ lim lv q) fun q ih hok=>by
  obtain⟨hk,ho⟩:=zRH hok
  have hkd:=zRN hk
  have hlk:=zRP hk
  have:q.kind=1\/q.kind=2\/(3<=q.kind/\q.kind<=6)\/q.kind=7\/q.kind=8\/q.kind=9:=by omega
  rcases this with h|h|h|h|h|h
  ·exact zmm h
  ·exact zmp h
  ·exact zmo h
  ·exact @zmr lim lv hl q h (hlk (.inl h)) ho ih
  ·exact zmq hl h
  ·exact @zmn lim lv hl q h (hlk (.inr h)) ho ih
end Go.Proofs.YtdngjamjccjlmaaGreat
