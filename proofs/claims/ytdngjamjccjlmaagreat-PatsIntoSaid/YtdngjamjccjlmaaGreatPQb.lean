/- Lemmas: a pattern goes into a store, first part. No condition. -/
import Derived.Test.YtdngjamjccjlmaaGreatPQa
import Derived.Test.YtdngjamjccjlmaaGreatPNb
import Derived.Test.YtdngjamjccjlmaaGreatPAe
import Derived.Test.YtdngjamjccjlmaaGreatPAc
import Derived.Test.YtdngjamjccjlmaaGreatPBe
set_option linter.unusedSimpArgs false
set_option linter.unusedVariables false
set_option linter.defProp false
set_option maxHeartbeats 4000000
set_option maxRecDepth 100000
namespace Go.Proofs.YtdngjamjccjlmaaGreat
open Go Go.Ab
open AV renaming belL -> yO, bel -> yN, normL -> yQ, norm -> yP
open AObj renaming bel -> yR
open Nat renaming reduceEqDiff -> yA, reduceAdd -> yB, reduceLT -> yC, reduceLeDiff -> yD, reduceMul -> yE, reducePow -> yF
open Int renaming reduceAdd -> yH, reduceLT -> yI, reduceLE -> yM
attribute [local irreducible] zA0 zAA zAa zAi zAj GoIf GoGb zAk GoO GoD GoX GoDX GoG GoDG GoGv zAl Go zAB
section
structure IS where
 σ:Sto
 nm:List ByteArray
 nd:List Nat
 bf:Int
 bt:Int
 bw:Int
 bl:Int
 br:Int
def IS.len(x:IS):Nat:=x.σ.L.length
def IS.var(x:IS)(lv:Int):IS:= {x with σ:=x.σ.var lv}
def IS.mk'(x:IS)(k:Int)(ks:List Nat):IS:= {x with σ:=x.σ.mk' k ks}
def okI(x:IS):Prop:=x.σ.L.length<=600000/\0<=x.σ.cnt/\x.σ.cnt<=600000/\x.nm.length<=600000/\x.nd.length<=600000
def AgR(lim:Int)(q:Pt)(n m:Nat)(x:IS)(res:Int×IS):Prop:=
 ∃M l r e σ',RunB lim M [(n,m)] x.σ (l,r,e,σ')/\res=(e,if e=0\/e=7 then {x with σ:=σ'}else⟨σ',x.nm,x.nd,q.fr,q.to_,e,l,r⟩)
def zN8(lim lv:Int)(x:IS):Int×IS:=
 if x.σ.cnt=lim then(7,x)else if x.σ.cnt+1=lim then(7,x.var lv)else(0,(x.var lv).mk' 8 [x.len])
def zOD(lim lv:Int)(x:IS):Int×IS:=
 if x.σ.cnt=lim then(7,x)else if x.σ.cnt+1=lim then(7,x.var lv)else if x.σ.cnt+2=lim then(7,(x.var lv).var lv)
 else(0,((x.var lv).var lv).mk' 7 [x.len,x.len+1])
mutual
def PatR(lim lv:Int):Pt->Nat->IS->Int×IS->Prop
 | .mk k f t m n s ks,y,x,res=>okI x/\
  if k=1 then res=(0,x)
  else if k=2 then res=(0,{x with nm:=x.nm++ [m],nd:=x.nd++ [y]})
  else if k=7 then(if(zOD lim lv x).1≠0 then res=zOD lim lv x
   else∃e x2,AgR lim (.mk k f t m n s ks) y (x.len+2) (zOD lim lv x).2 (e,x2)/\if e≠0 then res=(e,x2)else zA3 lim lv ks [x.len,x.len+1] x2 res)
  else if k=8\/k=9 then(if(zN8 lim lv x).1≠0 then res=zN8 lim lv x
   else∃e x2,AgR lim (.mk k f t m n s ks) y (x.len+1) (zN8 lim lv x).2 (e,x2)/\if e≠0\/k=8 then res=(e,x2)else zA3 lim lv ks [x.len,x.len+1] x2 res)
  else AgR lim (.mk k f t m n s ks) y (zM4 k-1).toNat x res
def zA3(lim lv:Int):List Pt->List Nat->IS->Int×IS->Prop
 | [],_,x,res=>res=(0,x)
 |p::ps,ys,x,res=>∃e x2,PatR lim lv p (ys.headD 0) x (e,x2)/\if e≠0 then res=(e,x2)else zA3 lim lv ps ys.tail x2 res
end
theorem zSA{lim lv:Int}{p:Pt}{y:Nat}{x:IS}{res:Int×IS}(hl:p.kind=7\/p.kind=9->p.kids.length=2):PatR lim lv p y x res ↔ okI x/\
 if p.kind=1 then res=(0,x)
 else if p.kind=2 then res=(0,{x with nm:=x.nm++ [p.name],nd:=x.nd++ [y]})
 else if p.kind=7 then(if(zOD lim lv x).1≠0 then res=zOD lim lv x
  else∃e x2,AgR lim p y (x.len+2) (zOD lim lv x).2 (e,x2)/\if e≠0 then res=(e,x2)else
   ∃e x3,PatR lim lv (p.kid 0) x.len x2 (e,x3)/\if e≠0 then res=(e,x3)else PatR lim lv (p.kid 1) (x.len+1) x3 res)
 else if p.kind=8\/p.kind=9 then(if(zN8 lim lv x).1≠0 then res=zN8 lim lv x
  else∃e x2,AgR lim p y (x.len+1) (zN8 lim lv x).2 (e,x2)/\if e≠0\/p.kind=8 then res=(e,x2)else
   ∃e x3,PatR lim lv (p.kid 0) x.len x2 (e,x3)/\if e≠0 then res=(e,x3)else PatR lim lv (p.kid 1) (x.len+1) x3 res)
 else AgR lim p y (zM4 p.kind-1).toNat x res:=by
 have two:∀(a b:Pt) (u v:Nat) (x2:IS),zA3 lim lv [a,b] [u,v] x2 res ↔ ∃e x3,PatR lim lv a u x2 (e,x3)/\if e≠0 then res=(e,x3)else PatR lim lv b v x3 res:=by
  intro a b u v x2
  simp only[zA3,List.headD_cons,List.tail_cons]
  constructor
  ·rintro⟨e,x3,h1,h2⟩
   refine⟨e,x3,h1,?_⟩
   split
   ·rename_i h;rw[if_pos h]at h2;exact h2
   ·rename_i h
    rw[if_neg h]at h2
    obtain⟨e',x4,h3,h4⟩:=h2
    split at h4
    ·rw[h4];exact h3
    ·rename_i h5
     have:e'=0:=by simpa using h5
     subst this
     rw[h4];exact h3
  ·rintro⟨e,x3,h1,h2⟩
   refine⟨e,x3,h1,?_⟩
   split
   ·rename_i h;rw[if_pos h]at h2;exact h2
   ·rename_i h
    rw[if_neg h]at h2
    obtain⟨e',x4⟩:=res
    refine⟨e',x4,h2,?_⟩
    split
    ·rfl
    ·rename_i h5
     have:e'=0:=by simpa using h5
     subst this;rfl
 cases p with
 |mk k f t m n s ks=>
  rw[PatR]
  simp only[Pt.zMj,Pt.zMf,Pt.zPj]at hl⊢
  by_cases h7:k=7
  ·match ks,hl (.inl h7)with
   | [a,b],_=>
    simp only[two,Pt.kid,Pt.zMf,List.getD_cons_zero,List.getD_cons_succ]
  ·by_cases h9:k=9
   ·match ks,hl (.inr h9)with
    | [a,b],_=>
     simp only[two,Pt.kid,Pt.zMf,List.getD_cons_zero,List.getD_cons_succ]
   ·by_cases h8:k=8
    ·simp only[h8,or_true,if_true,Int.reduceEq,if_false,true_or]
    ·simp only[h7,h8,h9,or_self,if_false]
def NI(n:Nat):AV:= .int .i64 n
theorem zAt(n:Nat):AV.int .i64 (n:Int)=NI n:=rfl
theorem zQK(m:Nat)(l:List Nat):AV.belL m (l.map NI)=true:=by induction l with|nil=>rfl|cons b l ih=>simp[yO,yN,NI];simpa [NI]using ih
theorem zQM(l:List Nat):AV.normL (l.map NI)=l.map NI:=by induction l with|nil=>rfl|cons b l ih=>simp[yQ,yP,NI];simpa [NI]using ih
theorem zCI(l:List Nat):(∀y,y∈l.map NI->(cellsOf y).length=1)=True:=by
 simp only[YAb,iff_true];intro y hy;obtain⟨t,_,rfl⟩:=List.mem_map.1 hy;rfl
def bxI(s a b:Nat)(lv:Int)(x:IS):AObj:= .box [.bptr s 0,.int .i64 lv,.sl (x.nm.map ST) (.own a),.sl (x.nd.map NI) (.own b),.int .i64 x.bf,.int .i64 x.bt,.int .i64 x.bw,.int .i64 x.bl,.int .i64 x.br,.str ByteArray.empty]
def arT(l:List ByteArray):AObj:= .tok l.length 1
def arI(l:List Nat):AObj:= .tok l.length 1
def hI(F:List AObj)(s r c a b p:Nat)(lim lv:Int)(y:AObj)(x:IS):List AObj:=
 sxd F s r c a b p (bxS r x.σ.v x.σ.L.length lim x.σ.cnt x.σ.rd) (arS x.σ.v x.σ.L) y (arT x.nm) (arI x.nd) (bxI s a b lv x)
def hB(F:List AObj)(s c a b p:Nat)(lv:Int)(y:AObj)(x:IS):List AObj:=(((F.set c y).set a (arT x.nm)).set b (arI x.nd)).set p (bxI s a b lv x)
theorem zK2(F:List AObj)(s c a b p:Nat)(lv:Int)(y:AObj)(x:IS):(hB F s c a b p lv y x).length=F.length:=by simp[hB]
end
section
def CIn:Cfg:= {C with zwr:=fun f=>f==23||f==24||f==64||f==63||f==33}
theorem zAS:zAb Tryz.prog CIn:=C_ok
theorem zAR(t:Nat):CIn.inpl t=false:=rfl
theorem zAT(t:Nat):CIn.ty t=C.ty t:=rfl
section
variable {F : List AObj} {s r c a b p : Nat} {lim lv : Int} {y : AObj}
theorem zTM{m v n v' n' w w':Nat}{L L':Mem}{lim' cnt rd cnt' rd' z1 z2 z3 z4 z5 u1 u2 u3 u4 u5:Int}{j1 j2 j3 j4:Nat}{l1 l1':List ByteArray}{l2 l2':List Nat}{tx tx':ByteArray}(h:SxdD F s r c a b p)
 (hb:∀z∈(sxd F s r c a b p (bxS r v n lim cnt rd) (arS w L) y (.tok j1 1) (.tok j2 1) (.box [.bptr s 0,.int .i64 lv,.sl (l1.map ST) (.own a),.sl (l2.map NI) (.own b),.int .i64 z1,.int .i64 z2,.int .i64 z3,.int .i64 z4,.int .i64 z5,.str tx])).take m,z.bel m=true):
 ∀z∈(sxd F s r c a b p (bxS r v' n' lim' cnt' rd') (arS w' L') y (.tok j3 1) (.tok j4 1) (.box [.bptr s 0,.int .i64 lv,.sl (l1'.map ST) (.own a),.sl (l2'.map NI) (.own b),.int .i64 u1,.int .i64 u2,.int .i64 u3,.int .i64 u4,.int .i64 u5,.str tx'])).take m,z.bel m=true:=
 zXz h (fun h=>zD1 h) (zCa _ _ _) rfl rfl (fun h=>by
  simp only[yR,yO,yN,zXs,zQK,Bool.true_and,YAA,YAa]at h⊢
  exact h) hb
theorem zW2(hD:SxdD F s r c a b p){x:IS}(hg:GoodS x.σ){n m M:Nat}(hn:n<x.σ.L.length)(hm:m<x.σ.L.length){l q e:Int}{σ':Sto}(h:RunB lim M [(n,m)] x.σ (l,q,e,σ')):
 zAd Tryz.prog 84 [.bptr s 0,.int .i64 n,.int .i64 m] (hI F s r c a b p lim lv y x) (.tup [.int .i64 l,.int .i64 q,.int .i64 e]) (hI F s r c a b p lim lv y {x with σ:=σ'}):=
 agree_ok (F:=hB F s c a b p lv y x) (by rw[zK2];exact hD.hs) (by rw[zK2];exact hD.hr) (fun e=>hD.d1.1 e.symm) hg hn hm h
theorem zBn(hD:SxdD F s r c a b p){q:Pt}{n m:Nat}{x:IS}{res:Int×IS}(hg:GoodS x.σ)(hn:n<x.σ.L.length)(hm:m<x.σ.L.length)(h:AgR lim q n m x res):
 zAd Tryz.prog 64 [.bptr p 0,embP q,.int .i64 n,.int .i64 m] (hI F s r c a b p lim lv y x) (.int .i64 res.1) (hI F s r c a b p lim lv y res.2):=by
 obtain⟨M,l,ri,e,σ',hrun,rfl⟩:=h
 have hD':=hD.app [.box (cellsOf (embP q))]
 have d:=zW2 (lv:=lv) (y:=y) hD' hg hn hm hrun
 rw[zGi]at d hD'
 unfold hI bxI arT arI at*
 unfold zAd
 by_cases he:e=0\/e=7
 ·simp only[if_pos he]
  rcases he with rfl|rfl
  ·refine eD zAS Tryz.func64 Tryz.results64 fun ok=> ?_
   repeat' (first
    |((first|apply bG|apply bH);simp only[yP,yQ];refine zIA (d) (.inl rfl) (fun hb=>zTM (by first|exact hD|exact hD.app _) hb) ?_)
    |skip)<;>simp only[↓zaL,WY,yA,yB,yC,reduceCtorEq,W1,W1P,WS,zAT,sxdP hD,zTh,yN,YAO]
  ·have e1:((7:Int) !=0)=true:=rfl
   refine eD zAS Tryz.func64 Tryz.results64 fun ok=> ?_
   repeat' (first
    |((first|apply bG|apply bH);simp only[yP,yQ];refine zIA (d) (.inl rfl) (fun hb=>zTM (by first|exact hD|exact hD.app _) hb) ?_)
    |skip)<;>simp only[↓zaL,WY,yA,yB,yC,reduceCtorEq,W1,W1P,WS,zAT,sxdP hD,zTh,yN,YAO,e1]
 ·simp only[if_neg he]
  have e1:(e !=0)=true:=by simp;omega
  have e2:(e !=7)=true:=by simp;omega
  refine eD zAS Tryz.func64 Tryz.results64 fun ok=> ?_
  repeat' (first
   |((first|apply bG|apply bH);simp only[yP,yQ];refine zIA (d) (.inl rfl) (fun hb=>zTM (by first|exact hD|exact hD.app _) hb) ?_)
   |skip)<;>simp only[↓zaL,WY,yA,yB,yC,yD,reduceCtorEq,W1,W1P,WS,zAT,sxdP hD,zTh,yN,e1,e2,yO]
end
end
section
section
variable {F : List AObj} {s r c a b p : Nat} {lim lv : Int} {y : AObj}
theorem varI(hD:SxdD F s r c a b p)(x:IS)(hl:¬lv<0)(hc:x.σ.cnt≠lim)(h1:x.σ.L.length<=1000000)(h2:0<=x.σ.cnt/\x.σ.cnt<=1000000):zAd Tryz.prog 23 [.bptr s 0,.int .i64 lv] (hI F s r c a b p lim lv y x) (.tup [.int .i64 x.len,.int .i64 0]) (hI F s r c a b p lim lv y (x.var lv)):=
 var_ok (F:=hB F s c a b p lv y x) (by rw[zK2];exact hD.hs) (by rw[zK2];exact hD.hr) (fun e=>hD.d1.1 e.symm) lv hl (by simpa using hc) h1 h2
theorem zaQ(hD:SxdD F s r c a b p)(x:IS)(hl:¬lv<0)(hc:x.σ.cnt=lim):zAd Tryz.prog 23 [.bptr s 0,.int .i64 lv] (hI F s r c a b p lim lv y x) (.tup [.int .i64 0,.int .i64 7]) (hI F s r c a b p lim lv y x):=
 var_full (F:=hB F s c a b p lv y x) (by rw[zK2];exact hD.hs) (by rw[zK2];exact hD.hr) (fun e=>hD.d1.1 e.symm) lv hl (by simpa using hc)
theorem zOT(hD:SxdD F s r c a b p)(x:IS)(n m:Nat)(hn:n<x.len)(hm:m<x.len)(hc:x.σ.cnt≠lim)(h1:x.σ.L.length<=1000000)(h2:0<=x.σ.cnt/\x.σ.cnt<=1000000):zAd Tryz.prog 24 [.bptr s 0,.int .i64 7,.int .i64 n,.int .i64 m] (hI F s r c a b p lim lv y x) (.tup [.int .i64 x.len,.int .i64 0]) (hI F s r c a b p lim lv y (x.mk' 7 [n,m])):=
 make_ok (F:=hB F s c a b p lv y x) (by rw[zK2];exact hD.hs) (by rw[zK2];exact hD.hr) (fun e=>hD.d1.1 e.symm) 7 n m (.inl rfl) hn hm (by simpa using hc) h1 h2
theorem zOU(hD:SxdD F s r c a b p)(x:IS)(n m:Nat)(hn:n<x.len)(hm:m<x.len)(hc:x.σ.cnt=lim):zAd Tryz.prog 24 [.bptr s 0,.int .i64 7,.int .i64 n,.int .i64 m] (hI F s r c a b p lim lv y x) (.tup [.int .i64 0,.int .i64 7]) (hI F s r c a b p lim lv y x):=
 make_full (F:=hB F s c a b p lv y x) (by rw[zK2];exact hD.hs) (by rw[zK2];exact hD.hr) (fun e=>hD.d1.1 e.symm) 7 n m (.inl rfl) hn hm (by simpa using hc)
theorem zOV(hD:SxdD F s r c a b p)(x:IS)(n:Nat)(m:Int)(hn:n<x.len)(hc:x.σ.cnt≠lim)(h1:x.σ.L.length<=1000000)(h2:0<=x.σ.cnt/\x.σ.cnt<=1000000):zAd Tryz.prog 24 [.bptr s 0,.int .i64 8,.int .i64 n,.int .i64 m] (hI F s r c a b p lim lv y x) (.tup [.int .i64 x.len,.int .i64 0]) (hI F s r c a b p lim lv y (x.mk' 8 [n])):=
 make_list (F:=hB F s c a b p lv y x) (by rw[zK2];exact hD.hs) (by rw[zK2];exact hD.hr) (fun e=>hD.d1.1 e.symm) n m hn (by simpa using hc) h1 h2
theorem zOW(hD:SxdD F s r c a b p)(x:IS)(n:Nat)(m:Int)(hn:n<x.len)(hc:x.σ.cnt=lim):zAd Tryz.prog 24 [.bptr s 0,.int .i64 8,.int .i64 n,.int .i64 m] (hI F s r c a b p lim lv y x) (.tup [.int .i64 0,.int .i64 7]) (hI F s r c a b p lim lv y x):=
 make_fullL (F:=hB F s c a b p lv y x) (by rw[zK2];exact hD.hs) (by rw[zK2];exact hD.hr) (fun e=>hD.d1.1 e.symm) n m hn (by simpa using hc)
theorem IS.zaS(x:IS)(lv:Int):(x.var lv).len=x.len+1:=by simp[IS.len,IS.var,Sto.var]
theorem IS.zPc(x:IS)(k:Int)(ks:List Nat):(x.mk' k ks).len=x.len+1:=by simp[IS.len,IS.mk',Sto.mk']
theorem zOA(hD:SxdD F s r c a b p){q:Pt}{n:Nat}{x:IS}(hl:¬lv<0)(hg:GoodS x.σ)(hn:n<x.σ.L.length)(ho:okI x)(h:(zN8 lim lv x).1≠0):
 zAd Tryz.prog 63 [.bptr p 0,embP q,.int .i64 n,.int .i64 8,.int .i64 1] (hI F s r c a b p lim lv y x) (.tup [.sl [] .no,.int .i64 0,.int .i64 (zN8 lim lv x).1]) (hI F s r c a b p lim lv y (zN8 lim lv x).2):=by
 have e7:((7:Int) !=0)=true:=rfl
 have w11:IntKind.wrap .i64 (1-1)=0:=by decide
 have w21:IntKind.wrap .i64 (2-1)=1:=by decide
 obtain⟨o1,o2,o3,o4,o5⟩:=ho
 unfold zAd zN8 at*
 by_cases h1:x.σ.cnt=lim
 ·rw[if_pos h1]at*
  have d:=fun J:List AObj=>zaQ (y:=y) (hD.app J) x hl h1
  unfold hI bxI arT arI at*
  refine eD zAS Tryz.func63 Tryz.results63 fun ok=> ?_
  repeat' (first
   |((first|apply bG|apply bH);simp only[yP,yQ];refine zIl rfl trivial (d _) (.inl rfl) (fun hb=>zTM (by first|exact hD|exact hD.app _) hb) ?_)
   |refine drA zAS 3 0 ?_
   |refine zJ9 ?_ zAS Tryz.f63.ntmps rfl (by decide)
   |skip)<;>simp only[↓zaL,WY,yA,yB,yC,reduceCtorEq,W1,W1P,WS,yI,zAT,sxdP hD,zTh,yN,yO,e7]
 ·rw[if_neg h1]at*
  by_cases h2:x.σ.cnt+1=lim
  ·rw[if_pos h2]at*
   have d:=fun J:List AObj=>varI (y:=y) (hD.app J) x hl h1 (by omega) (by omega)
   have d2:=fun J:List AObj=>zOW (lim:=lim) (lv:=lv) (y:=y) (hD.app J) (x.var lv) x.len x.len (by rw[IS.zaS];omega) h2
   unfold hI bxI arT arI at*
   refine eD zAS Tryz.func63 Tryz.results63 fun ok=> ?_
   have h:=YAN
   repeat' (first
    |((first|apply bG|apply bH);simp only[yP,yQ];first|refine zIl rfl trivial (d _) (.inl rfl) (fun hb=>zTM (by first|exact hD|exact hD.app _) hb) ?_|refine zIl rfl trivial (d2 _) (.inl rfl) (fun hb=>zTM (by first|exact hD|exact hD.app _) hb) ?_)
    |refine drA zAS 3 0 ?_
    |refine drA zAS 8 0 ?_
    |refine zJ9 ?_ zAS Tryz.f63.ntmps rfl (by decide)
    |skip)<;>simp only[↓zaL,WY,yA,yB,yC,yD,reduceCtorEq,yE,yF,W1,W1P,WS,W3,yI,zAT,zAR,sxdP hD,zTh,yN,yO,YAO,e7,w11,YAQ]
  ·rw[if_neg h2]at h;exact absurd rfl h
theorem zOF(hD:SxdD F s r c a b p){q:Pt}{n:Nat}{x:IS}(hl:¬lv<0)(hg:GoodS x.σ)(hn:n<x.σ.L.length)(ho:okI x)(h:(zOD lim lv x).1≠0):
 zAd Tryz.prog 63 [.bptr p 0,embP q,.int .i64 n,.int .i64 7,.int .i64 2] (hI F s r c a b p lim lv y x) (.tup [.sl [] .no,.int .i64 0,.int .i64 (zOD lim lv x).1]) (hI F s r c a b p lim lv y (zOD lim lv x).2):=by
 have e7:((7:Int) !=0)=true:=rfl
 have w11:IntKind.wrap .i64 (1-1)=0:=by decide
 have w21:IntKind.wrap .i64 (2-1)=1:=by decide
 obtain⟨o1,o2,o3,o4,o5⟩:=ho
 unfold zAd zOD at*
 by_cases h1:x.σ.cnt=lim
 ·rw[if_pos h1]at*
  have d:=fun J:List AObj=>zaQ (y:=y) (hD.app J) x hl h1
  unfold hI bxI arT arI at*
  refine eD zAS Tryz.func63 Tryz.results63 fun ok=> ?_
  repeat' (first
   |((first|apply bG|apply bH);simp only[yP,yQ];refine zIl rfl trivial (d _) (.inl rfl) (fun hb=>zTM (by first|exact hD|exact hD.app _) hb) ?_)
   |refine drA zAS 3 0 ?_
   |refine zJ9 ?_ zAS Tryz.f63.ntmps rfl (by decide)
   |skip)<;>simp only[↓zaL,WY,yA,yB,yC,reduceCtorEq,W1,W1P,WS,yI,zAT,sxdP hD,zTh,yN,yO,e7]
 ·rw[if_neg h1]at*
  have d:=fun J:List AObj=>varI (y:=y) (hD.app J) x hl h1 (by omega) (by omega)
  by_cases h2:x.σ.cnt+1=lim
  ·rw[if_pos h2]at*
   have d2:=fun J:List AObj=>zaQ (y:=y) (hD.app J) (x.var lv) hl h2
   unfold hI bxI arT arI at*
   refine eD zAS Tryz.func63 Tryz.results63 fun ok=> ?_
   repeat' (first
    |((first|apply bG|apply bH);simp only[yP,yQ];first|refine zIl rfl trivial (d _) (.inl rfl) (fun hb=>zTM (by first|exact hD|exact hD.app _) hb) ?_|refine zIl rfl trivial (d2 _) (.inl rfl) (fun hb=>zTM (by first|exact hD|exact hD.app _) hb) ?_)
    |refine drA zAS 3 0 ?_
    |refine zJ9 ?_ zAS Tryz.f63.ntmps rfl (by decide)
    |skip)<;>simp only[↓zaL,WY,yA,yB,yC,yD,reduceCtorEq,yE,yF,W1,W1P,WS,W3,yI,zAT,zAR,sxdP hD,zTh,yN,yO,YAO,e7]
  ·rw[if_neg h2]at*
   have d2:=fun J:List AObj=>varI (y:=y) (hD.app J) (x.var lv) hl h2 (by show(x.σ.L++_).length<=_;simp;omega) (by show 0<=x.σ.cnt+1/\x.σ.cnt+1<=_;omega)
   by_cases h3:x.σ.cnt+2=lim
   ·rw[if_pos h3]at*
    have d3:=fun J:List AObj=>zOU (lim:=lim) (lv:=lv) (y:=y) (hD.app J) ((x.var lv).var lv) x.len (x.len+1) (by rw[IS.zaS,IS.zaS];omega) (by rw[IS.zaS,IS.zaS];omega) (by show x.σ.cnt+1+1=lim;omega)
    simp only[IS.zaS]at d2
    unfold hI bxI arT arI at*
    refine eD zAS Tryz.func63 Tryz.results63 fun ok=> ?_
    have h:=YAN
    repeat' (first
     |((first|apply bG|apply bH);simp only[yP,yQ];first|refine zIl rfl trivial (d _) (.inl rfl) (fun hb=>zTM (by first|exact hD|exact hD.app _) hb) ?_|refine zIl rfl trivial (d2 _) (.inl rfl) (fun hb=>zTM (by first|exact hD|exact hD.app _) hb) ?_|refine zIl rfl trivial (d3 _) (.inl rfl) (fun hb=>zTM (by first|exact hD|exact hD.app _) hb) ?_)
     |refine drA zAS 3 0 ?_
     |refine drA zAS 8 0 ?_
     |refine zJ9 ?_ zAS Tryz.f63.ntmps rfl (by decide)
     |skip)<;>simp only[↓zaL,WY,yA,yB,yC,yD,reduceCtorEq,yE,yF,W1,W1P,WS,W3,yH,yI,yM,zAT,zAR,sxdP hD,zTh,yN,yO,YAO,e7,w21,YAQ]
   ·rw[if_neg h3]at h;exact absurd rfl h
theorem zOC(hD:SxdD F s r c a b p){q:Pt}{n:Nat}{x x2:IS}{e:Int}(hl:¬lv<0)(hg:GoodS x.σ)(hn:n<x.σ.L.length)(ho:okI x)(h:(zN8 lim lv x).1=0)(hA:AgR lim q n (x.len+1) (zN8 lim lv x).2 (e,x2)):
 zAd Tryz.prog 63 [.bptr p 0,embP q,.int .i64 n,.int .i64 8,.int .i64 1] (hI F s r c a b p lim lv y x) (.tup [.sl [.int .i64 x.len] .no,.int .i64 (x.len+1:Nat),.int .i64 e]) (hI F s r c a b p lim lv y x2):=by
 have e7:((7:Int) !=0)=true:=rfl
 have w11:IntKind.wrap .i64 (1-1)=0:=by decide
 have w21:IntKind.wrap .i64 (2-1)=1:=by decide
 obtain⟨o1,o2,o3,o4,o5⟩:=ho
 unfold zAd
 unfold zN8 at h hA
 by_cases h1:x.σ.cnt=lim
 ·rw[if_pos h1]at h;cases h
 rw[if_neg h1]at h hA
 by_cases h2:x.σ.cnt+1=lim
 ·rw[if_pos h2]at h;cases h
 rw[if_neg h2]at hA
 have d:=fun J:List AObj=>varI (lim:=lim) (y:=y) (hD.app J) x hl h1 (by omega) (by omega)
 have d2:=fun J:List AObj=>zOV (lim:=lim) (lv:=lv) (y:=y) (hD.app J) (x.var lv) x.len x.len (by rw[IS.zaS];omega) h2 (by show(x.σ.L++_).length<=_;simp;omega) (by show 0<=x.σ.cnt+1/\x.σ.cnt+1<=_;omega)
 have hgv:GoodS ((x.var lv).mk' 8 [x.len]).σ:=(hg.var (by omega)).mk' (.inr ⟨rfl,rfl⟩) (by intro z hz;simp only[List.mem_singleton]at hz;subst hz;show x.len<(x.σ.L++_).length;simp[IS.len])
 have d3:=fun J:List AObj=>zBn (lv:=lv) (y:=y) (hD.app J) (q:=q) (n:=n) hgv (by show n<((x.σ.L++_)++_).length;simp;omega) (by show x.len+1<((x.σ.L++_)++_).length;simp[IS.len]) hA
 simp only[IS.zaS]at d2
 unfold hI bxI arT arI at*
 refine eD zAS Tryz.func63 Tryz.results63 fun ok=> ?_
 repeat' (first
  |((first|apply bG|apply bH);simp only[yP,yQ,W2P];first|refine zIl rfl trivial (d _) (.inl rfl) (fun hb=>zTM (by first|exact hD|exact hD.app _) hb) ?_|refine zIl rfl trivial (d2 _) (.inl rfl) (fun hb=>zTM (by first|exact hD|exact hD.app _) hb) ?_|refine zIA (d3 _) (.inl rfl) (fun hb=>zTM (by first|exact hD|exact hD.app _) hb) ?_)
  |refine drA zAS 3 0 ?_
  |refine drA zAS 8 0 ?_
  |refine zJ9 ?_ zAS Tryz.f63.ntmps rfl (by decide)
  |skip)<;>simp only[↓zaL,WY,yA,yB,yC,yD,reduceCtorEq,yE,yF,W1,W1P,WS,W3,yI,zAT,zAR,sxdP hD,zTh,yN,yO,YAO,w11,YAQ]
theorem zOB(hD:SxdD F s r c a b p){q:Pt}{n:Nat}{x x2:IS}{e:Int}(hl:¬lv<0)(hg:GoodS x.σ)(hn:n<x.σ.L.length)(ho:okI x)(h:(zN8 lim lv x).1=0)(hA:AgR lim q n (x.len+1) (zN8 lim lv x).2 (e,x2)):
 zAd Tryz.prog 63 [.bptr p 0,embP q,.int .i64 n,.int .i64 8,.int .i64 1] (hI F s r c a b p lim lv y x) (.tup [.sl [.int .i64 x.len] (.own (F.length+1)),.int .i64 (x.len+1:Nat),.int .i64 e]) (hI (F++ [.box (cellsOf (embP q)),.tok 1 1]) s r c a b p lim lv y x2):=by
 have e7:((7:Int) !=0)=true:=rfl
 have w11:IntKind.wrap .i64 (1-1)=0:=by decide
 have w21:IntKind.wrap .i64 (2-1)=1:=by decide
 obtain⟨o1,o2,o3,o4,o5⟩:=ho
 unfold zAd
 unfold zN8 at h hA
 by_cases h1:x.σ.cnt=lim
 ·rw[if_pos h1]at h;cases h
 rw[if_neg h1]at h hA
 by_cases h2:x.σ.cnt+1=lim
 ·rw[if_pos h2]at h;cases h
 rw[if_neg h2]at hA
 have d:=fun J:List AObj=>varI (lim:=lim) (y:=y) (hD.app J) x hl h1 (by omega) (by omega)
 have d2:=fun J:List AObj=>zOV (lim:=lim) (lv:=lv) (y:=y) (hD.app J) (x.var lv) x.len x.len (by rw[IS.zaS];omega) h2 (by show(x.σ.L++_).length<=_;simp;omega) (by show 0<=x.σ.cnt+1/\x.σ.cnt+1<=_;omega)
 have hgv:GoodS ((x.var lv).mk' 8 [x.len]).σ:=(hg.var (by omega)).mk' (.inr ⟨rfl,rfl⟩) (by intro z hz;simp only[List.mem_singleton]at hz;subst hz;show x.len<(x.σ.L++_).length;simp[IS.len])
 have d3:=fun J:List AObj=>zBn (lv:=lv) (y:=y) (hD.app J) (q:=q) (n:=n) hgv (by show n<((x.σ.L++_)++_).length;simp;omega) (by show x.len+1<((x.σ.L++_)++_).length;simp[IS.len]) hA
 simp only[IS.zaS]at d2
 rw[zGi]
 unfold hI bxI arT arI at*
 refine eE zAS Tryz.func63 Tryz.results63 fun ok=> ?_
 repeat' (first
  |((first|apply bG|apply bH);simp only[yP,yQ,W2P];first|refine zIl rfl trivial (d _) (.inl rfl) (fun hb=>zTM (by first|exact hD|exact hD.app _) hb) ?_|refine zIl rfl trivial (d2 _) (.inl rfl) (fun hb=>zTM (by first|exact hD|exact hD.app _) hb) ?_|refine zIA (d3 _) (.inl rfl) (fun hb=>zTM (by first|exact hD|exact hD.app _) hb) ?_)
  |refine drA zAS 3 0 ?_
  |refine drA zAS 8 0 ?_
  |refine zJ9 ?_ zAS Tryz.f63.ntmps rfl (by decide)
  |skip)<;>simp only[↓zaL,WY,yA,yB,yC,yD,reduceCtorEq,yE,yF,W1,W1P,WS,W3,yI,zAT,zAR,sxdP hD,YAO,w11,YAQ]
theorem zOG(hD:SxdD F s r c a b p){q:Pt}{n:Nat}{x x2:IS}{e:Int}(hl:¬lv<0)(hg:GoodS x.σ)(hn:n<x.σ.L.length)(ho:okI x)(h:(zOD lim lv x).1=0)(hA:AgR lim q n (x.len+2) (zOD lim lv x).2 (e,x2)):
 zAd Tryz.prog 63 [.bptr p 0,embP q,.int .i64 n,.int .i64 7,.int .i64 2] (hI F s r c a b p lim lv y x) (.tup [.sl [.int .i64 x.len,.int .i64 (x.len+1:Nat)] .no,.int .i64 (x.len+2:Nat),.int .i64 e]) (hI F s r c a b p lim lv y x2):=by
 have e7:((7:Int) !=0)=true:=rfl
 have w11:IntKind.wrap .i64 (1-1)=0:=by decide
 have w21:IntKind.wrap .i64 (2-1)=1:=by decide
 obtain⟨o1,o2,o3,o4,o5⟩:=ho
 unfold zAd
 unfold zOD at h hA
 by_cases h1:x.σ.cnt=lim
 ·rw[if_pos h1]at h;cases h
 rw[if_neg h1]at h hA
 by_cases h2:x.σ.cnt+1=lim
 ·rw[if_pos h2]at h;cases h
 rw[if_neg h2]at h hA
 by_cases h3:x.σ.cnt+2=lim
 ·rw[if_pos h3]at h;cases h
 rw[if_neg h3]at hA
 have d:=fun J:List AObj=>varI (lim:=lim) (y:=y) (hD.app J) x hl h1 (by omega) (by omega)
 have d2:=fun J:List AObj=>varI (lim:=lim) (y:=y) (hD.app J) (x.var lv) hl h2 (by show(x.σ.L++_).length<=_;simp;omega) (by show 0<=x.σ.cnt+1/\x.σ.cnt+1<=_;omega)
 have d3:=fun J:List AObj=>zOT (lim:=lim) (lv:=lv) (y:=y) (hD.app J) ((x.var lv).var lv) x.len (x.len+1) (by rw[IS.zaS,IS.zaS];omega) (by rw[IS.zaS,IS.zaS];omega) (by show x.σ.cnt+1+1≠lim;omega) (by show((x.σ.L++_)++_).length<=_;simp;omega) (by show 0<=x.σ.cnt+1+1/\x.σ.cnt+1+1<=_;omega)
 have hgv:GoodS (((x.var lv).var lv).mk' 7 [x.len,x.len+1]).σ:=((hg.var (by omega)).var (by omega)).mk' (.inl ⟨.inl rfl,rfl⟩) (by
  intro z hz
  show z<((x.σ.L++_)++_).length
  simp only[List.mem_cons,List.not_mem_nil,or_false]at hz
  rcases hz with rfl|rfl<;>simp[IS.len]<;>omega)
 have d4:=fun J:List AObj=>zBn (lv:=lv) (y:=y) (hD.app J) (q:=q) (n:=n) hgv (by show n<(((x.σ.L++_)++_)++_).length;simp;omega) (by show x.len+2<(((x.σ.L++_)++_)++_).length;simp[IS.len]) hA
 simp only[IS.zaS]at d2 d3
 unfold hI bxI arT arI at*
 refine eD zAS Tryz.func63 Tryz.results63 fun ok=> ?_
 repeat' (first
  |((first|apply bG|apply bH);simp only[yP,yQ,W2P];first|refine zIl rfl trivial (d _) (.inl rfl) (fun hb=>zTM (by first|exact hD|exact hD.app _) hb) ?_|refine zIl rfl trivial (d2 _) (.inl rfl) (fun hb=>zTM (by first|exact hD|exact hD.app _) hb) ?_|refine zIl rfl trivial (d3 _) (.inl rfl) (fun hb=>zTM (by first|exact hD|exact hD.app _) hb) ?_|refine zIA (d4 _) (.inl rfl) (fun hb=>zTM (by first|exact hD|exact hD.app _) hb) ?_)
  |refine drA zAS 3 0 ?_
  |refine drA zAS 8 0 ?_
  |refine zJ9 ?_ zAS Tryz.f63.ntmps rfl (by decide)
  |skip)<;>simp only[↓zaL,WY,yA,yB,yC,yD,reduceCtorEq,yE,yF,W1,W1P,WS,W3,yH,yI,yM,zAT,zAR,sxdP hD,zTh,yN,yO,YAO,w21,YAQ]
end
end
section
theorem zBz{lim:Int}{q:Pt}{n m:Nat}{x:IS}{res:Int×IS}(hg:GoodS x.σ)(hn:n<x.len)(hm:m<x.len)(h:AgR lim q n m x res):GoodS res.2.σ/\x.len<=res.2.len:=by
 obtain⟨M,l,r,e,σ',hr,rfl⟩:=h
 have h:=zU1 M [(n,m)] x.σ _ hg (fun z hz=>by simp only[List.mem_singleton]at hz;subst hz;exact⟨hn,hm⟩) hr
 simp only
 split
 ·exact h
 ·exact h
theorem zN9{lim lv:Int}{x:IS}(hg:GoodS x.σ)(hl:¬lv<0):GoodS (zN8 lim lv x).2.σ/\x.len<=(zN8 lim lv x).2.len/\((zN8 lim lv x).1=0->(zN8 lim lv x).2.len=x.len+2):=by
 have h1:GoodS (x.var lv).σ:=hg.var (by omega)
 have h2:GoodS ((x.var lv).mk' 8 [x.len]).σ:=h1.mk' (.inr ⟨rfl,rfl⟩) (by intro z hz;simp only[List.mem_singleton]at hz;subst hz;show x.len<(x.σ.L++_).length;simp[IS.len])
 unfold zN8
 split
 ·exact⟨hg,YAV _,fun h=>by cases h⟩
 split
 ·exact⟨h1,by rw[IS.zaS];omega,fun h=>by cases h⟩
 ·exact⟨h2,by rw[IS.zPc,IS.zaS];omega,fun _=>by rw[IS.zPc,IS.zaS]⟩
theorem zOE{lim lv:Int}{x:IS}(hg:GoodS x.σ)(hl:¬lv<0):GoodS (zOD lim lv x).2.σ/\x.len<=(zOD lim lv x).2.len/\((zOD lim lv x).1=0->(zOD lim lv x).2.len=x.len+3):=by
 have h1:GoodS (x.var lv).σ:=hg.var (by omega)
 have h2:GoodS ((x.var lv).var lv).σ:=h1.var (by omega)
 have h3:GoodS (((x.var lv).var lv).mk' 7 [x.len,x.len+1]).σ:=h2.mk' (.inl ⟨.inl rfl,rfl⟩) (by
  intro z hz
  show z<((x.σ.L++_)++_).length
  simp only[List.mem_cons,List.not_mem_nil,or_false]at hz
  rcases hz with rfl|rfl<;>simp[IS.len]<;>omega)
 unfold zOD
 split
 ·exact⟨hg,YAV _,fun h=>by cases h⟩
 split
 ·exact⟨h1,by rw[IS.zaS];omega,fun h=>by cases h⟩
 split
 ·exact⟨h2,by rw[IS.zaS,IS.zaS];omega,fun h=>by cases h⟩
 ·exact⟨h3,by rw[IS.zPc,IS.zaS,IS.zaS];omega,fun _=>by rw[IS.zPc,IS.zaS,IS.zaS]⟩
theorem zM5{k:Int}(h:3<=k/\k<=6):zM4 k=k-2:=by unfold zM4;rw[if_pos h]
theorem GoodS.five{σ:Sto}(h:GoodS σ):5<=σ.L.length:=by have:=h.si.wf.five;rwa[Mem.zXR]at this
theorem zSB{lim lv:Int}(hl:¬lv<0):∀p:Pt,okA p=true->∀(n:Nat) (x:IS) (res:Int×IS),GoodS x.σ->n<x.len->PatR lim lv p n x res->GoodS res.2.σ/\x.len<=res.2.len:=
 Pt.ind (p:=fun p=>okA p=true->∀(n:Nat) (x:IS) (res:Int×IS),GoodS x.σ->n<x.len->PatR lim lv p n x res->GoodS res.2.σ/\x.len<=res.2.len) fun p ih hok n x res hg hn h=>by
  obtain⟨hk,ho⟩:=zRH hok
  have hkd:=zRN hk
  rw[zSA (zRP hk)]at h
  obtain⟨hoI,h⟩:=h
  have two:∀(u v:Nat) (x2:IS),p.kids.length=2->GoodS x2.σ->x.len<=x2.len->u<x2.len->v<x2.len->(∃e x3,PatR lim lv (p.kid 0) u x2 (e,x3)/\if e≠0 then res=(e,x3)else PatR lim lv (p.kid 1) v x3 res)->GoodS res.2.σ/\x.len<=res.2.len:=by
   intro u v x2 h2 hg2 hx hu hv ⟨e,x3,h3,h4⟩
   have m0:=zSk (p:=p) (i:=0) (by omega)
   have m1:=zSk (p:=p) (i:=1) (by omega)
   have a:=ih _ m0 (ho _ m0) _ _ _ hg2 hu h3
   simp only at a
   split at h4
   ·rw[h4];exact⟨a.1,by simp only;omega⟩
   ·have b:=ih _ m1 (ho _ m1) _ _ _ a.1 (by omega) h4
    exact⟨b.1,by omega⟩
  split at h
  ·rw[h];exact⟨hg,YAV _⟩
  split at h
  ·rw[h];exact⟨hg,YAV _⟩
  split at h
  ·rename_i h7
   have hm:=zOE (lim:=lim) (lv:=lv) hg hl
   split at h
   ·rw[h];exact⟨hm.1,hm.2.1⟩
   ·rename_i h0
    have h0:=hm.2.2 (by simpa using h0)
    obtain⟨e,x2,ha,h⟩:=h
    have ag:=zBz hm.1 (by omega) (by omega) ha
    simp only at ag
    split at h
    ·rw[h];exact⟨ag.1,by simp only;omega⟩
    ·exact two _ _ x2 (zRP hk (.inl h7)) ag.1 (by omega) (by omega) (by omega) h
  split at h
  ·have hm:=zN9 (lim:=lim) (lv:=lv) hg hl
   split at h
   ·rw[h];exact⟨hm.1,hm.2.1⟩
   ·rename_i h7 h89 h0
    have h0:=hm.2.2 (by simpa using h0)
    obtain⟨e,x2,ha,h⟩:=h
    have ag:=zBz hm.1 (by omega) (by omega) ha
    simp only at ag
    split at h
    ·rw[h];exact⟨ag.1,by simp only;omega⟩
    ·exact two _ _ x2 (zRP hk (.inr (by omega))) ag.1 (by omega) (by omega) (by omega) h
  ·have:=hg.five
   have hm:(zM4 p.kind-1).toNat<x.len:=by
    rw[zM5 (by omega)];show _<x.σ.L.length;omega
   exact zBz hg hn hm h
def CPa:Cfg:= {C with zwr:=fun f=>f==64||f==63||f==33}
theorem zAY:zAb Tryz.prog CPa:=C_ok
theorem zAX(t:Nat):CPa.inpl t=false:=rfl
theorem zAZ(t:Nat):CPa.ty t=C.ty t:=rfl
def zAm(lim lv:Int)(q:Pt):Prop:=∀ ⦃F:List AObj⦄ ⦃s r c a b p:Nat⦄ ⦃y:AObj⦄,SxdD F s r c a b p->∀(n:Nat) (x:IS) (res:Int×IS),GoodS x.σ->n<x.len->PatR lim lv q n x res->
 zAd Tryz.prog 33 [.bptr p 0,embP q,.int .i64 n] (hI F s r c a b p lim lv y x) (.int .i64 res.1) (hI F s r c a b p lim lv y res.2)
theorem zLo{lim lv:Int}{q:Pt}(hk:q.kind=1):zAm lim lv q:=by
 intro F s r c a b p y hD n x res hg hn h
 rw[zSA (by omega),if_pos hk]at h
 obtain⟨-,rfl⟩:=h
 have b1:(q.kind==1)=true:=by simp[hk]
 unfold zAd hI bxI arT arI
 refine eD zAY Tryz.func33 Tryz.results33 fun ok=> ?_
 repeat' (first
  |refine zJ9 ?_ zAY Tryz.f33.ntmps rfl (by decide)
  |skip)<;>simp only[↓zaL,WY,yA,yB,W1,W1P,WS,zAZ,sxdP hD,zTh,yN,b1]
theorem zLr{lim lv:Int}{q:Pt}(hk:q.kind=2):zAm lim lv q:=by
 intro F s r c a b p y hD n x res hg hn h
 rw[zSA (by omega),if_neg (by omega),if_pos hk]at h
 obtain⟨⟨o1,o2,o3,o4,o5⟩,rfl⟩:=h
 have b1:(q.kind==1)=false:=by simp[hk]
 have b2:(q.kind==2)=true:=by simp[hk]
 unfold zAd hI bxI arT arI
 refine eD zAY Tryz.func33 Tryz.results33 fun ok=> ?_
 repeat' (first
  |refine drA zAY 7 0 ?_
  |refine zJ9 ?_ zAY Tryz.f33.ntmps rfl (by decide)
  |skip)<;>simp only[↓zaL,WY,yA,yB,yC,yD,reduceCtorEq,yE,yF,W1,W1P,WS,zAZ,zAX,sxdP hD,zTh,yN,b1,b2,zCJ,zCI,zAt]
 have e1:List.map ST x.nm++ [AV.str q.name]=(x.nm++ [q.name]).map ST:=by rw[List.map_append];rfl
 have e2:List.map NI x.nd++ [NI n]=(x.nd++ [n]).map NI:=by rw[List.map_append];rfl
 refine⟨⟨by omega,by omega⟩,⟨rfl,rfl⟩,⟨by omega,by omega,rfl,rfl⟩,fun _=> ?_,fun _=> ?_,?_⟩
 ·rw[e1,zXs,Bool.true_and];exact decide_eq_true hD.h1
 ·rw[e2,zQK,Bool.true_and];exact decide_eq_true hD.h2
 ·rw[e1,e2]
theorem zLq{lim lv:Int}{q:Pt}(hk:3<=q.kind/\q.kind<=6):zAm lim lv q:=by
 intro F s r c a b p y hD n x res hg hn h
 rw[zSA (by omega),if_neg (by omega),if_neg (by omega),if_neg (by omega),if_neg (by omega)]at h
 obtain⟨-,h⟩:=h
 have b1:(q.kind==1)=false:=by simp;omega
 have b2:(q.kind==2)=false:=by simp;omega
 have b7:(q.kind==7)=false:=by simp;omega
 have b8:(q.kind==8)=false:=by simp;omega
 have b9:(q.kind==9)=false:=by simp;omega
 have hlf:=zM2 q.kind
 rw[<-zM4,zM5 hk]at hlf
 have e1:IntKind.wrap .i64 (q.kind-2-1)=((zM4 q.kind-1).toNat:Int):=by
  have e1:IntKind.i64.min= -9223372036854775808:=by decide
  have e2:IntKind.i64.max=9223372036854775807:=by decide
  rw[wrap_id .i64 _ (by omega) (by omega),zM5 hk];omega
 have hm:(zM4 q.kind-1).toNat<x.σ.L.length:=by
  have:=hg.five
  rw[zM5 hk];omega
 have d:=fun J:List AObj=>zBn (lv:=lv) (y:=y) (hD.app J) hg hn hm h
 unfold zAd
 unfold hI bxI arT arI at*
 refine eD zAY Tryz.func33 Tryz.results33 fun ok=> ?_
 repeat' (first
  |((first|apply bG|apply bH);simp only[yP,yQ,W2P];first|refine zIj (hlf) (.inl rfl) ?_|refine zIl rfl trivial (d _) (.inl rfl) (fun hb=>zTM (by first|exact hD|exact hD.app _) hb) ?_)
  |refine drA zAY 3 0 ?_
  |refine zJ9 ?_ zAY Tryz.f33.ntmps rfl (by decide)
  |skip)<;>simp only[↓zaL,WY,yA,yB,reduceCtorEq,W1,W1P,WS,zAZ,sxdP hD,zTh,yN,b1,b2,b7,b8,b9,e1]
end
end Go.Proofs.YtdngjamjccjlmaaGreat
