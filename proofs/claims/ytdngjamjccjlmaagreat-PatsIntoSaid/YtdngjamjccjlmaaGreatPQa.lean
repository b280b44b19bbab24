/- Lemmas: what a pattern binds in a type. No condition. -/
import Derived.Test.YtdngjamjccjlmaaGreatPZb
import Derived.Test.YtdngjamjccjlmaaGreatPFa
set_option linter.unusedSimpArgs false
set_option linter.unusedVariables false
set_option maxHeartbeats 4000000
set_option maxRecDepth 100000
set_option linter.defProp false
namespace Go.Proofs.YtdngjamjccjlmaaGreat
open Go Go.Ab
open AV renaming belL -> yO, bel -> yN, normL -> yQ, norm -> yP
open Nat renaming reduceEqDiff -> yA, reduceAdd -> yB, reduceLT -> yC, reduceLeDiff -> yD, reduceMul -> yE, reducePow -> yF
open Int renaming reduceBEq -> yK, reduceAdd -> yH, reduceLT -> yI, reduceBNe -> yL, reduceLE -> yM
attribute [local irreducible] zA0 zAA zAa zAi zAj GoIf GoGb zAk GoO GoD GoX GoDX GoG GoDG GoGv zAl Go zAB
section
abbrev En:=ByteArray×Ty
def embE(p:En):AV:= .agg [.str p.1,.int .i64 p.2.kind,.int .i64 p.2.num,.sl (p.2.kids.map emb) .no]
theorem zGP(v:ByteArray)(k n:Int)(l:List Ty):AV.agg [.str v,.int .i64 k,.int .i64 n,.sl (l.map emb) .no]=embE (v,.mk k n l):=rfl
theorem zGQ(v:ByteArray)(k n:Int):AV.agg [.str v,.int .i64 k,.int .i64 n,.sl [] .no]=embE (v,.mk k n []):=rfl
theorem zGO(p:En):cellsOf (embE p)=[.str p.1,.int .i64 p.2.kind,.int .i64 p.2.num,.sl (p.2.kids.map emb) .no]:=rfl
theorem zGS(p:En):(embE p).solid=true:=rfl
theorem zCB(l:List En):(∀y,y∈l.map embE->(cellsOf y).length=4)=True:=by
 simp only[YAb,iff_true];intro y hy;obtain⟨t,_,rfl⟩:=List.mem_map.1 hy;rw[zGO];rfl
theorem zGR(p:En):(embE p).norm=embE p:=by simp only[embE,yP,yQ,zOu]
theorem zGN(m:Nat)(p:En):(embE p).bel m=true:=by simp only[embE,yN,yO,zOq,Bool.and_self]
theorem zOc(l:List En):AV.normL (l.map embE)=l.map embE:=by
 induction l with
 |nil=>rfl
 |cons a l ih=>simp only[List.map_cons,yQ,zGR,ih]
theorem zOa(m:Nat)(l:List En):AV.belL m (l.map embE)=true:=by
 induction l with
 |nil=>rfl
 |cons a l ih=>simp only[List.map_cons,yO,zGN,ih,Bool.and_self]
def W1Ed:=cjI @zCB (cjI @zGS (cjI @zGO (cjI @zGP (cjI @zGQ (cjI @zGR (@zOc))))))
theorem W1E:type_of% W1Ed:=W1Ed
def W2Ed:=cjI @zGR (cjI @zOc (cjI @zGP (@zGQ)))
def zM4(k:Int):Int:=if 3<=k/\k<=6 then k-2 else if k=8 then 8 else 0
mutual
def zDo:Pt->Ty->List En->Option (List En)
 | .mk k f t m n s ks,u,L=>
  if k=1 then some L else if k=2 then some (L++ [(m,u)])
  else if k=7 then(if u.kind=7 then zDp ks u.kids L else none)
  else if k=9 then(if u.kind=8 then zDp ks [u.kid 0,u] L else none)
  else if u.kind=zM4 k then some L else none
def zDp:List Pt->List Ty->List En->Option (List En)
 | [],_,L=>some L
 |p::ps,us,L=>match zDo p (us.headD default) L with
  |none=>none
  |some L'=>zDp ps us.tail L'
end
theorem zDq{p:Pt}(u:Ty)(L:List En)(h:p.kind=7\/p.kind=9->p.kids.length=2):zDo p u L=
 if p.kind=1 then some L else if p.kind=2 then some (L++ [(p.name,u)])
 else if p.kind=7 then(if u.kind=7 then(zDo (p.kid 0) (u.kid 0) L).bind (zDo (p.kid 1) (u.kid 1))else none)
 else if p.kind=9 then(if u.kind=8 then(zDo (p.kid 0) (u.kid 0) L).bind (zDo (p.kid 1) u)else none)
 else if u.kind=zM4 p.kind then some L else none:=by
 cases p with
 |mk k f t m n s ks=>
  rw[zDo]
  simp only[Pt.kind,Pt.kids,Pt.name]at h⊢
  by_cases h1:k=1
  ·simp[h1]
  by_cases h2:k=2
  ·simp[h2]
  have two:∀(a b:Pt) (us:List Ty) (x y:Ty),us.headD default=x->us.tail.headD default=y->zDp [a,b] us L=(zDo a x L).bind (zDo b y):=by
   intro a b us x y e0 e1
   simp only[zDp,e0,e1]
   cases zDo a x L with
   |none=>rfl
   |some L'=>simp only[Option.bind_some];cases zDo b y L'<;>rfl
  have e0:u.kids.headD default=u.kid 0:=by cases u with|mk k n l=>cases l<;>rfl
  have e1:u.kids.tail.headD default=u.kid 1:=by
   cases u with
   |mk k n l=>
    rcases l with _|⟨x,_|⟨y,l⟩⟩<;>rfl
  by_cases h7:k=7
  ·match ks,h (.inl h7)with
   | [a,b],_=>simp only[h7,if_true,if_false,Int.reduceEq,two a b _ _ _ e0 e1];rfl
  by_cases h9:k=9
  ·match ks,h (.inr h9)with
   | [a,b],_=>simp only[h9,if_true,if_false,Int.reduceEq,two a b [u.kid 0,u] _ _ rfl rfl];rfl
  simp only[h1,h2,h7,h9,if_false];rfl
theorem zCl{u:Ty}(hr:right u=true)(h:u.kind=7):u.kids.length=2/\right (u.kid 0)=true/\right (u.kid 1)=true:=by
 have h1:=zT0 hr
 rw[h]at h1
 have h2:u.kids.length=2:=by have:=h1.1;simp[arity]at this;omega
 exact⟨h2,h1.2 _ (zMb (by omega)),h1.2 _ (zMb (by omega))⟩
theorem zCm{u:Ty}(hr:right u=true)(h:u.kind=8):u.kids.length=1/\right (u.kid 0)=true:=by
 have h1:=zT0 hr
 rw[h]at h1
 have h2:u.kids.length=1:=by have:=h1.1;simp[arity]at this;omega
 exact⟨h2,h1.2 _ (zMb (by omega))⟩
theorem zDr:∀p:Pt,okA p=true->∀(u:Ty) (L L':List En),zDo p u L=some L'->L.length<=L'.length/\L'.length<=L.length+zV6 p:=
 Pt.ind (p:=fun p=>okA p=true->∀(u:Ty) (L L':List En),zDo p u L=some L'->L.length<=L'.length/\L'.length<=L.length+zV6 p) fun p ih hk u L L' h=>by
  obtain⟨hk,ho⟩:=zRH hk
  have hl:=zRP hk
  have hs:1<=zV6 p:=by cases p;simp[zV6]
  rw[zDq _ _ hl]at h
  have two:∀u0 u1,p.kids.length=2->(zDo (p.kid 0) u0 L).bind (zDo (p.kid 1) u1)=some L'->L.length<=L'.length/\L'.length<=L.length+zV6 p:=fun u0 u1 h2 h=>by
   obtain⟨L1,h3,h4⟩:=Option.bind_eq_some_iff.1 h
   have m0:=zSk (p:=p) (i:=0) (by omega)
   have m1:=zSk (p:=p) (i:=1) (by omega)
   have a:=ih _ m0 (ho _ m0) _ _ _ h3
   have b:=ih _ m1 (ho _ m1) _ _ _ h4
   have:=zWB h2
   omega
  split at h
  ·cases h;omega
  split at h
  ·cases h;simp;omega
  split at h
  ·rename_i h7
   split at h
   ·exact two _ _ (hl (.inl h7)) h
   ·cases h
  split at h
  ·rename_i h9
   split at h
   ·exact two _ _ (hl (.inr h9)) h
   ·cases h
  split at h
  ·cases h;omega
  ·cases h
end
section
def CBi:Cfg:= {C with zwr:=fun f=>f==56||f==999999}
theorem zAP:zAb Tryz.prog CBi:=C_ok
theorem zAO(t:Nat):CBi.inpl t=false:=rfl
theorem zAQ(t:Nat):CBi.ty t=C.ty t:=rfl
structure BindR (F:List AObj) (a:AV) (m:Option (List En)) (r:AV) (F':List AObj):Prop where
 out:∃a' es a2,r= .tup [a',.bool m.isSome]/\AccR 4 F a es a2 F'/\∀L',m=some L'->a'=a2/\es=L'.map embE
def zAD(g:FuncId)(pt:Pt)(u:Ty):Prop:=∀(L:List En) (a:AV) (F:List AObj),L.length+zV6 pt<=1000000->zAC 4 F (L.map embE) a->∃r F',zAd Tryz.prog g [embP pt,emb u,a] F r F'/\BindR F a (zDo pt u L) r F'
def bx2(pt:Pt)(u:Ty):List AObj:=[.box (cellsOf (embP pt)),.box (cellsOf (emb u))]
theorem zBV{sz:Nat}{F:List AObj}(J:List AObj)(x:AV):AccR sz F (.sl [] .full) [x] (.sl [x] (.own (F.length+J.length))) (F++(J++ [.tok 1 sz])):=
 ⟨J++ [.tok 1 sz],rfl,.inr ⟨F.length+J.length,Nat.le_add_right _ _,rfl,by simp⟩⟩
theorem zST(pt:Pt)(u:Ty)(hk:pt.kind=1):zAD 56 pt u:=by
 intro L a F hsz hacc
 have hm:zDo pt u L=some L:=by rw[zDq _ _ (by omega),if_pos hk]
 rw[hm]
 have hBE:∀j:Int,(pt.kind==j)=((1:Int)==j):=fun j=>by rw[hk]
 have hb:F.length<=F.length:=YAV _
 refine⟨.tup [a,.bool true],F++bx2 pt u,?_,⟨_,_,_,rfl,AccR.junk hacc _,fun L' h=>by cases h;exact⟨rfl,rfl⟩⟩⟩
 unfold zAd
 simp only[bx2,zGi,zGy]
 refine eE zAP Tryz.func56 Tryz.results56 fun ok=> ?_
 repeat' simp only[↓zaL,WY,yA,yB,W1,W1P,WS,zAQ,hBE]
theorem zSV(pt:Pt)(u:Ty)(hk:pt.kind=2):zAD 56 pt u:=by
 intro L a F hsz hacc
 have hm:zDo pt u L=some (L++ [(pt.name,u)]):=by rw[zDq _ _ (by omega),if_neg (by omega),if_pos hk]
 rw[hm]
 have hBE:∀j:Int,(pt.kind==j)=((2:Int)==j):=fun j=>by rw[hk]
 have hb:F.length<=F.length:=YAV _
 rcases hacc with ⟨e1,rfl⟩|⟨q,rfl,hq⟩
 ·obtain rfl:L=[]:=List.map_eq_nil_iff.1 e1
  refine⟨.tup [.sl [embE (pt.name,u)] (.own (F.length+2)),.bool true],F++(bx2 pt u++ [.tok 1 4]),?_,⟨_,_,_,rfl,zBV (bx2 pt u) _,fun L' h=>by cases h;exact⟨rfl,rfl⟩⟩⟩
  unfold zAd
  simp only[bx2,zGi,zGy]
  refine eE zAP Tryz.func56 Tryz.results56 fun ok=> ?_
  repeat' simp only[↓zaL,WY,yA,yB,yC,yD,yE,yF,W1,W1P,W1E,WS,zAQ,zAO,hBE,yK]
 ·have hql:=zIc hq
  rw[YAK]at hq
  refine⟨.tup [.sl (L.map embE++ [embE (pt.name,u)]) (.own q),.bool true],F.set q (.tok (L.length+1) 4)++bx2 pt u,?_,
   ⟨_,(L++ [(pt.name,u)]).map embE,.sl ((L++ [(pt.name,u)]).map embE) (.own q),rfl,⟨bx2 pt u,rfl,by rw[YAK,YAJ];rfl⟩,fun L' h=>by cases h;exact⟨by simp,rfl⟩⟩⟩
  unfold zAd
  simp only[bx2,zGi,zGy]
  refine eE zAP Tryz.func56 Tryz.results56 fun ok=> ?_
  repeat' simp only[↓zaL,WY,yA,yB,yC,yD,yE,yF,W1,W1P,W1E,WS,zAQ,zAO,hBE,yK,zCS hql,zCW hql,hq]
  exact⟨by omega,by omega⟩
end
section
theorem zM7{pt:Pt}{u:Ty}{L:List En}(h1:pt.kind≠1)(h2:pt.kind≠2)(h7:pt.kind≠7)(h9:pt.kind≠9):zDo pt u L=if(u.kind==zM4 pt.kind)=true then some L else none:=by
 rw[zDq _ _ (by omega),if_neg h1,if_neg h2,if_neg h7,if_neg h9]
 by_cases h:u.kind=zM4 pt.kind
 ·rw[if_pos h,if_pos (by simpa using h)]
 ·rw[if_neg h,if_neg (by simpa using h)]
theorem isS(c:Bool)(L:List En):(if c=true then some L else none).isSome=c:=by cases c<;>rfl
theorem zMG{c:Bool}{L L':List En}(h:(if c=true then some L else none)=some L'):L'=L:=by
 cases c
 ·cases h
 ·cases h;rfl
theorem zSU(pt:Pt)(u:Ty)(h1:pt.kind≠1)(h2:pt.kind≠2)(h7:pt.kind≠7)(h9:pt.kind≠9):zAD 56 pt u:=by
 intro L a F hsz hacc
 have hm:=zM7 (pt:=pt) (u:=u) (L:=L) h1 h2 h7 h9
 rw[hm]
 have b1:(pt.kind==1)=false:=by simpa using h1
 have b2:(pt.kind==2)=false:=by simpa using h2
 have b7:(pt.kind==7)=false:=by simpa using h7
 have b9:(pt.kind==9)=false:=by simpa using h9
 have hlf:=zM2 pt.kind
 rw[<-zM4]at hlf
 have hb:F.length<=F.length:=YAV _
 refine⟨.tup [a,.bool (u.kind==zM4 pt.kind)],F++bx2 pt u,?_,⟨_,_,_,by rw[isS],AccR.junk hacc _,fun L' h=>by cases zMG h;exact⟨rfl,rfl⟩⟩⟩
 unfold zAd
 simp only[bx2,zGi,zGy]
 refine eE zAP Tryz.func56 Tryz.results56 fun ok=> ?_
 repeat' (first
  |((first|apply bG|apply bH);simp only[yP,yQ];refine zIj (hlf) (.inl rfl) ?_)
  |refine drA zAP 3 0 ?_
  |skip)<;>simp only[↓zaL,WY,yA,yB,W1,W1P,WS,zAQ,b1,b2,b7,b9]
theorem zSW(pt:Pt)(u:Ty)(hl:pt.kids.length=2)(hw:(pt.kind=7/\u.kind≠7)\/(pt.kind=9/\u.kind≠8)):zAD 56 pt u:=by
 intro L a F hsz hacc
 have hm:zDo pt u L=none:=by
  rw[zDq _ _ (fun _=>hl),if_neg (by omega),if_neg (by omega)]
  by_cases h:pt.kind=7
  ·rw[if_pos h,if_neg (by omega)]
  ·rw[if_neg h,if_pos (by omega),if_neg (by omega)]
 rw[hm]
 have hb:F.length<=F.length:=YAV _
 refine⟨.tup [.sl [] .full,.bool false],F++bx2 pt u,?_,⟨_,_,_,rfl,AccR.junk hacc _,fun L' h=>by cases h⟩⟩
 unfold zAd
 simp only[bx2,zGi,zGy]
 have d:(pt.kind=7/\(u.kind !=7)=true)\/(pt.kind=9/\(u.kind !=8)=true):=by
  rcases hw with h|h
  ·exact .inl ⟨h.1,by simpa using h.2⟩
  ·exact .inr ⟨h.1,by simpa using h.2⟩
 rcases d with ⟨h,d⟩|⟨h,d⟩
 all_goals
  refine eE zAP Tryz.func56 Tryz.results56 fun ok=> ?_
  repeat' first
   |simp only[↓zaL,WY,yA,yB,W1,W1P,WS,zAQ,h,d,yK]
end
section
theorem wtwo{pt:Pt}{u u0 u1:Ty}{n:Int}(hw:(pt.kind=7/\u= .mk 7 n [u0,u1])\/(pt.kind=9/\u= .mk 8 n [u0]/\u1= .mk 8 n [u0]))(hl:pt.kids.length=2)(L:List En):zDo pt u L=(zDo (pt.kid 0) u0 L).bind (zDo (pt.kid 1) u1):=by
 rw[zDq _ _ (fun _=>hl),if_neg (by omega),if_neg (by omega)]
 rcases hw with ⟨h,rfl⟩|⟨h,rfl,rfl⟩
 ·rw[if_pos h];rfl
 ·rw[if_neg (by omega),if_pos h];rfl
theorem zSY(pt:Pt)(u u0 u1:Ty)(n:Int)(hl:pt.kids.length=2)(hw:(pt.kind=7/\u= .mk 7 n [u0,u1])\/(pt.kind=9/\u= .mk 8 n [u0]/\u1= .mk 8 n [u0]))(ho:∀x∈pt.kids,okA x=true)
 (ih:∀x∈pt.kids,∀y,y=u0\/y=u1->zAD 56 x y):zAD 56 pt u:=by
 intro L a F hsz hacc
 have hm:=wtwo hw hl L
 have hs1:zV6 (pt.kid 0)+zV6 (pt.kid 1)+1<=zV6 pt:=zWB hl
 have m0:=zSk (p:=pt) (i:=0) (by omega)
 have m1:=zSk (p:=pt) (i:=1) (by omega)
 obtain⟨p0,p1,hks⟩:∃p0 p1,pt.kids=[p0,p1]:=by
  match pt.kids,hl with
  | [p0,p1],_=>exact⟨p0,p1,rfl⟩
 have k0:pt.kid 0=p0:=by rw[Pt.kid,hks];rfl
 have k1:pt.kid 1=p1:=by rw[Pt.kid,hks];rfl
 rw[k0,k1]at hm hs1
 rw[k0]at m0
 rw[k1]at m1
 have hkm:pt.kids.map embP=[embP p0,embP p1]:=by rw[hks];rfl
 have hlen:=fun L' (h:zDo p0 u0 L=some L')=>(zDr p0 (ho _ m0) u0 L L' h).2
 obtain⟨F1,hF1⟩:∃F1,F1=F++(AObj.box (cellsOf (embP pt)):: .box (cellsOf (emb u)):: [.box (cellsOf (embP p0))]):=⟨_,rfl⟩
 have hj1:AccR 4 F a (L.map embE) a F1:=by rw[hF1];exact AccR.junk hacc _
 have hacc1:=AccR.ok hacc hj1
 have hl1:F.length<=F1.length:=by rw[hF1];simp
 obtain⟨r1,F2,d1,h1⟩:=ih _ m0 u0 (.inl rfl) L a F1 (by omega) hacc1
 obtain⟨a1,es1,a2,rfl,hr1,hy1⟩:=h1.out
 have hle2:=hr1.len
 have hb2:(∀x∈F1.take F.length,x.bel F.length=true)->∀x∈F2.take F.length,x.bel F.length=true:=fun h=>hr1.bel hacc1 (by omega) h
 have hacc2:=AccR.ok hacc1 hr1
 have hb:F.length<=F.length:=YAV _
 rw[hm]
 cases hb1:zDo p0 u0 L with
 |none=>
  rw[hb1]at d1
  refine⟨.tup [.sl [] .full,.bool false],F2,?_,⟨_,_,_,rfl,hj1.trans hacc hr1,fun L' h=>by cases h⟩⟩
  rw[hF1]at d1 hb2
  unfold zAd
  simp only[zGi,zGy,hkm,Option.isSome_none]at d1 hb2
  rcases hw with ⟨h,rfl⟩|⟨h,rfl,rfl⟩
  all_goals
   simp only[h,Ty.zMj,Ty.zQn,Ty.zMf,List.map_cons,List.map_nil]at d1 hb2
   refine eE zAP Tryz.func56 Tryz.results56 fun ok=> ?_
   repeat' first
    |refine drA zAP 15 0 ?_
    |refine drA zAP 20 0 ?_
    |refine zJ9 ?_ zAP Tryz.f56.ntmps rfl (by decide)
    |simp only[↓zaL,WY,yA,yB,yD,yE,yF,W1,W1P,WS,W3,yI,yK,yL,yM,zAQ,zAO,h,hkm,yK]
   refine zIl rfl trivial d1 (.inl rfl) (fun hb=>hb2 hb) ?_
   repeat' first
    |refine zJ9 ?_ zAP Tryz.f56.ntmps rfl (by decide)
    |simp only[↓zaL,WY,yA,yB,WS,h]
 |some L1=>
  rw[hb1]at d1
  obtain⟨rfl,rfl⟩:=hy1 L1 hb1
  have hj3:AccR 4 F2 a1 (L1.map embE) a1 (F2++ [AObj.box (cellsOf (embP p1))]):=AccR.junk hacc2 _
  have hacc3:=AccR.ok hacc2 hj3
  have hlen2:=hlen L1 hb1
  obtain⟨r2,F4,d2,h2⟩:=ih _ m1 u1 (.inr rfl) L1 a1 (F2++ [AObj.box (cellsOf (embP p1))]) (by omega) hacc3
  obtain⟨a3,es3,a4,rfl,hr2,hy2⟩:=h2.out
  have hb4:(∀x∈(F2++ [AObj.box (cellsOf (embP p1))]).take F.length,x.bel F.length=true)->∀x∈F4.take F.length,x.bel F.length=true:=fun h=>hr2.bel hacc3 (by simp;omega) h
  have hR:AccR 4 F a es3 a4 F4:=hj1.trans hacc (hr1.trans hacc1 (hj3.trans hacc2 hr2))
  have hlF:F.length<=F2.length:=by omega
  have hnF:(F2.length<F.length)=False:=by simp only[YAb,iff_false];omega
  rw[hF1]at d1 hb2
  rw[Option.bind_some]
  cases hb3:zDo p1 u1 L1 with
  |none=>
   rw[hb3]at d2
   refine⟨.tup [.sl [] .full,.bool false],F4,?_,⟨_,_,_,rfl,hR,fun L' h=>by cases h⟩⟩
   unfold zAd
   simp only[zGi,zGy,hkm,Option.isSome_some,Option.isSome_none]at d1 hb2 d2 hb4
   rcases hw with ⟨h,rfl⟩|⟨h,rfl,rfl⟩
   all_goals
    simp only[h,Ty.zMj,Ty.zQn,Ty.zMf,List.map_cons,List.map_nil]at d1 hb2
    refine eE zAP Tryz.func56 Tryz.results56 fun ok=> ?_
    repeat' first
     |refine drA zAP 15 0 ?_
     |refine drA zAP 20 0 ?_
     |refine zJ9 ?_ zAP Tryz.f56.ntmps rfl (by decide)
     |simp only[↓zaL,WY,yA,yB,yD,yE,yF,W1,W1P,WS,W3,yI,yK,yL,yM,zAQ,zAO,h,hkm,yK]
    refine zIl rfl trivial d1 (.inl rfl) (fun hb=>hb2 hb) ?_
    repeat' first
     |refine drA zAP 20 0 ?_
     |refine zJ9 ?_ zAP Tryz.f56.ntmps rfl (by decide)
     |simp only[↓zaL,WY,yA,yB,W1,W1P,WS,W3,yI,yM,zAQ,h,hlF,hnF]
    refine zIl rfl trivial d2 (.inl rfl) (fun hb=>hb4 hb) ?_
    repeat' first
     |refine zJ9 ?_ zAP Tryz.f56.ntmps rfl (by decide)
     |simp only[↓zaL,WY,yA,yB,WS,h]
  |some L2=>
   rw[hb3]at d2
   obtain⟨rfl,rfl⟩:=hy2 L2 hb3
   refine⟨.tup [a3,.bool true],F4,?_,⟨_,_,_,rfl,hR,fun L' h=>by cases h;exact⟨rfl,rfl⟩⟩⟩
   unfold zAd
   simp only[zGi,zGy,hkm,Option.isSome_some]at d1 hb2 d2 hb4
   rcases hw with ⟨h,rfl⟩|⟨h,rfl,rfl⟩
   all_goals
    simp only[h,Ty.zMj,Ty.zQn,Ty.zMf,List.map_cons,List.map_nil]at d1 hb2
    refine eE zAP Tryz.func56 Tryz.results56 fun ok=> ?_
    repeat' first
     |refine drA zAP 15 0 ?_
     |refine drA zAP 20 0 ?_
     |refine zJ9 ?_ zAP Tryz.f56.ntmps rfl (by decide)
     |simp only[↓zaL,WY,yA,yB,yD,yE,yF,W1,W1P,WS,W3,yI,yK,yL,yM,zAQ,zAO,h,hkm,yK]
    refine zIl rfl trivial d1 (.inl rfl) (fun hb=>hb2 hb) ?_
    repeat' first
     |refine drA zAP 20 0 ?_
     |refine zJ9 ?_ zAP Tryz.f56.ntmps rfl (by decide)
     |simp only[↓zaL,WY,yA,yB,W1,W1P,WS,W3,yI,yM,zAQ,h,hlF,hnF]
    refine zIl rfl trivial d2 (.inl rfl) (fun hb=>hb4 hb) ?_
    repeat' first
     |refine zJ9 ?_ zAP Tryz.f56.ntmps rfl (by decide)
     |simp only[↓zaL,WY,yA,yB,W1,WS,W3,yH,zAQ,h]
end
section
theorem zYv{u:Ty}(h:u.kids.length=2)(k:u.kind=7):u= .mk 7 u.num [u.kid 0,u.kid 1]:=by
 cases u with
 |mk k n l=>
  match l,h with
  | [a,b],_=>simp only[Ty.zMj]at k;subst k;rfl
theorem zRi{u:Ty}(h:u.kids.length=1)(k:u.kind=8):u= .mk 8 u.num [u.kid 0]:=by
 cases u with
 |mk k n l=>
  match l,h with
  | [a],_=>simp only[Ty.zMj]at k;subst k;rfl
theorem zSX:∀pt:Pt,okA pt=true->∀u:Ty,right u=true->zAD 56 pt u:=by
 refine Pt.ind fun pt ih ho u hr=> ?_
 obtain⟨hk,hks⟩:=zRH ho
 have hkd:=zRN hk
 have hl:=zRP hk
 by_cases h1:pt.kind=1
 ·exact zST pt u h1
 by_cases h2:pt.kind=2
 ·exact zSV pt u h2
 by_cases h7:pt.kind=7
 ·by_cases hu:u.kind=7
  ·obtain⟨g1,g2,g3⟩:=zCl hr hu
   exact zSY pt u (u.kid 0) (u.kid 1) u.num (hl (.inl h7)) (.inl ⟨h7,zYv g1 hu⟩) hks fun x hx y hy=>ih x hx (hks x hx) y (by rcases hy with rfl|rfl<;>assumption)
  ·exact zSW pt u (hl (.inl h7)) (.inl ⟨h7,hu⟩)
 by_cases h9:pt.kind=9
 ·by_cases hu:u.kind=8
  ·obtain⟨g1,g2⟩:=zCm hr hu
   have e:=zRi g1 hu
   exact zSY pt u (u.kid 0) (.mk 8 u.num [u.kid 0]) u.num (hl (.inr h9)) (.inr ⟨h9,e,rfl⟩) hks fun x hx y hy=>ih x hx (hks x hx) y (by rcases hy with rfl|rfl;assumption;rw[<-e];assumption)
  ·exact zSW pt u (hl (.inr h9)) (.inr ⟨h9,hu⟩)
 exact zSU pt u h1 h2 h7 h9
def zDk(p:Pt)(t:Ty):AV:=
 if chkP p=true/\right t=true then(match zDo p t []with
  |some L=> .tup [.sl (L.map embE) .no,.int .i64 0]
  |none=> .tup [.sl [] .no,.int .i64 4])
 else .tup [.sl [] .no,.int .i64 1]
theorem zDn{p:Pt}{t:Ty}(h:chkP p=true)(h':right t=true):zDk p t=match zDo p t []with
 |some L=> .tup [.sl (L.map embE) .no,.int .i64 0]
 |none=> .tup [.sl [] .no,.int .i64 4]:=by rw[zDk,if_pos ⟨h,h'⟩]
theorem zDm{p:Pt}{t:Ty}(h:¬(chkP p=true/\right t=true)):zDk p t= .tup [.sl [] .no,.int .i64 1]:=by rw[zDk,if_neg h]
theorem zDl(p:Pt)(t:Ty):(zDk p t).bel 0=true:=by
 unfold zDk
 split
 ·split<;>simp[yN,yO,zOa]
 ·simp[yN,yO]
theorem zRK{p:Pt}(h:chkP p=true):okA p=true:=by
 have:=zEk p
 rw[h]at this
 cases e:okA p with
 |true=>rfl
 |false=>rw[e]at this;simp at this
theorem bind_ok(p:Pt)(t:Ty)(hs:zV6 p<=1000000):zA0 Tryz.prog 27 [embP p,emb t] (zDk p t):=by
 have hb:∀H:List AObj,H.length<=H.length:=fun H=>YAV _
 have qp:=zEi p
 have qt:=zEj t
 have hbel:=zDl p t
 by_cases hp:chkP p=true
 ·by_cases ht:right t=true
  ·rw[zDn hp ht]at hbel⊢
   rw[if_pos hp]at qp
   rw[if_pos ht]at qt
   refine zSa C_ok Tryz.func27 rfl (by decide) (YAL rfl) (by decide) hbel fun ok H=> ?_
   rw[Tryz.results27]
   rw[zLh]
   obtain⟨F1,hF1⟩:∃F1,F1=H++ [AObj.box (cellsOf (embP p)),.box (cellsOf (emb t))]:=⟨_,rfl⟩
   obtain⟨r,F2,d,h0⟩:=zSX p (zRK hp) t ht [] (.sl [] .full) F1 (by simp only[List.length_nil];omega) (.inl ⟨rfl,rfl⟩)
   obtain⟨a1,es,a2,rfl,hac,hy⟩:=h0.out
   have hbel2:(∀x∈F1.take H.length,x.bel H.length=true)->∀x∈F2.take H.length,x.bel H.length=true:=fun h=>hac.bel (.inl ⟨rfl,rfl⟩) (by rw[hF1];simp) h
   obtain⟨hn,J,rfl⟩:=hac.out
   rw[hF1]at d hbel2
   simp only[zGi,zGy]at d hbel2
   cases hm:zDo p t []with
   |none=>
    rw[hm]at d
    simp only[Option.isSome_none]at d⊢
    repeat' (first
     |((first|apply bG|apply bH);simp only[yP,yQ,W2,W2P];first|refine zIf (qp) (.inl rfl) ?_|refine zIf (qt) (.inl rfl) ?_)
     |skip)<;>simp only[↓zaL,WY,yA,yB,W1,W1P,WS,hb,YAO]
    refine zIA d (.inl rfl) hbel2 ?_
    repeat' simp only[↓zaL,WY,yA,yB,WS]
    all_goals simp
   |some L=>
    rw[hm]at d
    obtain⟨rfl,rfl⟩:=hy L hm
    simp only[Option.isSome_some]at d⊢
    repeat' (first
     |((first|apply bG|apply bH);simp only[yP,yQ,W2,W2P];first|refine zIf (qp) (.inl rfl) ?_|refine zIf (qt) (.inl rfl) ?_)
     |skip)<;>simp only[↓zaL,WY,yA,yB,W1,W1P,WS,hb,YAO]
    refine zIA d (.inl rfl) hbel2 ?_
    repeat' simp only[↓zaL,WY,yA,yB,W1E,WS,hn]
    all_goals simp
  ·rw[zDm fun h=>ht h.2]at hbel⊢
   rw[if_pos hp]at qp
   rw[if_neg ht]at qt
   have e1:((1:Int) !=0)=true:=rfl
   refine zSa C_ok Tryz.func27 rfl (by decide) (YAL rfl) (by decide) hbel fun ok H=> ?_
   rw[Tryz.results27]
   repeat' (first
    |((first|apply bG|apply bH);simp only[yQ,W2,W2P];first|refine zIf (qp) (.inl rfl) ?_|refine zIf (qt) (.inl rfl) ?_)
    |skip)<;>simp only[↓zaL,WZ,yA,yB,W1,W1P,e1,YAO]
 ·rw[zDm fun h=>hp h.1]at hbel⊢
  rw[if_neg hp]at qp
  have e1:((1:Int) !=0)=true:=rfl
  refine zSa C_ok Tryz.func27 rfl (by decide) (YAL rfl) (by decide) hbel fun ok H=> ?_
  rw[Tryz.results27]
  repeat' (first
   |((first|apply bG|apply bH);simp only[yQ,W2P];refine zIf (qp) (.inl rfl) ?_)
   |skip)<;>simp only[↓zaL,WZ,yA,yB,W1,W1P,e1]
end
end Go.Proofs.YtdngjamjccjlmaaGreat
