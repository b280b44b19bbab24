/- Lemmas: the laws of stores, second part. No condition. -/
import Derived.Test.YtdngjamjccjlmaaGreatPWd
import Derived.Test.YtdngjamjccjlmaaGreatPCa
import Derived.Test.YtdngjamjccjlmaaGreatPSb
set_option linter.unusedSimpArgs false
set_option linter.unusedVariables false
set_option maxHeartbeats 4000000
set_option maxRecDepth 100000
namespace Go.Proofs.YtdngjamjccjlmaaGreat
open Go Go.Ab
open Nat renaming reduceEqDiff -> yA, reduceAdd -> yB, reduceLT -> yC, reduceLeDiff -> yD, reduceMul -> yE, reducePow -> yF
open Int renaming reduceAdd -> yH, reduceLT -> yI, reduceBEq -> yK, reduceLE -> yM
open AV renaming belL -> yO, bel -> yN, normL -> yQ, norm -> yP
attribute [local irreducible] zA0 zAA zAa zAi zAj GoIf GoGb zAk GoO GoD GoX GoDX GoG GoDG GoGv zAl Go zAB
section
section
variable {F : List AObj} {s r v v1 v2 : Nat} {L L1 L2 : Mem} {lim cnt cnt1 cnt2 rd : Int}
theorem zS4(hs:s<F.length)(hr:r<F.length)(hne:r≠s)(k n:Int)(w:IntKind.wrap .i64 (k-1)=k-1):zAd Tryz.prog 59 [.bptr s 0,emb (.mk k n [])] (hpS F s r v L lim cnt rd) (.int .i64 (k-1)) (hpS F s r v L lim cnt rd):=by
 unfold zAd
 refine eD C_ok Tryz.func59 Tryz.results59 fun ok=> ?_
 repeat' (first
  |refine zJ9 ?_ C_ok Tryz.f59.ntmps rfl (by decide)
  |skip)<;>simp only[↓zaL,WY,yA,yB,W1,WS,W3,hpS,bxS,arS,stP hs hr hne,zTh,yN,w]
theorem zTC(hs:s<F.length)(hr:r<F.length)(hne:r≠s){x y:Ty}{i j:Nat}(k n:Int)
 (i1:∀F:List AObj,s<F.length->r<F.length->zAd Tryz.prog 59 [.bptr s 0,emb x] (hpS F s r v L lim cnt rd) (.int .i64 i) (hpS F s r v1 L1 lim cnt1 rd))
 (i2:∀F:List AObj,s<F.length->r<F.length->zAd Tryz.prog 59 [.bptr s 0,emb y] (hpS F s r v1 L1 lim cnt1 rd) (.int .i64 j) (hpS F s r v2 L2 lim cnt2 rd))
 (hL:L2.length<=1000000) (hc:0<=cnt2/\cnt2<=1000000):
 zAd Tryz.prog 59 [.bptr s 0,emb (.mk k n [x,y])] (hpS F s r v L lim cnt rd) (.int .i64 L2.length) (hpS F s r (v2+1) (L2++ [(⟨k,0,none,[i,j]⟩,0)]) lim (cnt2+1) rd):=by
 unfold zAd
 refine eD C_ok Tryz.func59 Tryz.results59 fun ok=> ?_
 repeat' (first
  |((first|apply bG|apply bH);simp only[yP,yQ,W2];first|refine zIA (i1 _ (by first|exact hs|simp<;>omega) (by first|exact hr|simp<;>omega)) (.inl rfl) (fun hb=>zLV (by first|exact hs|simp<;>omega) (by first|exact hr|simp<;>omega) hne hb) ?_|refine zIA (i2 _ (by first|exact hs|simp<;>omega) (by first|exact hr|simp<;>omega)) (.inl rfl) (fun hb=>zLV (by first|exact hs|simp<;>omega) (by first|exact hr|simp<;>omega) hne hb) ?_|refine zIA (zBk (by first|exact hs|simp<;>omega) (by first|exact hr|simp<;>omega) hne k 0 0 0 [i,j] hL hc) (.inl rfl) (fun hb=>zLV (by first|exact hs|simp<;>omega) (by first|exact hr|simp<;>omega) hne hb) ?_)
  |refine zJ9 ?_ C_ok Tryz.f59.ntmps rfl (by decide)
  |skip)<;>simp only[↓zaL,WY,yA,yB,yD,reduceCtorEq,yE,yF,W1,WS,W3,yH,yI,yK,yM,hpS,bxS,arS,stP hs hr hne,zTh,yN,zGx,implies_true]
theorem zS8(hs:s<F.length)(hr:r<F.length)(hne:r≠s){x:Ty}{i:Nat}(k n:Int)
 (i1:∀F:List AObj,s<F.length->r<F.length->zAd Tryz.prog 59 [.bptr s 0,emb x] (hpS F s r v L lim cnt rd) (.int .i64 i) (hpS F s r v1 L1 lim cnt1 rd))
 (hL:L1.length<=1000000) (hc:0<=cnt1/\cnt1<=1000000):
 zAd Tryz.prog 59 [.bptr s 0,emb (.mk k n [x])] (hpS F s r v L lim cnt rd) (.int .i64 L1.length) (hpS F s r (v1+1) (L1++ [(⟨k,0,none,[i]⟩,0)]) lim (cnt1+1) rd):=by
 unfold zAd
 refine eD C_ok Tryz.func59 Tryz.results59 fun ok=> ?_
 repeat' (first
  |((first|apply bG|apply bH);simp only[yP,yQ,W2];first|refine zIA (i1 _ (by first|exact hs|simp<;>omega) (by first|exact hr|simp<;>omega)) (.inl rfl) (fun hb=>zLV (by first|exact hs|simp<;>omega) (by first|exact hr|simp<;>omega) hne hb) ?_|refine zIA (zBk (by first|exact hs|simp<;>omega) (by first|exact hr|simp<;>omega) hne k 0 0 0 [i] hL hc) (.inl rfl) (fun hb=>zLV (by first|exact hs|simp<;>omega) (by first|exact hr|simp<;>omega) hne hb) ?_)
  |refine zJ9 ?_ C_ok Tryz.f59.ntmps rfl (by decide)
  |skip)<;>simp only[↓zaL,WY,yA,yB,yD,reduceCtorEq,yE,yF,W1,WS,W3,yI,yK,yM,hpS,bxS,arS,stP hs hr hne,zTh,yN,zGx,implies_true]
end
theorem zW4{s r:Nat}{lim rd:Int}(hne:r≠s):∀(t:T) (F:List AObj) (v:Nat) (L:Mem) (cnt:Int),s<F.length->r<F.length->t.closed=true->L.length+t.inner<=1000000->0<=cnt->cnt+t.inner<=1000000->
 zAd Tryz.prog 59 [.bptr s 0,emb t.ty] (hpS F s r v L lim cnt rd) (.int .i64 ((putM t L).2:Nat)) (hpS F s r (v+t.inner) (putM t L).1 lim (cnt+(t.inner:Nat)) rd):=by
 intro t
 induction t with
 |base k=>
  intro F v L cnt hs hr hcl h1 h2 h3
  have:=zS4 (v:=v) (L:=L) (lim:=lim) (cnt:=cnt) (rd:=rd) hs hr hne (k.val+1) 0 (zbT (by omega) (by omega))
  rw[show((k.val:Int)+1-1)=(k.val:Int)by omega]at this
  simpa only[T.ty,putM,T.inner,Int.natCast_zero,Int.add_zero,Nat.add_zero]using this
 |dyn=>
  intro F v L cnt hs hr hcl h1 h2 h3
  have:=zS4 (v:=v) (L:=L) (lim:=lim) (cnt:=cnt) (rd:=rd) hs hr hne 5 0 (zbT (by omega) (by omega))
  rw[show(5:Int)-1=((4:Nat):Int)by decide]at this
  simpa only[T.ty,putM,T.inner,Int.natCast_zero,Int.add_zero,Nat.add_zero]using this
 |var n=>intro F v L cnt hs hr hcl;cases hcl
 |pair a b ih1 ih2=>
  intro F v L cnt hs hr hcl h1 h2 h3
  simp only[T.closed,YAA]at hcl
  simp only[T.inner]at h1 h3
  have l1:=zSl a L
  have l2:=zSl b (putM a L).1
  have:=zTC (F:=F) (s:=s) (r:=r) hs hr hne 7 0 (fun F hs hr=>ih1 F v L cnt hs hr hcl.1 (by omega) h2 (by omega)) (fun F hs hr=>ih2 F (v+a.inner) (putM a L).1 (cnt+(a.inner:Nat)) hs hr hcl.2 (by omega) (by omega) (by omega)) (by omega) ⟨by omega,by omega⟩
  rw[show v+a.inner+b.inner+1=v+(a.inner+b.inner+1)by omega,show cnt+(a.inner:Nat)+(b.inner:Nat)+1=cnt+((a.inner+b.inner+1:Nat):Int)by omega]at this
  exact this
 |fn a b ih1 ih2=>
  intro F v L cnt hs hr hcl h1 h2 h3
  simp only[T.closed,YAA]at hcl
  simp only[T.inner]at h1 h3
  have l1:=zSl a L
  have l2:=zSl b (putM a L).1
  have:=zTC (F:=F) (s:=s) (r:=r) hs hr hne 9 0 (fun F hs hr=>ih1 F v L cnt hs hr hcl.1 (by omega) h2 (by omega)) (fun F hs hr=>ih2 F (v+a.inner) (putM a L).1 (cnt+(a.inner:Nat)) hs hr hcl.2 (by omega) (by omega) (by omega)) (by omega) ⟨by omega,by omega⟩
  rw[show v+a.inner+b.inner+1=v+(a.inner+b.inner+1)by omega,show cnt+(a.inner:Nat)+(b.inner:Nat)+1=cnt+((a.inner+b.inner+1:Nat):Int)by omega]at this
  exact this
 |list a ih1=>
  intro F v L cnt hs hr hcl h1 h2 h3
  simp only[T.closed]at hcl
  simp only[T.inner]at h1 h3
  have l1:=zSl a L
  have:=zS8 (F:=F) (s:=s) (r:=r) hs hr hne 8 0 (fun F hs hr=>ih1 F v L cnt hs hr hcl (by omega) h2 (by omega)) (by omega) ⟨by omega,by omega⟩
  rw[show v+a.inner+1=v+(a.inner+1)by omega,show cnt+(a.inner:Nat)+1=cnt+((a.inner+1:Nat):Int)by omega]at this
  exact this
section
variable {F : List AObj} {s r v : Nat} {L : Mem} {lim cnt rd : Int}
theorem zSz(hs:s<F.length)(hr:r<F.length)(hne:r≠s)(t:T)(ho:t.ok=true)(hcl:t.closed=true)(hc:0<=cnt/\cnt<=lim/\lim<=65536)(hL:L.length+t.inner<=1000000)(h:(t.inner:Int)<=lim-cnt):zAd Tryz.prog 29 [.bptr s 0,emb t.ty] (hpS F s r v L lim cnt rd) (.tup [.int .i64 ((putM t L).2:Nat),.int .i64 0]) (hpS F s r (v+t.inner) (putM t L).1 lim (cnt+(t.inner:Nat)) rd):=by
 obtain⟨m,hm⟩:∃m:Nat,lim-cnt=(m:Int):=⟨(lim-cnt).toNat,by omega⟩
 have w1:IntKind.wrap .i64 (lim-cnt)=(m:Int):=by rw[zbT (by omega) (by omega)];exact hm
 have q:=zOP t m (by omega) (by omega)
 have h0:=zOI t m
 have hlt:¬m<zOH t m:=by omega
 have h1:right t.ty=true:=by rw[T.zT5];exact ho
 have h2:without 6 t.ty=true:=by rw[T.zEw];exact hcl
 have q2:=fun F hs hr=>zW4 (s:=s) (r:=r) (lim:=lim) (rd:=rd) hne t F v L cnt hs hr hcl hL hc.1 (by omega)
 unfold zAd
 refine eD C_ok Tryz.func29 Tryz.results29 fun ok=> ?_
 repeat' (first
  |((first|apply bG|apply bH);simp only[yP,yQ,W2];first|refine zIf (zEj t.ty) (.inl rfl) ?_|refine zIf (zEu t.ty) (.inl rfl) ?_|refine zIj (q) (.inl rfl) ?_|refine zIA (q2 _ (by first|exact hs|simp<;>omega) (by first|exact hr|simp<;>omega)) (.inl rfl) (fun hb=>zLV (by first|exact hs|simp<;>omega) (by first|exact hr|simp<;>omega) hne hb) ?_)
  |refine drA C_ok 3 0 ?_
  |skip)<;>simp only[↓zaL,WY,yA,yB,yC,reduceCtorEq,W1,WS,hpS,bxS,arS,stP hs hr hne,zTh,yN,h1,h2,w1,hlt,yO,if_true,YAO]
end
end
section
theorem zSo{rd:Int}(t:T)(L:Mem)(h:SI L rd)(hc:t.closed=true):SI (putM t L).1 rd/\(putM t L).2<(putM t L).1.length/\(putM t L).1.st.tree (putM t L).2=t.ty:=by
 have h1:=zSp t L
 have h2:=zSr t L.st h.wf hc
 rw[<-h1.1,<-h1.2]at h2
 exact⟨⟨h2.wf,zSm h.rd0 t L h.mb,h.rd0⟩,by have:=h2.lt;rwa[Mem.zXR]at this,h2.tree⟩
theorem zYQ{G F H:List AObj}{b:Nat}(ht:G.take F.length=F)(hb:b<=F.length)(h:F.take b=H):G.take b=H:=by
 have e:(G.take F.length).take b=G.take b:=by rw[List.take_take,Nat.min_eq_left hb]
 rw[<-e,ht,h]
end
section
def zOJ(lvl:Int):T->Mem->List (Int×Int)->Mem×List (Int×Int)×Nat
 | .var k,S,vs=>match mget vs k with
  |some n=>(S,vs,n.toNat)
  |none=>(S++ [(⟨6,lvl,none,[]⟩,0)],mput vs k S.length,S.length)
 | .base k,S,vs=>(S,vs,k.val)
 | .dyn,S,vs=>(S,vs,4)
 | .pair a b,S,vs=>let p:=zOJ lvl a S vs;let q:=zOJ lvl b p.1 p.2.1;(q.1++ [(⟨7,0,none,[p.2.2,q.2.2]⟩,0)],q.2.1,q.1.length)
 | .fn a b,S,vs=>let p:=zOJ lvl a S vs;let q:=zOJ lvl b p.1 p.2.1;(q.1++ [(⟨9,0,none,[p.2.2,q.2.2]⟩,0)],q.2.1,q.1.length)
 | .list a,S,vs=>let p:=zOJ lvl a S vs;(p.1++ [(⟨8,0,none,[p.2.2]⟩,0)],p.2.1,p.1.length)
theorem zd9{F:List AObj}{b m:Nat}{X:AObj}(hX:X.bel b=true)(h:∀x∈F.take b,x.bel b=true):∀x∈(F.set m X).take b,x.bel b=true:=by
 intro x hx
 rw[List.take_set]at hx
 rcases List.mem_or_eq_of_mem_set hx with hx|rfl
 ·exact h x hx
 ·exact hX
section
variable {F : List AObj} {s r m : Nat}
theorem zeS{J:List AObj}{X Y:AObj}{bx ar:AObj}(hm:m<F.length)(hsm:s≠m)(hrm:r≠m):(stF (F.set m X++J) s r bx ar).set m Y=stF (F.set m Y++J) s r bx ar:=by
 rw[zXG hsm hrm,zCW (by simpa using hm),List.set_set]
theorem zeR{J:List AObj}{X:AObj}{bx ar:AObj}(hm:m<F.length)(hsm:s≠m)(hrm:r≠m):(stF (F.set m X++J) s r bx ar)[m]?=some X:=by
 rw[zXC hsm hrm,YAG (by simpa using hm),zVl hm]
theorem zeP{J:List AObj}{X Y:AObj}{v v' b:Nat}{L L':Mem}{lim cnt rd lim' cnt' rd':Int}(hm:m<F.length)(hsm:s≠m)(hrm:r≠m)(hs:s<F.length)(hr:r<F.length)(hne:r≠s)(hY:Y.bel b=true)
 (h:∀x∈(hpS (F.set m X++J) s r v L lim cnt rd).take b,x.bel b=true):∀x∈(hpS (F.set m Y++J) s r v' L' lim' cnt' rd').take b,x.bel b=true:=by
 have h1:=zLV (v':=v') (L':=L') (lim':=lim') (cnt':=cnt') (rd':=rd') (F:=F.set m X++J) (by simp;omega) (by simp;omega) hne h
 have h2:=zd9 (m:=m) hY h1
 unfold hpS at h2⊢
 rwa[zeS hm hsm hrm]at h2
theorem zeQ{X Y:AObj}{v v' b:Nat}{L L':Mem}{lim cnt rd lim' cnt' rd':Int}(hm:m<F.length)(hsm:s≠m)(hrm:r≠m)(hs:s<F.length)(hr:r<F.length)(hne:r≠s)(hY:Y.bel b=true)
 (h:∀x∈(hpS (F.set m X) s r v L lim cnt rd).take b,x.bel b=true):∀x∈(hpS (F.set m Y) s r v' L' lim' cnt' rd').take b,x.bel b=true:=by
 have h1:=zeP (J:=[]) (X:=X) (Y:=Y) (v:=v) (v':=v') (L:=L) (L':=L') (lim:=lim) (cnt:=cnt) (rd:=rd) (lim':=lim') (cnt':=cnt') (rd':=rd') (b:=b) hm hsm hrm hs hr hne hY
 simp only[List.append_nil]at h1
 exact h1 h
theorem stPN{G:List AObj}{N:Nat}(hN:G.length=N)(hs:s<N)(hr:r<N)(hne:r≠s):
 (∀bx ar,(stF G s r bx ar).length=N)/\(∀L bx ar,(stF (G++L) s r bx ar).length=N+L.length)/\
 (∀L bx ar,stF G s r bx ar++L=stF (G++L) s r bx ar)/\(∀L M bx ar,stF (G++L) s r bx ar++M=stF (G++(L++M)) s r bx ar)/\
 (∀bx ar,(stF G s r bx ar)[s]?=some bx)/\(∀L bx ar,(stF (G++L) s r bx ar)[s]?=some bx)/\
 (∀bx ar,(stF G s r bx ar)[r]?=some ar)/\(∀L bx ar,(stF (G++L) s r bx ar)[r]?=some ar)/\
 (∀G bx ar x,(stF G s r bx ar).set s x=stF G s r x ar)/\(∀G bx ar x,(stF G s r bx ar).set r x=stF G s r bx x)/\
 (∀L bx ar,(stF (G++L) s r bx ar)[N]?=L[0]?)/\(∀L j bx ar,(stF (G++L) s r bx ar)[N+j]?=L[j]?)/\
 (∀L bx ar x,(stF (G++L) s r bx ar).set N x=stF (G++L.set 0 x) s r bx ar)/\(∀L j bx ar x,(stF (G++L) s r bx ar).set (N+j) x=stF (G++L.set j x) s r bx ar)/\
 (∀bx ar,(stF G s r bx ar).take N=stF G s r bx ar)/\(∀L bx ar,(stF (G++L) s r bx ar).take N=stF G s r bx ar)/\
 (∀bx ar,((N<=(stF G s r bx ar).length)=True))/\(∀L bx ar,((N<=(stF (G++L) s r bx ar).length)=True)):=by
 subst hN;exact stP hs hr hne
def zAs(s r m:Nat)(lim rd lvl:Int)(t:Ty)(v:Nat)(L:Mem)(cnt:Int)(Z:List (Int×Int))(v':Nat)(L':Mem)(cnt':Int)(Z':List (Int×Int))(n:Nat):Prop:=
 ∀F:List AObj,s<F.length->r<F.length->m<F.length->zAd Tryz.prog 10 [.bptr s 0,emb t,.int .i64 lvl,.mp m] (hpS (F.set m (.map (embM Z))) s r v L lim cnt rd) (.tup [.int .i64 n,.int .i64 0]) (hpS (F.set m (.map (embM Z'))) s r v' L' lim cnt' rd)
theorem zAs.at{lim rd lvl:Int}{t:Ty}{v:Nat}{L:Mem}{cnt:Int}{Z:List (Int×Int)}{v':Nat}{L':Mem}{cnt':Int}{Z':List (Int×Int)}{n:Nat}(h:zAs s r m lim rd lvl t v L cnt Z v' L' cnt' Z' n)(hs:s<F.length)(hr:r<F.length)(hm:m<F.length)(J:List AObj):
 zAd Tryz.prog 10 [.bptr s 0,emb t,.int .i64 lvl,.mp m] (hpS (F.set m (.map (embM Z))++J) s r v L lim cnt rd) (.tup [.int .i64 n,.int .i64 0]) (hpS (F.set m (.map (embM Z'))++J) s r v' L' lim cnt' rd):=by
 have:=h (F++J) (zN3 hs) (zN3 hr) (zN3 hm)
 rwa[zCW hm,zCW hm]at this
end
section
variable {s r m v v1 v2 : Nat} {L L1 L2 : Mem} {lim cnt cnt1 cnt2 rd lvl : Int} {Z Z1 Z2 : List (Int × Int)}
theorem zen(hne:r≠s)(hsm:s≠m)(hrm:r≠m){k:Int}(hk:1<=k/\k<=5){i:Nat}(hi:k-1=(i:Int)):zAs s r m lim rd lvl (.mk k 0 []) v L cnt Z v L cnt Z i:=by
 intro F hs hr hm
 have hp:=fun X:AObj=>stPN (G:=F.set m X) (s:=s) (r:=r) List.length_set hs hr hne
 have c6:(k==6)=false:=by rw[YAZ];omega
 have c7:(k==7)=false:=by rw[YAZ];omega
 have c8:(k==8)=false:=by rw[YAZ];omega
 have c9:(k==9)=false:=by rw[YAZ];omega
 have w:IntKind.wrap .i64 (k-1)=(i:Int):=by rw[zbT (by omega) (by omega)];exact hi
 unfold zAd
 refine eD C_ok Tryz.func10 Tryz.results10 fun ok=> ?_
 repeat' simp only[↓zaL,WY,yA,yB,W1,WS,hpS,bxS,arS,hp,zTh,yN,yO,c6,c7,c8,c9,w]
theorem zer(hne:r≠s)(hsm:s≠m)(hrm:r≠m){k:Int}{n:Nat}(hg:mget Z k=some (n:Int)):zAs s r m lim rd lvl (.mk 6 k []) v L cnt Z v L cnt Z n:=by
 intro F hs hr hm
 have hp:=fun X:AObj=>stPN (G:=F.set m X) (s:=s) (r:=r) List.length_set hs hr hne
 have hmG:=fun J X bx ar=>zeR (F:=F) (J:=J) (X:=X) (bx:=bx) (ar:=ar) hm hsm hrm
 unfold zAd
 refine eD C_ok Tryz.func10 Tryz.results10 fun ok=> ?_
 repeat' simp only[↓zaL,WY,yA,yB,yC,W1,WS,hpS,bxS,arS,hp,hmG,zTh,yN,yO,zHe,zHx,zPN,zMT,hg,Option.getD_some]
theorem zeq(hne:r≠s)(hsm:s≠m)(hrm:r≠m){k:Int}(hg:mget Z k=none)(hlv:¬lvl<0)(hc:(cnt==lim)=false)(hL:L.length<=1000000)(hc':0<=cnt/\cnt<=1000000):
 zAs s r m lim rd lvl (.mk 6 k []) v L cnt Z (v+1) (L++ [varN lvl]) (cnt+1) (mput Z k L.length) L.length:=by
 intro F hs hr hm
 have hp:=fun X:AObj=>stPN (G:=F.set m X) (s:=s) (r:=r) List.length_set hs hr hne
 have hmG:=fun J X bx ar=>zeR (F:=F) (J:=J) (X:=X) (bx:=bx) (ar:=ar) hm hsm hrm
 have hmS:=fun J X Y bx ar=>zeS (F:=F) (J:=J) (X:=X) (Y:=Y) (bx:=bx) (ar:=ar) hm hsm hrm
 unfold zAd
 refine eD C_ok Tryz.func10 Tryz.results10 fun ok=> ?_
 repeat' (first
  |((first|apply bG|apply bH);simp only[yP,yQ];refine zIA (var_ok (by first|exact hs|simp<;>omega) (by first|exact hr|simp<;>omega) hne lvl hlv hc hL hc') (.inl rfl) (fun hb=>zLV (by first|exact hs|simp<;>omega) (by first|exact hr|simp<;>omega) hne hb) ?_)
  |skip)<;>simp only[↓zaL,WY,yA,yB,yC,reduceCtorEq,W1,WS,hpS,bxS,arS,hp,hmG,hmS,zTh,yN,yO,implies_true,zHe,zHx,zPN,zOl,zMT,hg,Option.getD_none,Option.isSome_none]
theorem zep(hne:r≠s)(hsm:s≠m)(hrm:r≠m){k:Int}{x y:Ty}{i j:Nat}(hk:k=7\/k=9)(h1:zAs s r m lim rd lvl x v L cnt Z v1 L1 cnt1 Z1 i)(h2:zAs s r m lim rd lvl y v1 L1 cnt1 Z1 v2 L2 cnt2 Z2 j)
 (hi:i<L2.length) (hj:j<L2.length) (hc:(cnt2==lim)=false) (hL:L2.length<=1000000) (hc':0<=cnt2/\cnt2<=1000000):
 zAs s r m lim rd lvl (.mk k 0 [x,y]) v L cnt Z (v2+1) (L2++ [(⟨k,0,none,[i,j]⟩,0)]) (cnt2+1) Z2 L2.length:=by
 intro F hs hr hm
 have hp:=fun X:AObj=>stPN (G:=F.set m X) (s:=s) (r:=r) List.length_set hs hr hne
 have c6:(k==6)=false:=by rw[YAZ];omega
 unfold zAd
 rcases hk with rfl|rfl
 ·refine eD C_ok Tryz.func10 Tryz.results10 fun ok=> ?_
  repeat' (first
   |((first|apply bG|apply bH);simp only[yP,yQ,W2];first|refine zIA (h1.at hs hr hm _) (.inl rfl) (fun hb=>by first|exact zeP hm hsm hrm hs hr hne (zGW _ _) hb|exact zeQ hm hsm hrm hs hr hne (zGW _ _) hb) ?_|refine zIA (h2.at hs hr hm _) (.inl rfl) (fun hb=>by first|exact zeP hm hsm hrm hs hr hne (zGW _ _) hb|exact zeQ hm hsm hrm hs hr hne (zGW _ _) hb) ?_|refine zIA (make_ok (by first|exact hs|simp<;>omega) (by first|exact hr|simp<;>omega) hne 7 i j (.inl rfl) hi hj hc hL hc') (.inl rfl) (fun hb=>zLV (by first|exact hs|simp<;>omega) (by first|exact hr|simp<;>omega) hne hb) ?_)
   |refine zJ9 ?_ C_ok Tryz.f10.ntmps rfl (by decide)
   |skip)<;>simp only[↓zaL,WY,yA,yB,reduceCtorEq,W1,WS,W3,yI,yM,hpS,bxS,arS,hp,zTh,yN,yO,c6,YAO,YAQ]
 ·refine eD C_ok Tryz.func10 Tryz.results10 fun ok=> ?_
  repeat' (first
   |((first|apply bG|apply bH);simp only[yP,yQ,W2];first|refine zIA (h1.at hs hr hm _) (.inl rfl) (fun hb=>by first|exact zeP hm hsm hrm hs hr hne (zGW _ _) hb|exact zeQ hm hsm hrm hs hr hne (zGW _ _) hb) ?_|refine zIA (h2.at hs hr hm _) (.inl rfl) (fun hb=>by first|exact zeP hm hsm hrm hs hr hne (zGW _ _) hb|exact zeQ hm hsm hrm hs hr hne (zGW _ _) hb) ?_|refine zIA (make_ok (by first|exact hs|simp<;>omega) (by first|exact hr|simp<;>omega) hne 9 i j (.inr rfl) hi hj hc hL hc') (.inl rfl) (fun hb=>zLV (by first|exact hs|simp<;>omega) (by first|exact hr|simp<;>omega) hne hb) ?_)
   |refine zJ9 ?_ C_ok Tryz.f10.ntmps rfl (by decide)
   |skip)<;>simp only[↓zaL,WY,yA,yB,reduceCtorEq,W1,WS,W3,yI,yK,yM,hpS,bxS,arS,hp,zTh,yN,yO,c6,YAO,YAQ]
theorem zeo(hne:r≠s)(hsm:s≠m)(hrm:r≠m){x:Ty}{i:Nat}(h1:zAs s r m lim rd lvl x v L cnt Z v1 L1 cnt1 Z1 i)
 (hi:i<L1.length) (hc:(cnt1==lim)=false) (hL:L1.length<=1000000) (hc':0<=cnt1/\cnt1<=1000000):
 zAs s r m lim rd lvl (.mk 8 0 [x]) v L cnt Z (v1+1) (L1++ [(⟨8,0,none,[i]⟩,0)]) (cnt1+1) Z1 L1.length:=by
 intro F hs hr hm
 have hp:=fun X:AObj=>stPN (G:=F.set m X) (s:=s) (r:=r) List.length_set hs hr hne
 unfold zAd
 refine eD C_ok Tryz.func10 Tryz.results10 fun ok=> ?_
 repeat' (first
  |((first|apply bG|apply bH);simp only[yP,yQ,W2];first|refine zIA (h1.at hs hr hm _) (.inl rfl) (fun hb=>by first|exact zeP hm hsm hrm hs hr hne (zGW _ _) hb|exact zeQ hm hsm hrm hs hr hne (zGW _ _) hb) ?_|refine zIA (make_list (by first|exact hs|simp<;>omega) (by first|exact hr|simp<;>omega) hne i i hi hc hL hc') (.inl rfl) (fun hb=>zLV (by first|exact hs|simp<;>omega) (by first|exact hr|simp<;>omega) hne hb) ?_)
  |refine zJ9 ?_ C_ok Tryz.f10.ntmps rfl (by decide)
  |skip)<;>simp only[↓zaL,WY,yA,yB,reduceCtorEq,W1,WS,W3,yI,yK,hpS,bxS,arS,hp,zTh,yN,yO,YAO,YAQ]
end
end
section
section
variable {F : List AObj} {s r v : Nat} {L : Mem} {lim cnt rd : Int}
theorem static_in(hs:s<F.length)(hr:r<F.length)(hne:r≠s)(hw:Wf L.st)(hm:MB L rd)(hL:L.length<=1000000)(hrd:0<=rd/\rd<=1000000000000)(n:Nat)(hn:n<L.length):
 zAd Tryz.prog 47 [.bptr s 0,.int .i64 n] (hpS F s r v L lim cnt rd) (.bool (!decide (4∈L.st.all n))) (hpS F s r v (mkL L (rd+1) (L.st.all n)) lim cnt (rd+1)):=by
 have q1:=zMI (v:=v) (L:=L) (lim:=lim) (cnt:=cnt) (rd:=rd) hs hr hne hn
 have q3:=zUT (v:=v) (lim:=lim) (cnt:=cnt) hs hr hne hw hm hL hrd n hn
 have q5:=zFI (kidI (L.st.all n)) 4
 rw[show decide ((4:Int)∈kidI (L.st.all n))=decide (4∈L.st.all n)by rw[decide_eq_decide];exact zPF (n:=4)]at q5
 unfold zAd
 refine eD C_ok Tryz.func47 Tryz.results47 fun ok=> ?_
 repeat' (first
  |((first|apply bG|apply bH);simp only[yP,yQ,zLz];first|refine zIf (q5) (.inl rfl) ?_|refine zIB (q1) (.inl rfl) ?_|refine zIA (q3) (.inl rfl) (fun hb=>zLV (by first|exact hs|simp<;>omega) (by first|exact hr|simp<;>omega) hne hb) ?_)
  |skip)<;>simp only[↓zaL,WY,yA,reduceCtorEq,WS,hpS,bxS,arS,stP hs hr hne,zTh,yN]
theorem zAq(hs:s<F.length)(hr:r<F.length)(hne:r≠s)(hw:Wf L.st)(hm:MB L rd)(hL:L.length<=1000000)(hrd:0<=rd/\rd<=1000000000000)(n:Nat)(hn:n<L.length){lv:Int}(hlv:¬lv<0):
 zAd Tryz.prog 94 [.bptr s 0,.int .i64 n,.int .i64 lv] (hpS F s r v L lim cnt rd) (.int .i64 0) (hpS F s r v (lowL (mkL L (rd+1) (L.st.all n)) lv (L.st.vars n)) lim cnt (rd+1)):=by
 have q1:=zMI (v:=v) (L:=L) (lim:=lim) (cnt:=cnt) (rd:=rd) hs hr hne hn
 have q3:=zN1 (v:=v) (lim:=lim) (cnt:=cnt) hs hr hne hw hm hL hrd n hn lv
 generalize lowL (mkL L (rd+1) (L.st.all n)) lv (L.st.vars n)=M at*
 unfold zAd
 refine eD C_ok Tryz.func94 Tryz.results94 fun ok=> ?_
 repeat' (first
  |((first|apply bG|apply bH);simp only[yP,yQ];first|refine zIB (q1) (.inl rfl) ?_|refine zIA (q3) (.inl rfl) (fun hb=>zLV (by first|exact hs|simp<;>omega) (by first|exact hr|simp<;>omega) hne hb) ?_)
  |skip)<;>simp only[↓zaL,WY,yA,reduceCtorEq,W1,WS,hpS,bxS,arS,stP hs hr hne,zTh,yN,hlv]
end
end
section
theorem zAs.loc{s r j:Nat}{lim rd lvl:Int}{t:Ty}{v:Nat}{L:Mem}{cnt:Int}{Z:List (Int×Int)}{v':Nat}{L':Mem}{cnt':Int}{Z':List (Int×Int)}{n:Nat}{G:List AObj}(h:zAs s r (G.length+j) lim rd lvl t v L cnt Z v' L' cnt' Z' n)
 (hs:s<G.length) (hr:r<G.length) (J J':List AObj) (hj:j<J.length) (e1:J.set j (.map (embM Z))=J) (e2:J.set j (.map (embM Z'))=J'):
 zAd Tryz.prog 10 [.bptr s 0,emb t,.int .i64 lvl,.mp (G.length+j)] (hpS (G++J) s r v L lim cnt rd) (.tup [.int .i64 n,.int .i64 0]) (hpS (G++J') s r v' L' lim cnt' rd):=by
 have:=h (G++J) (zN3 hs) (zN3 hr) (by simp;omega)
 rw[zCY rfl,zCY rfl,e1,e2]at this
 exact this
end
end Go.Proofs.YtdngjamjccjlmaaGreat
