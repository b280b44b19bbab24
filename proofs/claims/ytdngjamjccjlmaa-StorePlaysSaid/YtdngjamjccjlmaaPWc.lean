/- Lemmas: the functions of stores, third part. No condition. -/
import Derived.Test.YtdngjamjccjlmaaPSb
import Derived.Test.YtdngjamjccjlmaaPWb
import Derived.Test.YtdngjamjccjlmaaPWa
set_option linter.unusedSimpArgs false
set_option linter.unusedVariables false
set_option maxHeartbeats 4000000
set_option maxRecDepth 100000
namespace Go.Proofs.Ytdngjamjccjlmaa
open Go Go.Ab
open Nat renaming reduceEqDiff -> yA, reduceAdd -> yB, reduceLT -> yC, reduceLeDiff -> yD, reduceMul -> yE, reducePow -> yF
open AV renaming belL -> yO, bel -> yN, normL -> yQ, norm -> yP
open AObj renaming bel -> yR
attribute [local irreducible] zA0 zAA zAa zAi zAj GoIf GoGb zAk GoO GoD GoX GoDX GoG GoDG GoGv zAl Go zAB
section
def putM:T->Mem->Mem×Nat
 | .base k,S=>(S,k.val)
 | .dyn,S=>(S,4)
 | .var _,S=>(S,0)
 | .pair a b,S=>let p:=putM a S;let q:=putM b p.1;(q.1++ [(⟨7,0,none,[p.2,q.2]⟩,0)],q.1.length)
 | .fn a b,S=>let p:=putM a S;let q:=putM b p.1;(q.1++ [(⟨9,0,none,[p.2,q.2]⟩,0)],q.1.length)
 | .list a,S=>let p:=putM a S;(p.1++ [(⟨8,0,none,[p.2]⟩,0)],p.1.length)
theorem Mem.zXM(L:Mem)(x:Nd×Int):Mem.st (L++ [x])=L.st++ [x.1]:=by simp[Mem.st]
theorem zSp:∀(t:T) (L:Mem),(putM t L).1.st=(putN t L.st).1/\(putM t L).2=(putN t L.st).2:=by
 intro t
 induction t with
 |base k=>intro L;exact⟨rfl,rfl⟩
 |dyn=>intro L;exact⟨rfl,rfl⟩
 |var k=>intro L;exact⟨rfl,rfl⟩
 |pair a b ih1 ih2=>
  intro L
  have h1:=ih1 L
  have h2:=ih2 (putM a L).1
  rw[h1.1]at h2
  constructor
  ·simp only[putM,putN,Mem.zXM,h2.1,h2.2,h1.2]
  ·simp only[putM,putN];rw[<-Mem.zXR,h2.1]
 |fn a b ih1 ih2=>
  intro L
  have h1:=ih1 L
  have h2:=ih2 (putM a L).1
  rw[h1.1]at h2
  constructor
  ·simp only[putM,putN,Mem.zXM,h2.1,h2.2,h1.2]
  ·simp only[putM,putN];rw[<-Mem.zXR,h2.1]
 |list a ih1=>
  intro L
  have h1:=ih1 L
  constructor
  ·simp only[putM,putN,Mem.zXM,h1.1,h1.2]
  ·simp only[putM,putN];rw[<-Mem.zXR,h1.1]
theorem zSl:∀(t:T) (L:Mem),(putM t L).1.length=L.length+t.inner:=by
 intro t
 induction t with
 |base k=>intro L;rfl
 |dyn=>intro L;rfl
 |var k=>intro L;rfl
 |pair a b ih1 ih2=>intro L;simp only[putM,YAJ,List.length_cons,List.length_nil,ih1,ih2,T.inner];omega
 |fn a b ih1 ih2=>intro L;simp only[putM,YAJ,List.length_cons,List.length_nil,ih1,ih2,T.inner];omega
 |list a ih1=>intro L;simp only[putM,YAJ,List.length_cons,List.length_nil,ih1,T.inner];omega
theorem MB.add{L:Mem}{rd:Int}(h:MB L rd)(hr:0<=rd)(x:Nd):MB (L++ [(x,0)]) rd:=fun i hi=>by
 simp only[YAJ,List.length_cons,List.length_nil]at hi
 by_cases e:i<L.length
 ·have:=h i e
  simp only[YAF,YAG e]at this⊢;exact this
 ·have:i=L.length:=by omega
  subst this;simp;exact hr
theorem zSm{rd:Int}(hr:0<=rd):∀(t:T) (L:Mem),MB L rd->MB (putM t L).1 rd:=by
 intro t
 induction t with
 |base k=>intro L h;exact h
 |dyn=>intro L h;exact h
 |var k=>intro L h;exact h
 |pair a b ih1 ih2=>intro L h;exact(ih2 _ (ih1 _ h)).add hr _
 |fn a b ih1 ih2=>intro L h;exact(ih2 _ (ih1 _ h)).add hr _
 |list a ih1=>intro L h;exact(ih1 _ h).add hr _
def zOH:T->Nat->Nat
 | .pair a b,m=>if m<1 then 1 else let n:=1+zOH a (m-1);if m<n then n else n+zOH b (m-n)
 | .fn a b,m=>if m<1 then 1 else let n:=1+zOH a (m-1);if m<n then n else n+zOH b (m-n)
 | .list a,m=>if m<1 then 1 else 1+zOH a (m-1)
 |_,_=>0
theorem zOI:∀(t:T) (m:Nat),zOH t m<=t.inner/\(t.inner<=m->zOH t m=t.inner)/\(m<t.inner->m<zOH t m):=by
 intro t
 induction t with
 |base k=>intro m;simp[zOH,T.inner]
 |dyn=>intro m;simp[zOH,T.inner]
 |var k=>intro m;simp[zOH,T.inner]
 |pair a b ih1 ih2=>
  intro m
  have h1:=ih1 (m-1)
  simp only[zOH,T.inner]
  split
  ·omega
  ·have h2:=ih2 (m-(1+zOH a (m-1)))
   split<;>omega
 |fn a b ih1 ih2=>
  intro m
  have h1:=ih1 (m-1)
  simp only[zOH,T.inner]
  split
  ·omega
  ·have h2:=ih2 (m-(1+zOH a (m-1)))
   split<;>omega
 |list a ih1=>
  intro m
  have h1:=ih1 (m-1)
  simp only[zOH,T.inner]
  split<;>omega
theorem zod:∀t:T,t.inner<t.size:=by
 intro t
 induction t with
 |base k=>simp[T.inner,T.size]
 |dyn=>simp[T.inner,T.size]
 |var k=>simp[T.inner,T.size]
 |pair a b ih1 ih2=>simp only[T.inner,T.size];omega
 |fn a b ih1 ih2=>simp only[T.inner,T.size];omega
 |list a ih1=>simp only[T.inner,T.size];omega
end
section
structure SI (L:Mem) (rd:Int):Prop where
 wf:Wf L.st
 mb:MB L rd
 rd0:0<=rd
theorem zau:Wf mem0.st:=by
 have hk:∀i,mem0.st.kids i=[]/\mem0.st.link i=none:=fun i=>by
  match i with
  |0|1|2|3|4=>exact⟨rfl,rfl⟩
  |i+5=>exact⟨rfl,rfl⟩
 refine⟨by decide,fun i hi=> ?_,fun i h1 h2=> ?_,fun i j h=> ?_,fun i j h=> ?_,⟨fun _=>0,⟨fun i j h=> ?_,fun i j h=> ?_⟩⟩⟩
 ·match i,hi with
  |0,_|1,_|2,_|3,_|4,_=>rfl
 ·have:mem0.st.length=5:=rfl
  omega
 ·rw[(hk i).2]at h;cases h
 ·rw[(hk i).1]at h;cases h
 ·rw[(hk i).2]at h;cases h
 ·rw[(hk i).1]at h;cases h
theorem SI.mem0:SI mem0 0:=by
 refine⟨zau,fun i hi=> ?_,YAQ _⟩
 have hi:i<5:=hi
 match i,hi with
 |0,_|1,_|2,_|3,_|4,_=>exact YAQ _
theorem SI.add{L:Mem}{rd:Int}(h:SI L rd){x:Nd}(hx:okNd x)(hl:x.link=none)(hk:∀k∈x.kids,k<L.length):SI (L++ [(x,0)]) rd:=
 ⟨by rw[Mem.zXM];exact h.wf.add hx hl (by rw[Mem.zXR];exact hk),h.mb.add h.rd0 x,h.rd0⟩
theorem SI.var{L:Mem}{rd:Int}(h:SI L rd)(lv:Int):SI (L++ [varN lv]) rd:=h.add (.inl ⟨rfl,rfl⟩) rfl (by simp)
theorem SI.two{L:Mem}{rd:Int}(h:SI L rd){k:Int}(hk:k=7\/k=9){a b:Nat}(ha:a<L.length)(hb:b<L.length):SI (L++ [(⟨k,0,none,[a,b]⟩,0)]) rd:=
 h.add (.inr ⟨rfl,.inl ⟨hk,rfl⟩⟩) rfl (by simp;exact⟨ha,hb⟩)
theorem SI.one{L:Mem}{rd:Int}(h:SI L rd){a:Nat}(ha:a<L.length):SI (L++ [(⟨8,0,none,[a]⟩,0)]) rd:=
 h.add (.inr ⟨rfl,.inr ⟨rfl,rfl⟩⟩) rfl (by simp;exact ha)
theorem SI.mark{L:Mem}{rd:Int}(h:SI L rd)(l:List Nat):SI (mkL L (rd+1) l) (rd+1):=
 ⟨by rw[zPY];exact h.wf,h.mb.mk l,by have:=h.rd0;omega⟩
theorem zNs{L:Mem}{lv:Int}{x:Nat}:(low1 L lv x).st=L.st.lv x (if lv<(L.st.nd x).level then lv else(L.st.nd x).level):=by
 rw[low1,Mem.st,List.map_set,St.lv,L.nd];rfl
theorem zNr{L:Mem}{rd lv:Int}{x:Nat}(h:MB L rd):MB (low1 L lv x) rd:=fun i hi=>by
 rw[zNq]at hi
 have h1:=h i hi
 simp only[low1,YAF,List.getElem?_set]
 by_cases e:x=i
 ·subst e;simp only[if_true,hi,Option.getD_some];rw[YAF]at h1;exact h1
 ·simp only[e,if_false];rw[YAF]at h1;exact h1
theorem zNv{rd lv:Int}:∀(vs:List Nat) (L:Mem),SI L rd->(∀x∈vs,5<=x/\x<L.length)->SI (lowL L lv vs) rd/\Lv L.st (lowL L lv vs).st
 | [],L,h,_=>⟨h,Lv.refl _⟩
 |x::vs,L,h,hv=>by
  obtain⟨h5,hx⟩:=hv x YAU
  have h1:SI (low1 L lv x) rd:=⟨by rw[zNs];exact h.wf.lv h5 (by rw[Mem.zXR];exact hx),zNr h.mb,h.rd0⟩
  obtain⟨h2,h3⟩:=zNv vs (low1 L lv x) h1 fun y hy=>by rw[zNq];exact hv y (YAT _ hy)
  refine⟨h2,Lv.trans ?_ h3⟩
  rw[zNs];exact Lv.lv (by rw[Mem.zXR];exact hx)
theorem zad{S:St}(h:Wf S){n:Nat}(hn:n<S.length):∀x∈S.vars n,5<=x/\x<S.length:=fun x hx=>by
 obtain⟨h1,h2⟩:=(h.zPJ hn).1 hx
 refine⟨Nat.le_of_not_lt fun h5=> ?_,h1.lt h hn⟩
 rw[St.kind,h.leaf x h5]at h2
 simp only at h2;omega
theorem SI.low{L:Mem}{rd:Int}(h:SI L rd){n:Nat}(hn:n<L.length)(lv:Int):SI (lowL (mkL L (rd+1) (L.st.all n)) lv (L.st.vars n)) (rd+1)/\Lv L.st (lowL (mkL L (rd+1) (L.st.all n)) lv (L.st.vars n)).st:=by
 have:=zNv (lv:=lv) (L.st.vars n) (mkL L (rd+1) (L.st.all n)) (h.mark _) fun x hx=>by
  have:=zad h.wf (by rw[Mem.zXR];exact hn) x hx
  rw[zPW];rwa[Mem.zXR]at this
 rwa[zPY]at this
theorem zNM{L:Mem}{rd:Int}{x y:Nat}:(zNL L rd x y).length=L.length:=by
 rw[zNL,zNt,zPW,zVT,zPW]
theorem SI.link{L:Mem}{rd:Int}(h:SI L rd){x y:Nat}(hx:x<L.length)(hy:y<L.length)(hlx:L.st.link x=none)(hk:L.st.kind x=6)(hly:L.st.link y=none)(hn:x ∉ L.st.all y):
 Wf (L.st.lk x y)/\SI (zNL L rd x y) (rd+2)/\Lv (L.st.lk x y) (zNL L rd x y).st:=by
 have hw:Wf (L.st.lk x y):=h.wf.lk (by rw[Mem.zXR];exact hx) (by rw[Mem.zXR];exact hy) hlx hk hly hn
 have e1:(zVR (mkL L (rd+1) (L.st.all y)) x y).st=L.st.lk x y:=by rw[zVV,zPY]
 have h1:SI (zVR (mkL L (rd+1) (L.st.all y)) x y) (rd+1):=⟨by rw[e1];exact hw,zVU (h.mark _).mb,(h.mark []).rd0⟩
 have h2:=h1.mark ((L.st.lk x y).all y)
 rw[show rd+1+1=rd+2 by omega]at h2
 have h3:=zNv (lv:=(L.st.nd x).level) ((L.st.lk x y).vars y) _ h2 fun z hz=>by
  have:=zad hw (by rw[St.zNZ,Mem.zXR];exact hy) z hz
  rw[zPW,zVT,zPW];rwa[St.zNZ,Mem.zXR]at this
 rw[zPY,e1]at h3
 exact⟨hw,h3.1,h3.2⟩
end
section
theorem zUH{F:List AObj}{s r v:Nat}{L:Mem}{lim cnt rd:Int}(hs:F[s]?=some (bxS r v L.length lim cnt rd))(hr:F[r]?=some (arS v L))(hw:Wf L.st)(n:Nat)(hn:n<L.length):
 DCalls Try.prog 29 [.bptr s 0,.int .i64 n] F (.int .i64 (L.st.root n)) F:=by
 have hne:r≠s:=by rintro rfl;rw[hs]at hr;simp[bxS,arS]at hr
 have e:stF F s r (bxS r v L.length lim cnt rd) (arS v L)=F:=by unfold stF;rw[zVm hs,zVm hr]
 have:=zUI (v:=v) (L:=L) (lim:=lim) (cnt:=cnt) (rd:=rd) (zIc hs) (zIc hr) hne hw n hn
 unfold hpS at this;rw[e]at this;exact this
def rdB(s m1 m2:Nat)(most:Nat):AObj:= .box [.bptr s 0,.int .i64 most,.mp m1,.mp m2]
def szc(S:St)(most n:Nat):Nat:=min (nodes (S.tree n)) (most+1)
def szA(S:St)(most:Nat)(ks:List Nat):Nat:=min (1+zQW (ks.map S.tree)) (most+1)
def VZ(S:St)(most:Nat)(Z:List (Int×Int)):Prop:=∀k x,mget Z k=some x->∃n:Nat,k=n/\n<S.length/\S.root n=n/\x=szc S most n
theorem zX4{S:St}{most:Nat}{ks:List Nat}{i:Nat}(h:i<ks.length):szA S most (ks.take (i+1))=min (szA S most (ks.take i)+szc S most (ks.getD i 0)) (most+1):=by
 rw[List.take_add_one,YAI h,Option.toList_some]
 have:ks.getD i 0=ks[i]:=by simp[h]
 simp only[szA,szc,List.map_append,List.map_cons,List.map_nil,zQX,zQW,this]
 omega
section
variable {s r v c m1 m2 : Nat} {L : Mem} {lim cnt rd : Int} {most : Nat}
def zA7(s r v c m1 m2:Nat)(L:Mem)(lim cnt rd:Int)(most n:Nat):Prop:=∀Z,VZ L.st most Z->∃Z',VZ L.st most Z'/\
 ∀F:List AObj,F[c]?=some (rdB s m1 m2 most)->F[s]?=some (bxS r v L.length lim cnt rd)->F[r]?=some (arS v L)->F[m1]?=some (.map (embM Z))->
  zAA Try.prog 89 [.bptr c 0,.int .i64 n] F fun x G=>x= .int .i64 (szc L.st most n)/\G=F.set m1 (.map (embM Z'))
theorem zUc{n:Nat}{y:AV}{Z Z':List (Int×Int)}{e:Nat->AV}{G:List AObj}{b k:Nat}(h:∀F:List AObj,F[c]?=some (rdB s m1 m2 most)->F[s]?=some (bxS r v L.length lim cnt rd)->F[r]?=some (arS v L)->F[m1]?=some (.map (embM Z))->
 zAA Try.prog 89 [.bptr c 0,.int .i64 n] F fun x G=>x=y/\G=F.set m1 (.map (embM Z')))
 (hc:G[c]?=some (rdB s m1 m2 most)) (hs:G[s]?=some (bxS r v L.length lim cnt rd)) (hr:G[r]?=some (arS v L)) (hm:G[m1]?=some (.map (embM Z))):
 zAr Try.prog 89 [.bptr c 0,.int .i64 n] y (FS e G b k).obj m1 (embM Z'):=
 ⟨⟨_,by rw[zIP];exact hm⟩,zGW _,fun F hF=>h F (hF _ _ (by rw[zIP];exact hc) rfl) (hF _ _ (by rw[zIP];exact hs) rfl) (hF _ _ (by rw[zIP];exact hr) rfl) (hF _ _ (by rw[zIP];exact hm) rfl)⟩
theorem zBF{S:St}{Z:List (Int×Int)}(h:VZ S most Z){n:Nat}{x:Int}(hn:n<L.length)(hr:S.root n=n)(hx:x=szc S most n)(hS:S.length=L.length):VZ S most (mput Z n x):=by
 intro k y hk
 rw[zPO]at hk
 split at hk
 ·rename_i e
  cases hk
  exact⟨n,e.symm,by omega,hr,hx⟩
 ·exact h k y hk
theorem rszL:∀(ks:List Nat),(∀k∈ks,zA7 s r v c m1 m2 L lim cnt rd most k)->∀Z,VZ L.st most Z->∃Zs:Nat->List (Int×Int),Zs 0=Z/\True/\(∀i,i<=ks.length->VZ L.st most (Zs i))/\
 ∀i,i<ks.length->∀F:List AObj,F[c]?=some (rdB s m1 m2 most)->F[s]?=some (bxS r v L.length lim cnt rd)->F[r]?=some (arS v L)->F[m1]?=some (.map (embM (Zs i)))->
  zAA Try.prog 89 [.bptr c 0,.int .i64 (ks.getD i 0:Nat)] F fun x G=>x= .int .i64 (szc L.st most (ks.getD i 0))/\G=F.set m1 (.map (embM (Zs (i+1))))
 | [],_,Z,hZ=>⟨fun _=>Z,rfl,trivial,fun _ _=>hZ,fun i hi=>by simp at hi⟩
 |k::ks,ih,Z,hZ=>by
  obtain⟨Z1,h1,h2⟩:=ih k YAU Z hZ
  obtain⟨Zs,e0,_,e1,e2⟩:=rszL ks (fun x hx=>ih x (YAT _ hx)) Z1 h1
  refine⟨fun i=>match i with|0=>Z|i+1=>Zs i,rfl,trivial,fun i hi=> ?_,fun i hi=> ?_⟩
  ·cases i with
   |zero=>exact hZ
   |succ i=>exact e1 i (by simpa using hi)
  ·cases i with
   |zero=>simp only[e0];exact h2
   |succ i=>exact e2 i (by simpa using hi)
theorem zUe(hw:Wf L.st)(hmost:most<=100000)(n:Nat)(hn:n<L.length)(ih:∀k∈L.st.kids (L.st.root n),zA7 s r v c m1 m2 L lim cnt rd most k):zA7 s r v c m1 m2 L lim cnt rd most n:=by
 intro Z hZ
 have hrl:L.st.root n<L.length:=by have:=hw.root_lt n (by rw[Mem.zXR];exact hn);rwa[Mem.zXR]at this
 have htr:L.st.tree (L.st.root n)=L.st.tree n:=hw.zYf (by rw[Mem.zXR];exact hrl) (by rw[Mem.zXR];exact hn) (hw.zUQ n)
 have hsz:szc L.st most (L.st.root n)=szc L.st most n:=by unfold szc;rw[htr]
 cases hg:mget Z (L.st.root n)with
 |some x=>
  have hx:x=szc L.st most n:=by obtain⟨m,e1,_,_,e⟩:=hZ _ _ hg;rw[e,<-hsz];congr;omega
  subst hx
  refine⟨Z,hZ,fun F hc hs hr hm=> ?_⟩
  have q:=zUH hs hr hw n hn
  have hb:F.length<=F.length:=YAV _
  rw[zVm hm]
  unfold rdB at hc
  refine eE C_ok Try.func89 Try.results89 fun ok=> ?_
  have h:=YAN
  repeat' (first
   |(with_reducible first|apply bA|apply bB|apply bC|apply bD|apply bE|apply bF)<;>intro h
   |((first|apply bG|apply bH);simp only[yP,yQ,W2,hc,hm,zHe,zHx,zPN,zMT,hg,Option.getD_some,Option.isSome_some];refine zIB (q) (.inl rfl) ?_)
   |refine drA C_ok 9 0 ?_
   |skip)<;>simp only[h,↓zaL,↓zHC,WY,reduceIte,yA,yB,yC,yD,reduceCtorEq,yE,yF,W1,WS,hc,hm,zHe,zHx,zPN,zMT,hg,Option.getD_some,Option.isSome_some]
 |none=>
  have hks:∀k∈L.st.kids (L.st.root n),k<L.length:=fun k hk=>by have:=hw.zMa hk;rwa[Mem.zXR]at this
  have hkl:(L.st.kids (L.st.root n)).length<=2:=by
   rcases hw.shape (by rw[Mem.zXR];exact hrl) (hw.zUK n)with ⟨_,_,hc⟩|⟨_,_,hc⟩|⟨i,j,_,hc⟩|⟨i,_,hc⟩<;>rw[hc]<;>simp
  have hkids:(L.getD (L.st.root n) default).1.kids=L.st.kids (L.st.root n):=by rw[<-L.nd];rfl
  have hfin:szA L.st most (L.st.kids (L.st.root n))=szc L.st most n:=by
   unfold szA szc;rw[hw.zYe (by rw[Mem.zXR];exact hn),nodes]
  have hini:szA L.st most []=1:=by unfold szA;simp[zQW]
  have hlist:=rszL (L:=L) (s:=s) (r:=r) (v:=v) (c:=c) (m1:=m1) (m2:=m2) (lim:=lim) (cnt:=cnt) (rd:=rd) (most:=most) (L.st.kids (L.st.root n)) ih Z hZ
  have hmax:(L.st.kids (L.st.root n)).length<=maxLen:=by rw[zPC];omega
  generalize L.st.kids (L.st.root n)=ks at*
  obtain⟨Zs,h0,hlen,hV,hstep⟩:=hlist
  refine⟨mput (Zs ks.length) (L.st.root n) (szc L.st most n),zBF (hV _ (YAV _)) hrl (hw.zUQ n) (by rw[hsz]) (Mem.zXR L),fun F hc hs hr hm=> ?_⟩
  have q:=zUH hs hr hw n hn
  have hb:F.length<=F.length:=YAV _
  have hcl:=zIc hc
  have hsl:=zIc hs
  have hrl2:=zIc hr
  have hml:=zIc hm
  have nc:m1≠c:=by rintro rfl;rw[hm]at hc;simp[rdB]at hc
  have ns:m1≠s:=by rintro rfl;rw[hm]at hs;simp[bxS]at hs
  have nr:m1≠r:=by rintro rfl;rw[hm]at hr;simp[arS]at hr
  have w2:IntKind.wrap .i64 ((most:Int)+1)=(most:Int)+1:=zbT (by omega) (by omega)
  have hc2:∀X,(F.set m1 X)[c]?=some (rdB s m1 m2 most):=fun X=>by rw[zVk nc];exact hc
  have hs2:∀X,(F.set m1 X)[s]?=some (bxS r v L.length lim cnt rd):=fun X=>by rw[zVk ns];exact hs
  have hr2:∀X,(F.set m1 X)[r]?=some (arS v L):=fun X=>by rw[zVk nr];exact hr
  have hm2:∀X,(F.set m1 X)[m1]?=some X:=fun X=>zVl hml
  have hc3:=hc;unfold rdB at hc3
  have hc4:=hc2;unfold rdB at hc4
  have hs3:=hs;unfold bxS at hs3
  have hr3:=hr;unfold arS at hr3
  refine eE C_ok Try.func89 Try.results89 fun ok=> ?_
  have h:=YAN
  repeat' (first
   |(with_reducible first|apply bA|apply bB|apply bC|apply bD|apply bE|apply bF)<;>intro h
   |((first|apply bG|apply bH);simp only[yP,yQ,W2,hc3,hm,hs3,hr3,zHe,zHx,zPN,zMT,hg,Option.isSome_none,zOg,hrl,zOf hrl,zGZ,hkids,YAK,zMZ];refine zIB (q) (.inl rfl) ?_)
   |refine drA C_ok 9 0 ?_
   |skip)<;>simp only[h,↓zaL,↓zHC,WY,reduceIte,yA,yB,yC,yD,reduceCtorEq,yE,yF,W1,WS,hc3,hm,hs3,hr3,zHe,zHx,zPN,zMT,hg,Option.isSome_none,zOg,hrl,zOf hrl,zGZ,hkids,YAK,zMZ]
  refine zCN [7,39,0,1,37,38] ?_
  simp only[List.map_cons,List.map_nil,↓zaL,↓zHC,WY,reduceIte,yA,yB,yC,yD,reduceCtorEq,yE,yF,W1,WS]
  refine zJ1 2 (fun i:Nat=> [(7,.int .i64 (szA L.st most (ks.take i):Nat)),(39,.int .i64 i)]) (fun i=>F.set m1 (.map (embM (Zs i)))) (fun i=>i<=ks.length) (fun i=>ks.length-i) C_ok 0 (by simp only[List.take_zero,hini];rfl) (by simp only[h0];exact zVm hm) (YAX _) (by decide) ?_
  rintro i hi
  simp only[List.drop_succ_cons,List.drop_zero,List.cons_append,List.nil_append]
  by_cases hlt:i<ks.length
  ·have hst:=hstep i hlt
   have hmin:(if(most:Int)+1<(szA L.st most (ks.take i):Nat)+(szc L.st most (ks.getD i 0):Nat)then(most:Int)+1 else(szA L.st most (ks.take i):Nat)+(szc L.st most (ks.getD i 0):Nat))=(szA L.st most (ks.take (i+1)):Nat):=by
    rw[zX4 hlt];split<;>omega
   have b1:szA L.st most (ks.take i)<=most+1:=by unfold szA;omega
   have b2:szc L.st most (ks.getD i 0)<=most+1:=by unfold szc;omega
   have w1:IntKind.wrap .i64 ((szA L.st most (ks.take i):Nat)+(szc L.st most (ks.getD i 0):Nat):Int)=(szA L.st most (ks.take i):Nat)+(szc L.st most (ks.getD i 0):Nat):=zbT (by omega) (by omega)
   generalize szA L.st most (ks.take i)=A at*
   generalize hA':szA L.st most (ks.take (i+1))=A' at*
   generalize szc L.st most (ks.getD i 0)=B at*
   have h:=YAN
   repeat' (first
    |(with_reducible first|apply bA|apply bB|apply bC|apply bD|apply bE|apply bF)<;>intro h
    |((first|apply bG|apply bH);simp only[yP,yQ,W2,hlt,zMZ,YAK,zMY hlt,hc4,w1,w2,hmin,List.set_set];refine zIh rfl (zUc hst (hc2 _) (hs2 _) (hr2 _) (hm2 _)) (.inl rfl) ?_)
    |refine drA C_ok 9 0 ?_
    |skip)<;>simp only[h,↓zaL,↓zHC,WY,reduceIte,yA,yB,yC,yD,reduceCtorEq,yE,yF,W1,WS,hlt,zMZ,YAK,zMY hlt,hc4,w1,w2,hmin,List.set_set]
   refine⟨i+1,hlt,by omega,zap rfl ?_⟩
   simp only[WK,↓zaL,↓zHC,yA,reduceIte,yN,yO,yR,yP,yQ,yB,yC,zbX hlt hmax,hA']
  ·have hi':i=ks.length:=by omega
   subst hi'
   have h:=YAN
   repeat' (first
    |(with_reducible first|apply bA|apply bB|apply bC|apply bD|apply bE|apply bF)<;>intro h
    |refine drA C_ok 9 0 ?_
    |skip)<;>simp only[h,↓zaL,↓zHC,WY,reduceIte,yA,yB,yC,yD,reduceCtorEq,yE,yF,W1,WS,zMZ,YAK,Nat.lt_irrefl,Int.lt_irrefl,List.take_length,hc4,hm2,zHe,zHx,zOl,zMT,List.set_set,hfin,yN,implies_true]
theorem zUd(hw:Wf L.st)(hmost:most<=100000):∀n,n<L.length->zA7 s r v c m1 m2 L lim cnt rd most n:=by
 refine hw.ind (p:=fun n=>n<L.length->zA7 s r v c m1 m2 L lim cnt rd most n) fun n ih hn=>zUe hw hmost n hn fun k hk=>ih k hk (by have:=hw.zMa hk;rwa[Mem.zXR]at this)
end
end
section
def zGw(S:St)(K:List Nat):List (AV×AV):=K.map fun k=>(.int .i64 (k:Nat),emb (S.tree k))
def rfind(S:St):List Nat->Nat->Nat->Option (Nat×AV)
 | [],_,_=>none
 |k::K,n,i=>if k=n then some (i,emb (S.tree k))else rfind S K n (i+1)
theorem zHf(S:St)(n:Nat):∀(K:List Nat) i,zHd (.int .i64) (.int .i64 n) (zGw S K) i=some (rfind S K n i):=by
 intro K
 induction K with
 |nil=>intro i;rfl
 |cons k K ih=>
  intro i
  simp only[zGw,List.map_cons,zHd,zMS,if_true,rfind]
  by_cases h:k=n
  ·simp[h]
  ·have:((n:Int)==(k:Int))=false:=by rw[YAZ];omega
   simp only[this,if_neg h]
   exact ih (i+1)
theorem zTk(S:St)(n:Nat):∀(K:List Nat) i,(rfind S K n i).isSome=decide (n∈K):=by
 intro K
 induction K with
 |nil=>intro i;rfl
 |cons k K ih=>
  intro i
  simp only[rfind]
  by_cases h:k=n
  ·subst h;simp
  ·rw[if_neg h,ih];have:¬n=k:=fun e=>h e.symm
   simp[this]
theorem zHy(S:St)(n:Nat)(z:AV):∀(K:List Nat) i,zHw z (rfind S K n i)=if n∈K then emb (S.tree n)else z:=by
 intro K
 induction K with
 |nil=>intro i;rfl
 |cons k K ih=>
  intro i
  simp only[rfind]
  by_cases h:k=n
  ·subst h;simp[zHw]
  ·rw[if_neg h,ih];have:¬n=k:=fun e=>h e.symm
   simp[this]
theorem zOm(S:St)(n:Nat)(K:List Nat):zOk (zGw S K) (rfind S K n 0) (.int .i64 n) (emb (S.tree n))=zGw S (if n∈K then K else K++ [n]):=by
 have key:∀(K:List Nat) (j:Nat),match rfind S K n j with
  |none=>n ∉ K
  |some (i,_)=>n∈K/\j<=i/\(zGw S K).set (i-j) (.int .i64 n,emb (S.tree n))=zGw S K:=by
  intro K
  induction K with
  |nil=>intro j;simp[rfind]
  |cons k K ih=>
   intro j
   simp only[rfind]
   by_cases h:k=n
   ·subst h;simp[zGw]
   ·simp only[if_neg h]
    have:=ih (j+1)
    split at this
    ·simp only[List.mem_cons,not_or];exact⟨fun e=>h e.symm,this⟩
    ·rename_i i x hm
     obtain⟨h0,h1,h2⟩:=this
     refine⟨YAT _ h0,by omega,?_⟩
     rw[show i-j=(i-(j+1))+1 by omega]
     simp only[zGw,List.map_cons,List.set_cons_succ]at h2⊢
     rw[h2]
 have:=key K 0
 split at this
 ·rename_i hm;rw[hm,if_neg this];simp[zOk,zGw]
 ·rename_i i x hm;rw[hm,if_pos this.1];exact this.2.2
theorem zGv(S:St)(K:List Nat)(b:Nat):(AObj.map (zGw S K)).bel b=true:=by
 induction K with
 |nil=>rfl
 |cons k K ih=>simpa [yR,zGw,yO,yN,zGx]using ih
section
variable {s r v c m1 m2 : Nat} {L : Mem} {lim cnt rd : Int} {most : Nat}
def zA8(s r v c m1 m2:Nat)(L:Mem)(lim cnt rd:Int)(most n:Nat):Prop:=∀K:List Nat,∃K':List Nat,
 ∀F:List AObj,F[c]?=some (rdB s m1 m2 most)->F[s]?=some (bxS r v L.length lim cnt rd)->F[r]?=some (arS v L)->F[m2]?=some (.map (zGw L.st K))->
  DCalls Try.prog 90 [.bptr c 0,.int .i64 n] F (emb (L.st.tree n)) (F.set m2 (.map (zGw L.st K')))
theorem zUf{n:Nat}{y:AV}{Z Z':List (AV×AV)}{e:Nat->AV}{G:List AObj}{b k:Nat}(h:∀F:List AObj,F[c]?=some (rdB s m1 m2 most)->F[s]?=some (bxS r v L.length lim cnt rd)->F[r]?=some (arS v L)->F[m2]?=some (.map Z)->
 DCalls Try.prog 90 [.bptr c 0,.int .i64 n] F y (F.set m2 (.map Z'))) (hZ:∀b,(AObj.map Z').bel b=true)
 (hc:G[c]?=some (rdB s m1 m2 most)) (hs:G[s]?=some (bxS r v L.length lim cnt rd)) (hr:G[r]?=some (arS v L)) (hm:G[m2]?=some (.map Z)):
 zAr Try.prog 90 [.bptr c 0,.int .i64 n] y (FS e G b k).obj m2 Z':=
 ⟨⟨_,by rw[zIP];exact hm⟩,hZ,fun F hF=>h F (hF _ _ (by rw[zIP];exact hc) rfl) (hF _ _ (by rw[zIP];exact hs) rfl) (hF _ _ (by rw[zIP];exact hr) rfl) (hF _ _ (by rw[zIP];exact hm) rfl)⟩
theorem mkE(k n:Int)(ks:List Nat)(f:Nat->Ty):AV.agg [.int .i64 k,.int .i64 n,.sl (AV.normL (ks.map fun k=>emb (f k))) .no]=emb (.mk k n (ks.map f)):=by
 have:(ks.map fun k=>emb (f k))=(ks.map f).map emb:=by simp
 rw[this,zOu,zG3]
theorem zYM{f:Nat->AV}{ks:List Nat}{i:Nat}(h:i<ks.length):(ks.take (i+1)).map f=(ks.take i).map f++ [f (ks.getD i 0)]:=by
 rw[List.take_add_one,YAI h,Option.toList_some,List.map_append];simp[h]
theorem rtyL:∀(ks:List Nat),(∀k∈ks,zA8 s r v c m1 m2 L lim cnt rd most k)->∀K,∃Ks:Nat->List Nat,Ks 0=K/\
 ∀i,i<ks.length->∀F:List AObj,F[c]?=some (rdB s m1 m2 most)->F[s]?=some (bxS r v L.length lim cnt rd)->F[r]?=some (arS v L)->F[m2]?=some (.map (zGw L.st (Ks i)))->
  DCalls Try.prog 90 [.bptr c 0,.int .i64 (ks.getD i 0:Nat)] F (emb (L.st.tree (ks.getD i 0))) (F.set m2 (.map (zGw L.st (Ks (i+1)))))
 | [],_,K=>⟨fun _=>K,rfl,fun i hi=>by simp at hi⟩
 |k::ks,ih,K=>by
  obtain⟨K1,h2⟩:=ih k YAU K
  obtain⟨Ks,e0,e2⟩:=rtyL ks (fun x hx=>ih x (YAT _ hx)) K1
  refine⟨fun i=>match i with|0=>K|i+1=>Ks i,rfl,fun i hi=> ?_⟩
  cases i with
  |zero=>simp only[e0];exact h2
  |succ i=>exact e2 i (by simpa using hi)
theorem zUh(hw:Wf L.st)(n:Nat)(hn:n<L.length)(ih:∀k∈L.st.kids (L.st.root n),zA8 s r v c m1 m2 L lim cnt rd most k):zA8 s r v c m1 m2 L lim cnt rd most n:=by
 intro K
 have hrl:L.st.root n<L.length:=by have:=hw.root_lt n (by rw[Mem.zXR];exact hn);rwa[Mem.zXR]at this
 have htr:L.st.tree (L.st.root n)=L.st.tree n:=hw.zYf (by rw[Mem.zXR];exact hrl) (by rw[Mem.zXR];exact hn) (hw.zUQ n)
 by_cases hg:L.st.root n∈K
 ·refine⟨K,fun F hc hs hr hm=> ?_⟩
  have hcl:=zIc hc
  have q:=fun J=>zUH (F:=F++J) (by rw[YAG (zIc hs)];exact hs) (by rw[YAG (zIc hr)];exact hr) hw n hn
  have hcA:∀J,(F++J)[c]?=some (.box [.bptr s 0,.int .i64 most,.mp m1,.mp m2]):=fun J=>by rw[YAG (zIc hc)];exact hc
  have hmA:∀J,(F++J)[m2]?=some (.map (zGw L.st K)):=fun J=>by rw[YAG (zIc hm)];exact hm
  rw[zVm hm]
  unfold DCalls
  refine eD C_ok Try.func90 Try.results90 fun ok=> ?_
  have h:=YAN
  repeat' (first
   |(with_reducible first|apply bA|apply bB|apply bC|apply bD|apply bE|apply bF)<;>intro h
   |((first|apply bG|apply bH);simp only[yP,yQ,W2,hcA,hmA,zHf,zHy,zTk,zMT,hg,htr,zGy,zTh,zTg];refine zIB (q _) (.inl rfl) ?_)
   |refine drA C_ok 11 0 ?_
   |refine drA C_ok 13 0 ?_
   |skip)<;>simp only[h,↓zaL,↓zHC,WY,reduceIte,yA,yB,yC,yD,reduceCtorEq,yE,yF,W1,WS,hcA,hmA,zHf,zHy,zTk,zMT,hg,htr,zGy,zTh,zTg]
  all_goals exact⟨zGx _ _,List.take_left' rfl⟩
 ·have hks:∀k∈L.st.kids (L.st.root n),k<L.length:=fun k hk=>by have:=hw.zMa hk;rwa[Mem.zXR]at this
  have hkl:(L.st.kids (L.st.root n)).length<=2:=by
   rcases hw.shape (by rw[Mem.zXR];exact hrl) (hw.zUK n)with ⟨_,_,hc⟩|⟨_,_,hc⟩|⟨i,j,_,hc⟩|⟨i,_,hc⟩<;>rw[hc]<;>simp
  have hkids:(L.getD (L.st.root n) default).1.kids=L.st.kids (L.st.root n):=by rw[<-L.nd];rfl
  have hkind:(L.getD (L.st.root n) default).1.kind=L.st.kind (L.st.root n):=by rw[<-L.nd];rfl
  have htree:L.st.tree n= .mk (L.st.kind (L.st.root n)) (if L.st.kind (L.st.root n)==6 then(L.st.root n:Int)else 0) ((L.st.kids (L.st.root n)).map L.st.tree):=by
   rw[hw.zYe (by rw[Mem.zXR];exact hn)]
   by_cases h:L.st.kind (L.st.root n)=6
   ·simp[h]
   ·simp[h]
  obtain⟨Ks,h0,hstep⟩:=rtyL (s:=s) (r:=r) (v:=v) (c:=c) (m1:=m1) (m2:=m2) (L:=L) (lim:=lim) (cnt:=cnt) (rd:=rd) (most:=most) (L.st.kids (L.st.root n)) ih K
  have hmax:(L.st.kids (L.st.root n)).length<=maxLen:=by rw[zPC];omega
  have hput:=zOm L.st (L.st.root n) (Ks (L.st.kids (L.st.root n)).length)
  rw[htr,htree]at hput
  refine⟨if L.st.root n∈Ks (L.st.kids (L.st.root n)).length then Ks (L.st.kids (L.st.root n)).length else Ks (L.st.kids (L.st.root n)).length++ [L.st.root n],?_⟩
  rw[htree]
  generalize L.st.kids (L.st.root n)=ks at*
  generalize L.st.kind (L.st.root n)=kd at*
  intro F hc hs hr hm
  have q:=fun J=>zUH (F:=F++J) (by rw[YAG (zIc hs)];exact hs) (by rw[YAG (zIc hr)];exact hr) hw n hn
  have hcA:∀J,(F++J)[c]?=some (.box [.bptr s 0,.int .i64 most,.mp m1,.mp m2]):=fun J=>by rw[YAG (zIc hc)];exact hc
  have hsA:∀J,(F++J)[s]?=some (.box [.ms r v L.length,.int .i64 lim,.int .i64 cnt,.int .i64 rd]):=fun J=>by rw[YAG (zIc hs)];exact hs
  have hrA:∀J,(F++J)[r]?=some (.arr v 5 (L.map embN)):=fun J=>by rw[YAG (zIc hr)];exact hr
  have hmA:∀J,(F++J)[m2]?=some (.map (zGw L.st K)):=fun J=>by rw[YAG (zIc hm)];exact hm
  have hml:=zIc hm
  have nc:m2≠c:=by rintro rfl;rw[hm]at hc;simp[rdB]at hc
  have ns:m2≠s:=by rintro rfl;rw[hm]at hs;simp[bxS]at hs
  have nr:m2≠r:=by rintro rfl;rw[hm]at hr;simp[arS]at hr
  have hc2:∀X J,(F.set m2 X++J)[c]?=some (rdB s m1 m2 most):=fun X J=>by rw[YAG (by simpa using zIc hc),zVk nc];exact hc
  have hs2:∀X J,(F.set m2 X++J)[s]?=some (bxS r v L.length lim cnt rd):=fun X J=>by rw[YAG (by simpa using zIc hs),zVk ns];exact hs
  have hr2:∀X J,(F.set m2 X++J)[r]?=some (arS v L):=fun X J=>by rw[YAG (by simpa using zIc hr),zVk nr];exact hr
  have hm2:∀X J,(F.set m2 X++J)[m2]?=some X:=fun X J=>by rw[YAG (by simpa using hml)];exact zVl hml
  have hc4:∀X J,(F.set m2 X++J)[c]?=some (.box [.bptr s 0,.int .i64 most,.mp m1,.mp m2]):=hc2
  have hset:∀X Y J,(F.set m2 X++J).set m2 Y=F.set m2 Y++J:=fun X Y J=>by rw[List.set_append_left _ _ (by simpa using hml),List.set_set]
  unfold DCalls
  by_cases h6:(kd==6)=true
  ·simp only[h6,if_true]at htree hput⊢
   refine eD C_ok Try.func90 Try.results90 fun ok=> ?_
   have h:=YAN
   repeat' (first
    |(with_reducible first|apply bA|apply bB|apply bC|apply bD|apply bE|apply bF)<;>intro h
    |((first|apply bG|apply bH);simp only[yP,yQ,W2,hcA,hmA,hsA,hrA,zHf,zHy,zTk,zMT,hg,zOg,hrl,zOf hrl,zGZ,hkids,hkind,h6,YAK,zMZ];refine zIB (q _) (.inl rfl) ?_)
    |refine drA C_ok 11 0 ?_
    |refine drA C_ok 13 0 ?_
    |skip)<;>simp only[h,↓zaL,↓zHC,WY,reduceIte,yA,yB,yC,yD,reduceCtorEq,yE,yF,W1,WS,hcA,hmA,hsA,hrA,zHf,zHy,zTk,zMT,hg,zOg,hrl,zOf hrl,zGZ,hkids,hkind,h6,YAK,zMZ]
   refine zCN [56,0,1,4,7,54,55] ?_
   simp only[List.map_cons,List.map_nil,↓zaL,↓zHC,WY,reduceIte,yA,yB,yC,yD,reduceCtorEq,yE,yF,W1,WS]
   refine zJ1 1 (fun i:Nat=> [(56,.int .i64 i)]) (fun i=>match i with
    |0=>F.set m2 (.map (zGw L.st (Ks 0)))++ [.box [.int .i64 0,.int .i64 0,.sl [] .full],.box [.int .i64 0,.int .i64 0,.sl [] .full],.box [.int .i64 kd,.int .i64 (L.st.root n:Int),.sl [] .full]]
    |i+1=>F.set m2 (.map (zGw L.st (Ks (i+1))))++ [.box [.int .i64 0,.int .i64 0,.sl [] .full],.box [.int .i64 0,.int .i64 0,.sl [] .full],.box [.int .i64 kd,.int .i64 (L.st.root n:Int),.sl ((ks.take (i+1)).map fun k=>emb (L.st.tree k)) (.own (F.length+3))],.tok (i+1) 3]) (fun i=>i<=ks.length) (fun i=>ks.length-i) C_ok 0 rfl (by simp only[h0,zVm hm]) (YAX _) (by decide) ?_
   rintro(_|i) hi
   ·simp only[List.drop_succ_cons,List.drop_zero,List.cons_append,List.nil_append,List.take_succ_cons,List.take_zero]
    by_cases hlt:0<ks.length
    ·have hst:=hstep (0) hlt
     have r1:((0+1)*40<=140737488355328)=True:=by simp only[YAb,iff_true];omega
     have r2:(0+1<=9223372036854775807)=True:=by simp only[YAb,iff_true];omega
     have h:=YAN
     repeat' (first
      |(with_reducible first|apply bA|apply bB|apply bC|apply bD|apply bE|apply bF)<;>intro h
      |((first|apply bG|apply bH);simp only[yP,yQ,W2,hlt,zMZ,YAK,List.length_take,zMY hlt,hset,r1,r2];refine zIh rfl (zUf hst (zGv _ _) (hc2 _ _) (hs2 _ _) (hr2 _ _) (hm2 _ _)) (.inl rfl) ?_)
      |refine drA C_ok 11 0 ?_
      |refine drA C_ok 13 0 ?_
      |skip)<;>simp only[h,↓zaL,↓zHC,WY,reduceIte,yA,yB,yC,yD,reduceCtorEq,yE,yF,W1,WS,hlt,zMZ,YAK,List.length_take,zMY hlt,hset,r1,r2]
     refine⟨0+1,hlt,by omega,zap ?_ ?_⟩
     ·simp only[zYM hlt,List.take_zero,List.map_nil,List.nil_append]
     ·simp only[WK,↓zaL,↓zHC,yA,reduceIte,yN,yO,yR,yP,yQ,yB,yC,zbX hlt hmax]
    ·have hi':0=ks.length:=by omega
     have e:Ks (0)=Ks ks.length:=congrArg Ks hi'
     rw[<-e]at hput⊢
     have hnil:ks=[]:=List.eq_nil_of_length_eq_zero hi'.symm
     simp only[hnil,List.map_nil]at hput
     have h:=YAN
     repeat' (first
      |(with_reducible first|apply bA|apply bB|apply bC|apply bD|apply bE|apply bF)<;>intro h
      |refine drA C_ok 11 0 ?_
      |refine drA C_ok 13 0 ?_
      |skip)<;>simp only[h,↓zaL,↓zHC,WY,reduceIte,yA,yB,yC,yD,reduceCtorEq,yE,yF,W1,WS,hlt,zMZ,YAK,hcA,hc4,hm2,zHf,zTk,zMT,hset,zTh,zTg]
     all_goals (try simp only[hput,hnil,List.map_nil])
     all_goals exact⟨fun _=>⟨rfl,zGx _ _⟩,zGx _ _,trivial,List.take_left' (by simp)⟩
   ·simp only[List.drop_succ_cons,List.drop_zero,List.cons_append,List.nil_append,List.take_succ_cons,List.take_zero]
    by_cases hlt:(i+1)<ks.length
    ·have hst:=hstep ((i+1)) hlt
     have r1:(((i+1)+1)*40<=140737488355328)=True:=by simp only[YAb,iff_true];omega
     have r2:((i+1)+1<=9223372036854775807)=True:=by simp only[YAb,iff_true];omega
     have h:=YAN
     repeat' (first
      |(with_reducible first|apply bA|apply bB|apply bC|apply bD|apply bE|apply bF)<;>intro h
      |((first|apply bG|apply bH);simp only[yP,yQ,W2,hlt,zMZ,YAK,List.length_take,zMY hlt,hset,r1,r2];refine zIh rfl (zUf hst (zGv _ _) (hc2 _ _) (hs2 _ _) (hr2 _ _) (hm2 _ _)) (.inl rfl) ?_)
      |refine drA C_ok 11 0 ?_
      |refine drA C_ok 13 0 ?_
      |skip)<;>simp only[h,↓zaL,↓zHC,WY,reduceIte,yA,yB,yC,yD,reduceCtorEq,yE,yF,W1,WS,hlt,zMZ,YAK,List.length_take,zMY hlt,hset,r1,r2]
     refine⟨⟨by omega,by omega,by omega,fun y hy=>by obtain⟨k,_,rfl⟩:=List.mem_map.1 hy;rw[zGy];rfl⟩,i+1+1,hlt,by omega,zap ?_ ?_⟩
     ·simp only[zYM hlt,List.map_append]
      rw[Nat.min_eq_left (by omega)]
     ·simp only[WK,↓zaL,↓zHC,yA,reduceIte,yN,yO,yR,yP,yQ,yB,yC,zbX hlt hmax]
    ·have hi':(i+1)=ks.length:=by omega
     have e:Ks ((i+1))=Ks ks.length:=congrArg Ks hi'
     rw[<-e]at hput⊢
     have ht:ks.take (i+1)=ks:=by rw[hi',List.take_length]
     have h:=YAN
     repeat' (first
      |(with_reducible first|apply bA|apply bB|apply bC|apply bD|apply bE|apply bF)<;>intro h
      |refine drA C_ok 11 0 ?_
      |refine drA C_ok 13 0 ?_
      |skip)<;>simp only[h,↓zaL,↓zHC,WY,reduceIte,yA,yB,yC,yD,reduceCtorEq,yE,yF,W1,WS,hlt,zMZ,YAK,hcA,hc4,hm2,zHf,zTk,zMT,hset,zTh,zTg]
     all_goals (try simp only[mkE,ht,hput])
     all_goals exact⟨fun _=>⟨rfl,zGx _ _⟩,zGx _ _,trivial,List.take_left' (by simp)⟩
  ·replace h6:(kd==6)=false:=by simpa using h6
   simp only[h6,YAB,if_false]at htree hput⊢
   refine eD C_ok Try.func90 Try.results90 fun ok=> ?_
   have h:=YAN
   repeat' (first
    |(with_reducible first|apply bA|apply bB|apply bC|apply bD|apply bE|apply bF)<;>intro h
    |((first|apply bG|apply bH);simp only[yP,yQ,W2,hcA,hmA,hsA,hrA,zHf,zHy,zTk,zMT,hg,zOg,hrl,zOf hrl,zGZ,hkids,hkind,h6,YAK,zMZ];refine zIB (q _) (.inl rfl) ?_)
    |refine drA C_ok 11 0 ?_
    |refine drA C_ok 13 0 ?_
    |skip)<;>simp only[h,↓zaL,↓zHC,WY,reduceIte,yA,yB,yC,yD,reduceCtorEq,yE,yF,W1,WS,hcA,hmA,hsA,hrA,zHf,zHy,zTk,zMT,hg,zOg,hrl,zOf hrl,zGZ,hkids,hkind,h6,YAK,zMZ]
   refine zCN [56,0,1,4,7,54,55] ?_
   simp only[List.map_cons,List.map_nil,↓zaL,↓zHC,WY,reduceIte,yA,yB,yC,yD,reduceCtorEq,yE,yF,W1,WS]
   refine zJ1 1 (fun i:Nat=> [(56,.int .i64 i)]) (fun i=>match i with
    |0=>F.set m2 (.map (zGw L.st (Ks 0)))++ [.box [.int .i64 0,.int .i64 0,.sl [] .full],.box [.int .i64 0,.int .i64 0,.sl [] .full],.box [.int .i64 kd,.int .i64 0,.sl [] .full]]
    |i+1=>F.set m2 (.map (zGw L.st (Ks (i+1))))++ [.box [.int .i64 0,.int .i64 0,.sl [] .full],.box [.int .i64 0,.int .i64 0,.sl [] .full],.box [.int .i64 kd,.int .i64 0,.sl ((ks.take (i+1)).map fun k=>emb (L.st.tree k)) (.own (F.length+3))],.tok (i+1) 3]) (fun i=>i<=ks.length) (fun i=>ks.length-i) C_ok 0 rfl (by simp only[h0,zVm hm]) (YAX _) (by decide) ?_
   rintro(_|i) hi
   ·simp only[List.drop_succ_cons,List.drop_zero,List.cons_append,List.nil_append,List.take_succ_cons,List.take_zero]
    by_cases hlt:0<ks.length
    ·have hst:=hstep (0) hlt
     have r1:((0+1)*40<=140737488355328)=True:=by simp only[YAb,iff_true];omega
     have r2:(0+1<=9223372036854775807)=True:=by simp only[YAb,iff_true];omega
     have h:=YAN
     repeat' (first
      |(with_reducible first|apply bA|apply bB|apply bC|apply bD|apply bE|apply bF)<;>intro h
      |((first|apply bG|apply bH);simp only[yP,yQ,W2,hlt,zMZ,YAK,List.length_take,zMY hlt,hset,r1,r2];refine zIh rfl (zUf hst (zGv _ _) (hc2 _ _) (hs2 _ _) (hr2 _ _) (hm2 _ _)) (.inl rfl) ?_)
      |refine drA C_ok 11 0 ?_
      |refine drA C_ok 13 0 ?_
      |skip)<;>simp only[h,↓zaL,↓zHC,WY,reduceIte,yA,yB,yC,yD,reduceCtorEq,yE,yF,W1,WS,hlt,zMZ,YAK,List.length_take,zMY hlt,hset,r1,r2]
     refine⟨0+1,hlt,by omega,zap ?_ ?_⟩
     ·simp only[zYM hlt,List.take_zero,List.map_nil,List.nil_append]
     ·simp only[WK,↓zaL,↓zHC,yA,reduceIte,yN,yO,yR,yP,yQ,yB,yC,zbX hlt hmax]
    ·have hi':0=ks.length:=by omega
     have e:Ks (0)=Ks ks.length:=congrArg Ks hi'
     rw[<-e]at hput⊢
     have hnil:ks=[]:=List.eq_nil_of_length_eq_zero hi'.symm
     simp only[hnil,List.map_nil]at hput
     have h:=YAN
     repeat' (first
      |(with_reducible first|apply bA|apply bB|apply bC|apply bD|apply bE|apply bF)<;>intro h
      |refine drA C_ok 11 0 ?_
      |refine drA C_ok 13 0 ?_
      |skip)<;>simp only[h,↓zaL,↓zHC,WY,reduceIte,yA,yB,yC,yD,reduceCtorEq,yE,yF,W1,WS,hlt,zMZ,YAK,hcA,hc4,hm2,zHf,zTk,zMT,hset,zTh,zTg]
     all_goals (try simp only[hput,hnil,List.map_nil])
     all_goals exact⟨fun _=>⟨rfl,zGx _ _⟩,zGx _ _,trivial,List.take_left' (by simp)⟩
   ·simp only[List.drop_succ_cons,List.drop_zero,List.cons_append,List.nil_append,List.take_succ_cons,List.take_zero]
    by_cases hlt:(i+1)<ks.length
    ·have hst:=hstep ((i+1)) hlt
     have r1:(((i+1)+1)*40<=140737488355328)=True:=by simp only[YAb,iff_true];omega
     have r2:((i+1)+1<=9223372036854775807)=True:=by simp only[YAb,iff_true];omega
     have h:=YAN
     repeat' (first
      |(with_reducible first|apply bA|apply bB|apply bC|apply bD|apply bE|apply bF)<;>intro h
      |((first|apply bG|apply bH);simp only[yP,yQ,W2,hlt,zMZ,YAK,List.length_take,zMY hlt,hset,r1,r2];refine zIh rfl (zUf hst (zGv _ _) (hc2 _ _) (hs2 _ _) (hr2 _ _) (hm2 _ _)) (.inl rfl) ?_)
      |refine drA C_ok 11 0 ?_
      |refine drA C_ok 13 0 ?_
      |skip)<;>simp only[h,↓zaL,↓zHC,WY,reduceIte,yA,yB,yC,yD,reduceCtorEq,yE,yF,W1,WS,hlt,zMZ,YAK,List.length_take,zMY hlt,hset,r1,r2]
     refine⟨⟨by omega,by omega,by omega,fun y hy=>by obtain⟨k,_,rfl⟩:=List.mem_map.1 hy;rw[zGy];rfl⟩,i+1+1,hlt,by omega,zap ?_ ?_⟩
     ·simp only[zYM hlt,List.map_append]
      rw[Nat.min_eq_left (by omega)]
     ·simp only[WK,↓zaL,↓zHC,yA,reduceIte,yN,yO,yR,yP,yQ,yB,yC,zbX hlt hmax]
    ·have hi':(i+1)=ks.length:=by omega
     have e:Ks ((i+1))=Ks ks.length:=congrArg Ks hi'
     rw[<-e]at hput⊢
     have ht:ks.take (i+1)=ks:=by rw[hi',List.take_length]
     have h:=YAN
     repeat' (first
      |(with_reducible first|apply bA|apply bB|apply bC|apply bD|apply bE|apply bF)<;>intro h
      |refine drA C_ok 11 0 ?_
      |refine drA C_ok 13 0 ?_
      |skip)<;>simp only[h,↓zaL,↓zHC,WY,reduceIte,yA,yB,yC,yD,reduceCtorEq,yE,yF,W1,WS,hlt,zMZ,YAK,hcA,hc4,hm2,zHf,zTk,zMT,hset,zTh,zTg]
     all_goals (try simp only[mkE,ht,hput])
     all_goals exact⟨fun _=>⟨rfl,zGx _ _⟩,zGx _ _,trivial,List.take_left' (by simp)⟩
theorem zUg(hw:Wf L.st):∀n,n<L.length->zA8 s r v c m1 m2 L lim cnt rd most n:=by
 refine hw.ind (p:=fun n=>n<L.length->zA8 s r v c m1 m2 L lim cnt rd most n) fun n ih hn=>zUh hw n hn fun k hk=>ih k hk (by have:=hw.zMa hk;rwa[Mem.zXR]at this)
end
end
section
theorem zDa{F:List AObj}{b m:Nat}{X:AObj}(hb:b<=m)(h:∀x∈F.take b,x.bel b=true):∀x∈(F.set m X).take b,x.bel b=true:=by
 have:(F.set m X).take b=F.take b:=by rw[List.take_set];exact List.set_eq_of_length_le (by simp;omega)
 rw[this];exact h
theorem zBE(S:St)(most:Nat):VZ S most []:=fun k x h=>by simp[mget]at h
section
variable {F : List AObj} {s r v : Nat} {L : Mem} {lim cnt rd : Int}
theorem zeW(hs:s<F.length)(hr:r<F.length)(hne:r≠s){n:Int}(hn:n<0\/(L.length:Int)<=n):DCalls Try.prog 83 [.bptr s 0,.int .i64 n] (hpS F s r v L lim cnt rd) (.bool false) (hpS F s r v L lim cnt rd):=by
 have i1:=zMH (v:=v) (L:=L) (lim:=lim) (cnt:=cnt) (rd:=rd) hs hr hne n
 rw[show(decide (0<=n)&&decide (n<L.length))=false by simp;omega]at i1
 exact i1
theorem stL{e:Nat->AV}{J:List AObj}{bx ar:AObj}{m:Nat}:(FS e (stF (F++J) s r bx ar) F.length m).L.length=J.length:=by
 rw[zIL (by simp[zXB]),zXB];simp
theorem zXn{J:List AObj}{j:Nat}{x bx ar:AObj}(hs:s<F.length)(hr:r<F.length)(h:J[j]?=some x):(stF (F++J) s r bx ar)[F.length+j]?=some x:=by
 rw[zXC (by omega) (by omega),zCU rfl];exact h
theorem zXp{J:List AObj}{bx ar:AObj}(hs:s<F.length)(hne:r≠s):(stF (F++J) s r bx ar)[s]?=some bx:=zXF (zN3 hs) hne
theorem zXo{J:List AObj}{bx ar:AObj}(hr:r<F.length):(stF (F++J) s r bx ar)[r]?=some ar:=zXE (zN3 hr)
theorem zpJ(hs:s<F.length)(hr:r<F.length)(hne:r≠s)(n:Int)(hn:n<0\/(L.length:Int)<=n):DCalls Try.prog 30 [.bptr s 0,.int .i64 n] (hpS F s r v L lim cnt rd) (.tup [emb (.mk 0 0 []),.int .i64 1]) (hpS F s r v L lim cnt rd):=by
 unfold DCalls
 refine eD C_ok Try.func30 Try.results30 fun ok=> ?_
 have h:=YAN
 repeat' (first
  |(with_reducible first|apply bA|apply bB|apply bC|apply bD|apply bE|apply bF)<;>intro h
  |((first|apply bG|apply bH);simp only[yP,yQ,W2,hpS,bxS,arS,stP hs hr hne,zTh,zTg,yN,zOg,yO,zG0];refine zIB (zeW (by first|exact hs|simp<;>omega) (by first|exact hr|simp<;>omega) hne hn) (.inl rfl) ?_)
  |refine drA C_ok 3 3 ?_
  |skip)<;>simp only[h,↓zaL,↓zHC,WY,reduceIte,yA,yB,yC,yD,reduceCtorEq,yE,yF,W1,WS,hpS,bxS,arS,stP hs hr hne,zTh,zTg,yN,zOg,yO,zG0]
 all_goals exact zGx _ _
theorem zTV(hs:s<F.length)(hr:r<F.length)(hne:r≠s)(hw:Wf L.st)(n:Nat)(hn:n<L.length)(hc:0<=cnt/\cnt<=lim/\lim<=65536):
 DCalls Try.prog 30 [.bptr s 0,.int .i64 n] (hpS F s r v L lim cnt rd) (if(nodes (L.st.tree n):Int)<=lim-cnt then .tup [emb (L.st.tree n),.int .i64 0]else .tup [emb (.mk 0 0 []),.int .i64 7])
  (hpS F s r v L lim (if(nodes (L.st.tree n):Int)<=lim-cnt then cnt+nodes (L.st.tree n)else cnt) rd):=by
 obtain⟨most,hmost⟩:∃most:Nat,lim-cnt=(most:Int):=⟨(lim-cnt).toNat,by omega⟩
 have w1:IntKind.wrap .i64 (lim-cnt)=(most:Int):=by rw[zbT (by omega) (by omega)];exact hmost
 obtain⟨Z',hV,hsz⟩:=zUd (s:=s) (r:=r) (v:=v) (c:=F.length+3) (m1:=F.length+1) (m2:=F.length+2) (L:=L) (lim:=lim) (cnt:=cnt) (rd:=rd) (most:=most) hw (by omega) n hn [] (zBE _ _)
 unfold DCalls
 by_cases hfit:(nodes (L.st.tree n):Int)<=lim-cnt
 ·simp only[if_pos hfit]
  obtain⟨K',hty⟩:=zUg (s:=s) (r:=r) (v:=v) (c:=F.length+3) (m1:=F.length+1) (m2:=F.length+2) (L:=L) (lim:=lim) (cnt:=cnt+nodes (L.st.tree n)) (rd:=rd) (most:=most) hw n hn []
  have hk:szc L.st most n=nodes (L.st.tree n):=by unfold szc;omega
  rw[hk]at hsz
  have hgt:((most:Int)<(nodes (L.st.tree n):Nat))=False:=by simp only[YAb,iff_false];omega
  have w2:IntKind.wrap .i64 (cnt+(nodes (L.st.tree n):Nat))=cnt+(nodes (L.st.tree n):Nat):=zbT (by omega) (by omega)
  generalize nodes (L.st.tree n)=N at*
  refine eD C_ok Try.func30 Try.results30 fun ok=> ?_
  have h:=YAN
  repeat' (first
   |(with_reducible first|apply bA|apply bB|apply bC|apply bD|apply bE|apply bF)<;>intro h
   |((first|apply bG|apply bH);simp only[yP,yQ,W2,hpS,bxS,arS,stP hs hr hne,zTh,zTg,yN,zOg,yO,zG0,w1,w2,stL,hgt];first|refine zIB (zMI (by first|exact hs|simp<;>omega) (by first|exact hr|simp<;>omega) hne hn) (.inl rfl) ?_|refine zIA (hsz _ (zXn hs hr rfl) (zXp hs hne) (zXo hr) (zXn hs hr rfl)) (.inl rfl) (fun hb=>zDa (by first|omega|simp) hb) ?_|refine zIA (hty _ (zXn hs hr rfl) (zXp hs hne) (zXo hr) (zXn hs hr rfl)) (.inl rfl) (fun hb=>zDa (by first|omega|simp) hb) ?_)
   |refine drA C_ok 3 3 ?_
   |skip)<;>simp only[h,↓zaL,↓zHC,WY,reduceIte,yA,yB,yC,yD,reduceCtorEq,yE,yF,W1,WS,hpS,bxS,arS,stP hs hr hne,zTh,zTg,yN,zOg,yO,zG0,w1,w2,stL,hgt]
  all_goals exact zGx _ _
 ·simp only[if_neg hfit]
  have hgt:((most:Int)<(szc L.st most n:Nat))=True:=by simp only[YAb,iff_true,szc];omega
  generalize szc L.st most n=N at*
  refine eD C_ok Try.func30 Try.results30 fun ok=> ?_
  have h:=YAN
  repeat' (first
   |(with_reducible first|apply bA|apply bB|apply bC|apply bD|apply bE|apply bF)<;>intro h
   |((first|apply bG|apply bH);simp only[yP,yQ,W2,hpS,bxS,arS,stP hs hr hne,zTh,zTg,yN,zOg,yO,zG0,w1,stL,hgt];first|refine zIB (zMI (by first|exact hs|simp<;>omega) (by first|exact hr|simp<;>omega) hne hn) (.inl rfl) ?_|refine zIA (hsz _ (zXn hs hr rfl) (zXp hs hne) (zXo hr) (zXn hs hr rfl)) (.inl rfl) (fun hb=>zDa (by first|omega|simp) hb) ?_)
   |refine drA C_ok 3 3 ?_
   |skip)<;>simp only[h,↓zaL,↓zHC,WY,reduceIte,yA,yB,yC,yD,reduceCtorEq,yE,yF,W1,WS,hpS,bxS,arS,stP hs hr hne,zTh,zTg,yN,zOg,yO,zG0,w1,stL,hgt]
  all_goals exact zGx _ _
end
end
end Go.Proofs.Ytdngjamjccjlmaa
