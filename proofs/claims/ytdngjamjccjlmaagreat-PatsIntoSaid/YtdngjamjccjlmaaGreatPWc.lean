/- Lemmas: the functions of stores, third part. No condition. -/
import Derived.Test.YtdngjamjccjlmaaGreatPSb
import Derived.Test.YtdngjamjccjlmaaGreatPWb
import Derived.Test.YtdngjamjccjlmaaGreatPWa
set_option linter.unusedSimpArgs false
set_option linter.unusedVariables false
set_option maxHeartbeats 4000000
set_option maxRecDepth 100000
namespace Go.Proofs.YtdngjamjccjlmaaGreat
open Go Go.Ab
open AV renaming belL -> yO, bel -> yN
open AObj renaming bel -> yR
attribute [local irreducible] zA0 zAA zAa zAi zAj GoIf GoGb zAk GoO GoD GoX GoDX GoG GoDG GoGv zAl Go zAB
section
def putM:T->Mem->Mem×Nat
 | .base k,S=>(S,k.val)
 | .dyn,S=>(S,4)
 | .var _,S=>(S,0)
 | .pair a b,S=>let p:=putM a S;let q:=putM b p.1;(q.1++ [(⟨7,0,none,[p.2,q.2]⟩,0)],q.1.length)
 | .fn a b,S=>let p:=putM a S;let q:=putM b p.1;(q.1++ [(⟨9,0,none,[p.2,q.2]⟩,0)],q.1.length)
 | .list a,S=>let p:=putM a S;(p.1++ [(⟨8,0,none,[p.2]⟩,0)],p.1.length)
theorem Mem.zXM(L:Mem)(x:Nd×Int):Mem.st (L++ [x])=L.st++ [x.1]:=by simp[Mem.st]
theorem zSp:∀(t:T) (L:Mem),(putM t L).1.st=(putN t L.st).1/\(putM t L).2=(putN t L.st).2:=by
 intro t
 induction t with
 |base k=>intro L;exact⟨rfl,rfl⟩
 |dyn=>intro L;exact⟨rfl,rfl⟩
 |var k=>intro L;exact⟨rfl,rfl⟩
 |pair a b ih1 ih2=>
  intro L
  have h1:=ih1 L
  have h2:=ih2 (putM a L).1
  rw[h1.1]at h2
  constructor
  ·simp only[putM,putN,Mem.zXM,h2.1,h2.2,h1.2]
  ·simp only[putM,putN];rw[<-Mem.zXR,h2.1]
 |fn a b ih1 ih2=>
  intro L
  have h1:=ih1 L
  have h2:=ih2 (putM a L).1
  rw[h1.1]at h2
  constructor
  ·simp only[putM,putN,Mem.zXM,h2.1,h2.2,h1.2]
  ·simp only[putM,putN];rw[<-Mem.zXR,h2.1]
 |list a ih1=>
  intro L
  have h1:=ih1 L
  constructor
  ·simp only[putM,putN,Mem.zXM,h1.1,h1.2]
  ·simp only[putM,putN];rw[<-Mem.zXR,h1.1]
theorem zSl:∀(t:T) (L:Mem),(putM t L).1.length=L.length+t.inner:=by
 intro t
 induction t with
 |base k=>intro L;rfl
 |dyn=>intro L;rfl
 |var k=>intro L;rfl
 |pair a b ih1 ih2=>intro L;simp only[putM,YAJ,List.length_cons,List.length_nil,ih1,ih2,T.inner];omega
 |fn a b ih1 ih2=>intro L;simp only[putM,YAJ,List.length_cons,List.length_nil,ih1,ih2,T.inner];omega
 |list a ih1=>intro L;simp only[putM,YAJ,List.length_cons,List.length_nil,ih1,T.inner];omega
theorem MB.add{L:Mem}{rd:Int}(h:MB L rd)(hr:0<=rd)(x:Nd):MB (L++ [(x,0)]) rd:=fun i hi=>by
 simp only[YAJ,List.length_cons,List.length_nil]at hi
 by_cases e:i<L.length
 ·have:=h i e
  simp only[YAF,YAG e]at this⊢;exact this
 ·have:i=L.length:=by omega
  subst this;simp;exact hr
theorem zSm{rd:Int}(hr:0<=rd):∀(t:T) (L:Mem),MB L rd->MB (putM t L).1 rd:=by
 intro t
 induction t with
 |base k=>intro L h;exact h
 |dyn=>intro L h;exact h
 |var k=>intro L h;exact h
 |pair a b ih1 ih2=>intro L h;exact(ih2 _ (ih1 _ h)).add hr _
 |fn a b ih1 ih2=>intro L h;exact(ih2 _ (ih1 _ h)).add hr _
 |list a ih1=>intro L h;exact(ih1 _ h).add hr _
def zOH:T->Nat->Nat
 | .pair a b,m=>if m<1 then 1 else let n:=1+zOH a (m-1);if m<n then n else n+zOH b (m-n)
 | .fn a b,m=>if m<1 then 1 else let n:=1+zOH a (m-1);if m<n then n else n+zOH b (m-n)
 | .list a,m=>if m<1 then 1 else 1+zOH a (m-1)
 |_,_=>0
theorem zOI:∀(t:T) (m:Nat),zOH t m<=t.inner/\(t.inner<=m->zOH t m=t.inner)/\(m<t.inner->m<zOH t m):=by
 intro t
 induction t with
 |base k=>intro m;simp[zOH,T.inner]
 |dyn=>intro m;simp[zOH,T.inner]
 |var k=>intro m;simp[zOH,T.inner]
 |pair a b ih1 ih2=>
  intro m
  have h1:=ih1 (m-1)
  simp only[zOH,T.inner]
  split
  ·omega
  ·have h2:=ih2 (m-(1+zOH a (m-1)))
   split<;>omega
 |fn a b ih1 ih2=>
  intro m
  have h1:=ih1 (m-1)
  simp only[zOH,T.inner]
  split
  ·omega
  ·have h2:=ih2 (m-(1+zOH a (m-1)))
   split<;>omega
 |list a ih1=>
  intro m
  have h1:=ih1 (m-1)
  simp only[zOH,T.inner]
  split<;>omega
end
section
structure SI (L:Mem) (rd:Int):Prop where
 wf:Wf L.st
 mb:MB L rd
 rd0:0<=rd
theorem zau:Wf mem0.st:=by
 have hk:∀i,mem0.st.kids i=[]/\mem0.st.link i=none:=fun i=>by
  match i with
  |0|1|2|3|4=>exact⟨rfl,rfl⟩
  |i+5=>exact⟨rfl,rfl⟩
 refine⟨by decide,fun i hi=> ?_,fun i h1 h2=> ?_,fun i j h=> ?_,fun i j h=> ?_,⟨fun _=>0,⟨fun i j h=> ?_,fun i j h=> ?_⟩⟩⟩
 ·match i,hi with
  |0,_|1,_|2,_|3,_|4,_=>rfl
 ·have:mem0.st.length=5:=rfl
  omega
 ·rw[(hk i).2]at h;cases h
 ·rw[(hk i).1]at h;cases h
 ·rw[(hk i).2]at h;cases h
 ·rw[(hk i).1]at h;cases h
theorem SI.mem0:SI mem0 0:=by
 refine⟨zau,fun i hi=> ?_,YAQ _⟩
 have hi:i<5:=hi
 match i,hi with
 |0,_|1,_|2,_|3,_|4,_=>exact YAQ _
theorem SI.add{L:Mem}{rd:Int}(h:SI L rd){x:Nd}(hx:okNd x)(hl:x.link=none)(hk:∀k∈x.kids,k<L.length):SI (L++ [(x,0)]) rd:=
 ⟨by rw[Mem.zXM];exact h.wf.add hx hl (by rw[Mem.zXR];exact hk),h.mb.add h.rd0 x,h.rd0⟩
theorem SI.var{L:Mem}{rd:Int}(h:SI L rd)(lv:Int):SI (L++ [varN lv]) rd:=h.add (.inl ⟨rfl,rfl⟩) rfl (by simp)
theorem SI.two{L:Mem}{rd:Int}(h:SI L rd){k:Int}(hk:k=7\/k=9){a b:Nat}(ha:a<L.length)(hb:b<L.length):SI (L++ [(⟨k,0,none,[a,b]⟩,0)]) rd:=
 h.add (.inr ⟨rfl,.inl ⟨hk,rfl⟩⟩) rfl (by simp;exact⟨ha,hb⟩)
theorem SI.one{L:Mem}{rd:Int}(h:SI L rd){a:Nat}(ha:a<L.length):SI (L++ [(⟨8,0,none,[a]⟩,0)]) rd:=
 h.add (.inr ⟨rfl,.inr ⟨rfl,rfl⟩⟩) rfl (by simp;exact ha)
theorem SI.mark{L:Mem}{rd:Int}(h:SI L rd)(l:List Nat):SI (mkL L (rd+1) l) (rd+1):=
 ⟨by rw[zPY];exact h.wf,h.mb.mk l,by have:=h.rd0;omega⟩
theorem zNs{L:Mem}{lv:Int}{x:Nat}:(low1 L lv x).st=L.st.lv x (if lv<(L.st.nd x).level then lv else(L.st.nd x).level):=by
 rw[low1,Mem.st,List.map_set,St.lv,L.nd];rfl
theorem zNr{L:Mem}{rd lv:Int}{x:Nat}(h:MB L rd):MB (low1 L lv x) rd:=fun i hi=>by
 rw[zNq]at hi
 have h1:=h i hi
 simp only[low1,YAF,List.getElem?_set]
 by_cases e:x=i
 ·subst e;simp only[if_true,hi,Option.getD_some];rw[YAF]at h1;exact h1
 ·simp only[e,if_false];rw[YAF]at h1;exact h1
theorem zNv{rd lv:Int}:∀(vs:List Nat) (L:Mem),SI L rd->(∀x∈vs,5<=x/\x<L.length)->SI (lowL L lv vs) rd/\Lv L.st (lowL L lv vs).st
 | [],L,h,_=>⟨h,Lv.refl _⟩
 |x::vs,L,h,hv=>by
  obtain⟨h5,hx⟩:=hv x YAU
  have h1:SI (low1 L lv x) rd:=⟨by rw[zNs];exact h.wf.lv h5 (by rw[Mem.zXR];exact hx),zNr h.mb,h.rd0⟩
  obtain⟨h2,h3⟩:=zNv vs (low1 L lv x) h1 fun y hy=>by rw[zNq];exact hv y (YAT _ hy)
  refine⟨h2,Lv.trans ?_ h3⟩
  rw[zNs];exact Lv.lv (by rw[Mem.zXR];exact hx)
theorem zNu{lv:Int}:∀(vs:List Nat) (L:Mem),(∀x∈vs,x<L.length)->∀i,((lowL L lv vs).st.nd i).level=if i∈vs then min (L.st.nd i).level lv else(L.st.nd i).level
 | [],L,_,i=>by simp[lowL]
 |x::vs,L,hv,i=>by
  have hx:=hv x YAU
  have h:=zNu (lv:=lv) vs (low1 L lv x) (fun y hy=>by rw[zNq];exact hv y (YAT _ hy)) i
  show((lowL (low1 L lv x) lv vs).st.nd i).level=_
  rw[h,zNs,St.zPz (by rw[Mem.zXR];exact hx)]
  by_cases e:i=x
  ·subst e
   simp only[if_true,List.mem_cons,true_or]
   split<;>split<;>omega
  ·simp only[e,if_false,List.mem_cons,false_or]
theorem zad{S:St}(h:Wf S){n:Nat}(hn:n<S.length):∀x∈S.vars n,5<=x/\x<S.length:=fun x hx=>by
 obtain⟨h1,h2⟩:=(h.zPJ hn).1 hx
 refine⟨Nat.le_of_not_lt fun h5=> ?_,h1.lt h hn⟩
 rw[St.kind,h.leaf x h5]at h2
 simp only at h2;omega
theorem SI.low{L:Mem}{rd:Int}(h:SI L rd){n:Nat}(hn:n<L.length)(lv:Int):SI (lowL (mkL L (rd+1) (L.st.all n)) lv (L.st.vars n)) (rd+1)/\Lv L.st (lowL (mkL L (rd+1) (L.st.all n)) lv (L.st.vars n)).st:=by
 have:=zNv (lv:=lv) (L.st.vars n) (mkL L (rd+1) (L.st.all n)) (h.mark _) fun x hx=>by
  have:=zad h.wf (by rw[Mem.zXR];exact hn) x hx
  rw[zPW];rwa[Mem.zXR]at this
 rwa[zPY]at this
theorem zNM{L:Mem}{rd:Int}{x y:Nat}:(zNL L rd x y).length=L.length:=by
 rw[zNL,zNt,zPW,zVT,zPW]
theorem SI.link{L:Mem}{rd:Int}(h:SI L rd){x y:Nat}(hx:x<L.length)(hy:y<L.length)(hlx:L.st.link x=none)(hk:L.st.kind x=6)(hly:L.st.link y=none)(hn:x ∉ L.st.all y):
 Wf (L.st.lk x y)/\SI (zNL L rd x y) (rd+2)/\Lv (L.st.lk x y) (zNL L rd x y).st:=by
 have hw:Wf (L.st.lk x y):=h.wf.lk (by rw[Mem.zXR];exact hx) (by rw[Mem.zXR];exact hy) hlx hk hly hn
 have e1:(zVR (mkL L (rd+1) (L.st.all y)) x y).st=L.st.lk x y:=by rw[zVV,zPY]
 have h1:SI (zVR (mkL L (rd+1) (L.st.all y)) x y) (rd+1):=⟨by rw[e1];exact hw,zVU (h.mark _).mb,(h.mark []).rd0⟩
 have h2:=h1.mark ((L.st.lk x y).all y)
 rw[show rd+1+1=rd+2 by omega]at h2
 have h3:=zNv (lv:=(L.st.nd x).level) ((L.st.lk x y).vars y) _ h2 fun z hz=>by
  have:=zad hw (by rw[St.zNZ,Mem.zXR];exact hy) z hz
  rw[zPW,zVT,zPW];rwa[St.zNZ,Mem.zXR]at this
 rw[zPY,e1]at h3
 exact⟨hw,h3.1,h3.2⟩
end
section
def rdB(s m1 m2:Nat)(most:Nat):AObj:= .box [.bptr s 0,.int .i64 most,.mp m1,.mp m2]
def szc(S:St)(most n:Nat):Nat:=min (nodes (S.tree n)) (most+1)
def szA(S:St)(most:Nat)(ks:List Nat):Nat:=min (1+zQW (ks.map S.tree)) (most+1)
def VZ(S:St)(most:Nat)(Z:List (Int×Int)):Prop:=∀k x,mget Z k=some x->∃n:Nat,k=n/\n<S.length/\S.root n=n/\x=szc S most n
section
variable {s r v c m1 m2 : Nat} {L : Mem} {lim cnt rd : Int} {most : Nat}
end
end
section
def zGw(S:St)(K:List Nat):List (AV×AV):=K.map fun k=>(.int .i64 (k:Nat),emb (S.tree k))
def rfind(S:St):List Nat->Nat->Nat->Option (Nat×AV)
 | [],_,_=>none
 |k::K,n,i=>if k=n then some (i,emb (S.tree k))else rfind S K n (i+1)
section
variable {s r v c m1 m2 : Nat} {L : Mem} {lim cnt rd : Int} {most : Nat}
end
end
section
section
variable {F : List AObj} {s r v : Nat} {L : Mem} {lim cnt rd : Int}
theorem zeW(hs:s<F.length)(hr:r<F.length)(hne:r≠s){n:Int}(hn:n<0\/(L.length:Int)<=n):zAd Tryz.prog 52 [.bptr s 0,.int .i64 n] (hpS F s r v L lim cnt rd) (.bool false) (hpS F s r v L lim cnt rd):=by
 have i1:=zMH (v:=v) (L:=L) (lim:=lim) (cnt:=cnt) (rd:=rd) hs hr hne n
 rw[show(decide (0<=n)&&decide (n<L.length))=false by simp;omega]at i1
 exact i1
end
end
end Go.Proofs.YtdngjamjccjlmaaGreat
