/- Lemmas: a pattern goes into a store, in plain Lean. No condition. -/
import Derived.Test.YtdngjamjccjlmaaPQb
import Derived.Test.YtdngjamjccjlmaaPNc
import Derived.Test.YtdngjamjccjlmaaQN
import Derived.Test.YtdngjamjccjlmaaNM
import Derived.Test.YtdngjamjccjlmaaEM
set_option linter.unusedSimpArgs false
set_option linter.unusedVariables false
namespace Go.Proofs.Ytdngjamjccjlmaa
open Go Go.Ab
section
structure NewS (x y:IS) (j:Nat) (k:T->T->T):Prop where
 good:GoodS y.σ
 ext:Ext x.σ.L.st y.σ.L.st
 stv:StV x.σ.L.st->StV y.σ.L.st
 old:∀i,i<x.len->y.σ.L.st.tT i=x.σ.L.st.tT i
 new:∀i,x.len<=i->i<x.len+j->y.σ.L.st.tT i= .var i
 node:∀S',Ext y.σ.L.st S'->S'.tT (x.len+j)=k (S'.tT x.len) (S'.tT (x.len+j-1))
 len:y.len=x.len+j+1
 free:y.σ.L.st.free=x.σ.L.st.free+j
 cnt:y.σ.cnt=x.σ.cnt+j+1
 rd:y.σ.rd=x.σ.rd
 nm:y.nm=x.nm
 nd:y.nd=x.nd
theorem Sto.zaT(σ:Sto)(lv:Int):(σ.var lv).L.st=σ.L.st++ [⟨6,lv,none,[]⟩]:=by rw[Sto.var,Mem.zXM];rfl
theorem Sto.zPf(σ:Sto)(k:Int)(ks:List Nat):(σ.mk' k ks).L.st=σ.L.st++ [⟨k,0,none,ks⟩]:=by rw[Sto.mk',Mem.zXM]
theorem IS.zNB(x:IS):x.σ.L.st.length=x.len:=Mem.zXR _
theorem new1{lim lv:Int}{x:IS}(hg:GoodS x.σ)(hl:¬lv<0)(h:(zN8 lim lv x).1=0):NewS x (zN8 lim lv x).2 1 (fun a _=> .list a):=by
 have h1:GoodS (x.var lv).σ:=hg.var (by omega)
 have h2:=(zN9 (lim:=lim) hg hl).1
 have hL:=(zN9 (lim:=lim) hg hl).2.2 h
 have e:(zN8 lim lv x).2=(x.var lv).mk' 8 [x.len]:=by
  unfold zN8 at h⊢
  split at h
  ·cases h
  split at h
  ·cases h
  rename_i a b
  rw[if_neg a,if_neg b]
 rw[e]at h2 hL⊢
 have e1:(x.var lv).σ.L.st=x.σ.L.st++ [⟨6,lv,none,[]⟩]:=x.σ.zaT lv
 have e2:((x.var lv).mk' 8 [x.len]).σ.L.st=(x.var lv).σ.L.st++ [⟨8,0,none,[x.len]⟩]:=(x.var lv).σ.zPf 8 [x.len]
 have w0:=hg.si.wf
 have w1:=h1.si.wf
 have w2:=h2.si.wf
 have l0:=x.zNB
 have l1:(x.var lv).σ.L.st.length=x.len+1:=by rw[e1];simp[l0]
 have x1:Ext x.σ.L.st (x.var lv).σ.L.st:=by rw[e1]at w1⊢;exact Ext.add w1
 have x2:Ext (x.var lv).σ.L.st ((x.var lv).mk' 8 [x.len]).σ.L.st:=by rw[e2]at w2⊢;exact Ext.add w2
 refine⟨h2,x1.trans x2,fun hs=> ?_,fun i hi=> ?_,fun i hi hi'=> ?_,fun S' hS=> ?_,by omega,?_,?_,rfl,rfl,rfl⟩
 ·have hs1:StV (x.var lv).σ.L.st:=by rw[e1]at w1⊢;exact hs.var w0 w1
  rw[e2]at w2⊢;exact hs1.node w1 w2 rfl (by show(8:Int)≠6;decide)
 ·rw[e2]at w2⊢
  rw[w1.zX7 w2 rfl (by omega)]
  rw[e1]at w1⊢
  rw[w0.zX7 w1 rfl (by omega)]
 ·have:i=x.len:=by omega
  subst this
  rw[e2]at w2⊢
  rw[w1.zX7 w2 rfl (by omega)]
  rw[e1]at w1⊢
  have:=w1.zYB
  rw[l0]at this;exact this
 ·have kk:((x.var lv).mk' 8 [x.len]).σ.L.st.kids (x.len+1)=[x.len]/\((x.var lv).mk' 8 [x.len]).σ.L.st.kind (x.len+1)=8:=by
   rw[e2,<-l1];constructor
   ·rw[St.kids,St.zPw]
   ·rw[St.kind,St.zPw]
  have hlt:x.len+1<((x.var lv).mk' 8 [x.len]).σ.L.st.length:=by rw[e2];simp[l1]
  have:=hS.zUG w2 hlt (by rw[kk.2];decide)
  rw[hS.wf.zQQ (YAW hlt hS.len) this (by rw[hS.kids _ hlt,kk.1])]
 ·rw[e2,zH2 rfl,e1,zH2 rfl];simp
 ·show x.σ.cnt+1+1=x.σ.cnt+1+1;rfl
theorem new2{lim lv:Int}{x:IS}(hg:GoodS x.σ)(hl:¬lv<0)(h:(zOD lim lv x).1=0):NewS x (zOD lim lv x).2 2 .pair:=by
 have h1:GoodS (x.var lv).σ:=hg.var (by omega)
 have h2:GoodS ((x.var lv).var lv).σ:=h1.var (by omega)
 have h3:=(zOE (lim:=lim) hg hl).1
 have hL:=(zOE (lim:=lim) hg hl).2.2 h
 have e:(zOD lim lv x).2=((x.var lv).var lv).mk' 7 [x.len,x.len+1]:=by
  unfold zOD at h⊢
  split at h
  ·cases h
  split at h
  ·cases h
  split at h
  ·cases h
  rename_i a b c
  rw[if_neg a,if_neg b,if_neg c]
 rw[e]at h3 hL⊢
 have e1:(x.var lv).σ.L.st=x.σ.L.st++ [⟨6,lv,none,[]⟩]:=x.σ.zaT lv
 have e2:((x.var lv).var lv).σ.L.st=(x.var lv).σ.L.st++ [⟨6,lv,none,[]⟩]:=(x.var lv).σ.zaT lv
 have e3:(((x.var lv).var lv).mk' 7 [x.len,x.len+1]).σ.L.st=((x.var lv).var lv).σ.L.st++ [⟨7,0,none,[x.len,x.len+1]⟩]:=((x.var lv).var lv).σ.zPf 7 [x.len,x.len+1]
 have w0:=hg.si.wf
 have w1:=h1.si.wf
 have w2:=h2.si.wf
 have w3:=h3.si.wf
 have l0:=x.zNB
 have l1:(x.var lv).σ.L.st.length=x.len+1:=by rw[e1];simp[l0]
 have l2:((x.var lv).var lv).σ.L.st.length=x.len+2:=by rw[e2];simp[l1]
 have x1:Ext x.σ.L.st (x.var lv).σ.L.st:=by rw[e1]at w1⊢;exact Ext.add w1
 have x2:Ext (x.var lv).σ.L.st ((x.var lv).var lv).σ.L.st:=by rw[e2]at w2⊢;exact Ext.add w2
 have x3:Ext ((x.var lv).var lv).σ.L.st (((x.var lv).var lv).mk' 7 [x.len,x.len+1]).σ.L.st:=by rw[e3]at w3⊢;exact Ext.add w3
 refine⟨h3,(x1.trans x2).trans x3,fun hs=> ?_,fun i hi=> ?_,fun i hi hi'=> ?_,fun S' hS=> ?_,by omega,?_,?_,rfl,rfl,rfl⟩
 ·have hs1:StV (x.var lv).σ.L.st:=by rw[e1]at w1⊢;exact hs.var w0 w1
  have hs2:StV ((x.var lv).var lv).σ.L.st:=by rw[e2]at w2⊢;exact hs1.var w1 w2
  rw[e3]at w3⊢;exact hs2.node w2 w3 rfl (by show(7:Int)≠6;decide)
 ·rw[e3]at w3⊢
  rw[w2.zX7 w3 rfl (by omega)]
  rw[e2]at w2⊢
  rw[w1.zX7 w2 rfl (by omega)]
  rw[e1]at w1⊢
  rw[w0.zX7 w1 rfl (by omega)]
 ·rw[e3]at w3⊢
  rw[w2.zX7 w3 rfl (by omega)]
  by_cases hh:i=x.len
  ·subst hh
   rw[e2]at w2⊢
   rw[w1.zX7 w2 rfl (by omega)]
   rw[e1]at w1⊢
   have:=w1.zYB
   rw[l0]at this;exact this
  ·have:i=x.len+1:=by omega
   subst this
   rw[e2]at w2⊢
   have:=w2.zYB
   rw[l1]at this;exact this
 ·have kk:(((x.var lv).var lv).mk' 7 [x.len,x.len+1]).σ.L.st.kids (x.len+2)=[x.len,x.len+1]/\(((x.var lv).var lv).mk' 7 [x.len,x.len+1]).σ.L.st.kind (x.len+2)=7:=by
   rw[e3,<-l2];constructor
   ·rw[St.kids,St.zPw]
   ·rw[St.kind,St.zPw]
  have hlt:x.len+2<(((x.var lv).var lv).mk' 7 [x.len,x.len+1]).σ.L.st.length:=by rw[e3];simp[l2]
  have:=hS.zUG w3 hlt (by rw[kk.2];decide)
  rw[hS.wf.zQR (YAW hlt hS.len) this (by rw[hS.kids _ hlt,kk.1]),hS.kind _ hlt,kk.2]
  rfl
 ·rw[e3,zH2 rfl,e2,zH2 rfl,e1,zH2 rfl];simp
 ·show x.σ.cnt+1+1+1=x.σ.cnt+2+1;omega
def zA2(q:Pt)(j:Nat)(k:T->T->T):Prop:=(q.kind=7/\j=2/\k= .pair)\/((q.kind=8\/q.kind=9)/\j=1/\k=fun a _=> .list a)
def zA1(lim lv:Int)(q:Pt)(i:Nat)(e:Int)(x2:IS)(res:Int×IS):Prop:=
 if e≠0\/q.kind=8 then res=(e,x2)else∃e3 x3,PatR lim lv (q.kid 0) i x2 (e3,x3)/\if e3≠0 then res=(e3,x3)else PatR lim lv (q.kid 1) (i+1) x3 res
inductive PatCs (lim lv:Int) (q:Pt) (n:Nat) (x:IS) (res:Int×IS):Prop
 |any:q.kind=1->res=(0,x)->PatCs lim lv q n x res
 |name:q.kind=2->res=(0,{x with nm:=x.nm++ [q.name],nd:=x.nd++ [n]})->PatCs lim lv q n x res
 |full:res.1=7->PatCs lim lv q n x res
 |leaf:3<=q.kind->q.kind<=6->AgR lim q n (q.kind-3).toNat x res->PatCs lim lv q n x res
 |node (j:Nat) (k:T->T->T) (y:IS) (e:Int) (x2:IS):zA2 q j k->NewS x y j k->AgR lim q n (x.len+j) y (e,x2)->zA1 lim lv q x.len e x2 res->PatCs lim lv q n x res
theorem zR9{lim lv:Int}(hl:¬lv<0){q:Pt}(hok:okA q=true){n:Nat}{x:IS}{res:Int×IS}(hg:GoodS x.σ)(h:PatR lim lv q n x res):PatCs lim lv q n x res:=by
 obtain⟨hk,ho⟩:=zRH hok
 have hkd:=zRN hk
 rw[zSA (zRP hk)]at h
 obtain⟨hoI,h⟩:=h
 split at h
 ·rename_i c;exact .any c h
 split at h
 ·rename_i c;exact .name c h
 split at h
 ·rename_i h7
  have hn:=new2 (lim:=lim) hg hl
  split at h
  ·rename_i h0
   refine .full ?_
   rw[h]
   unfold zOD at h0⊢
   (split<;>try rfl)<;>(split<;>try rfl)<;>(split<;>try rfl)
   rename_i a b c;rw[if_neg a,if_neg b,if_neg c]at h0;exact absurd rfl h0
  ·rename_i h0
   obtain⟨e,x2,h1,h2⟩:=h
   refine .node 2 .pair _ e x2 (.inl ⟨h7,rfl,rfl⟩) (hn (by omega)) h1 ?_
   unfold zA1
   split at h2
   ·rename_i c;rw[if_pos (.inl c)];exact h2
   ·rename_i c;rw[if_neg (by omega)];exact h2
 split at h
 ·rename_i h8
  have hn:=new1 (lim:=lim) hg hl
  split at h
  ·rename_i h0
   refine .full ?_
   rw[h]
   unfold zN8 at h0⊢
   (split<;>try rfl)<;>(split<;>try rfl)
   rename_i a b;rw[if_neg a,if_neg b]at h0;exact absurd rfl h0
  ·rename_i h0
   obtain⟨e,x2,h1,h2⟩:=h
   exact .node 1 _ _ e x2 (.inr ⟨h8,rfl,rfl⟩) (hn (by omega)) h1 h2
 ·have e1:3<=q.kind/\q.kind<=6:=by omega
  rw[zM5 e1]at h
  refine .leaf e1.1 e1.2 ?_
  rw[show q.kind-3=q.kind-2-1 by omega];exact h
theorem zSC{lim lv:Int}{q:Pt}(hok:okA q=true){n:Nat}{x:IS}{e:Int}{x2:IS}{res:Int×IS}(hoI:okI x)(h:q.kind=7\/q.kind=8\/q.kind=9)
 (hm:if q.kind=7 then(zOD lim lv x).1=0/\AgR lim q n (x.len+2) (zOD lim lv x).2 (e,x2)else(zN8 lim lv x).1=0/\AgR lim q n (x.len+1) (zN8 lim lv x).2 (e,x2))
 (hk:zA1 lim lv q x.len e x2 res):PatR lim lv q n x res:=by
 obtain⟨hkk,ho⟩:=zRH hok
 rw[zSA (zRP hkk)]
 refine⟨hoI,?_⟩
 rw[if_neg (by omega),if_neg (by omega)]
 by_cases h7:q.kind=7
 ·rw[if_pos h7]at hm⊢
  rw[if_neg (by rw[hm.1];simp)]
  refine⟨e,x2,hm.2,?_⟩
  unfold zA1 at hk
  split at hk
  ·rename_i c;rw[if_pos (by omega)];exact hk
  ·rename_i c;rw[if_neg (by omega)];exact hk
 ·rw[if_neg h7]at hm⊢
  rw[if_pos (by omega),if_neg (by rw[hm.1];simp)]
  exact⟨e,x2,hm.2,hk⟩
structure EndP (x y:IS) (e:Int) (w:Nat):Prop where
 good:GoodS y.σ
 stv:StV y.σ.L.st
 ext:Ext x.σ.L.st y.σ.L.st
 er:e=0\/e=4\/e=5
 bw:e≠0->y.bw=e
 len:y.len<=x.len+3*w
 cnt1:x.σ.cnt<=y.σ.cnt
 cnt:y.σ.cnt<=x.σ.cnt+3*w
 free:y.σ.L.st.free<=x.σ.L.st.free+2*w
 rd:y.σ.rd<=x.σ.rd+40000*w
 nm:y.nm.length<=x.nm.length+w
 nd:y.nd.length<=x.nd.length+w
theorem EndP.ge{x y:IS}{e:Int}{w:Nat}(h:EndP x y e w):x.len<=y.len:=by have:=h.ext.len;rw[Mem.zXR,Mem.zXR]at this;exact this
theorem EndP.trans{x y z:IS}{e e':Int}{w w' u:Nat}(h:EndP x y e w)(h':EndP y z e' w')(hu:w+w'<=u):EndP x z e' u:=
 ⟨h'.good,h'.stv,h.ext.trans h'.ext,h'.er,h'.bw,by have:=h.len;have:=h'.len;omega,by have:=h.cnt1;have:=h'.cnt1;omega,by have:=h.cnt;have:=h'.cnt;omega,
  by have:=h.free;have:=h'.free;omega,by have:=h.rd;have:=h'.rd;omega,by have:=h.nm;have:=h'.nm;omega,by have:=h.nd;have:=h'.nd;omega⟩
theorem zBy{lim:Int}{q:Pt}{n m:Nat}{x:IS}(hg:GoodS x.σ)(hs:StV x.σ.L.st)(hn:n<x.len)(hm:m<x.len)(sn:(x.σ.L.st.tT n).static=true)(sm:(x.σ.L.st.tT m).static=true)
 (hf:x.σ.L.st.free<=10000) (hl:x.len<=50000) (hc0:0<=x.σ.cnt) (hlim:lim<=65536) (hc:x.σ.cnt<=lim) (hrd:x.σ.rd<=10000000000):
 ∃e y,AgR lim q n m x (e,y)/\GoodS y.σ/\StV y.σ.L.st/\Ext x.σ.L.st y.σ.L.st/\(e=0\/e=4\/e=5)/\(e≠0->y.bw=e)/\y.len=x.len/\y.σ.cnt=x.σ.cnt/\y.σ.L.st.free<=x.σ.L.st.free/\y.σ.rd<=x.σ.rd+40000/\y.nm=x.nm/\y.nd=x.nd:=by
 have w1:=(zak _).2 sn
 have w2:=(zak _).2 sm
 obtain⟨M,⟨l,r,e,σ'⟩,hr,hE⟩:=zU5 (lim:=lim) hg hs hn hm (by omega) (by omega) hl hc0 hlim (by rw[w1,w2];simp;exact hc) hrd
 rw[w1,w2]at hE
 obtain⟨E1,E2,E3,E4,E5,E6,E7,E8,E9,_,_⟩:=hE
 simp only at E1 E2 E3 E4 E5 E6 E7 E8 E9
 have he:e=0\/e=4\/e=5:=by
  rcases E4 with h|h|h
  ·exact .inl h
  ·exact .inr (.inl h.1)
  ·exact .inr (.inr h)
 have hle:=E3.len
 rw[Mem.zXR,Mem.zXR]at hle
 have hlen:σ'.L.length=x.len:=by have:x.len=x.σ.L.length:=rfl;omega
 have hcnt:σ'.cnt=x.σ.cnt:=by omega
 refine⟨e,_,⟨M,l,r,e,σ',hr,rfl⟩,?_⟩
 split
 ·exact⟨E1,E2,E3,he,by omega,hlen,hcnt,by simp only;omega,by simp only;omega,rfl,rfl⟩
 ·exact⟨E1,E2,E3,he,fun _=>rfl,hlen,hcnt,by simp only;omega,by simp only;omega,rfl,rfl⟩
theorem zWA(q:Pt):1<=zV6 q:=by cases q;simp[zV6]
theorem zYH{S:St}(hw:Wf S){i:Nat}(h:i<4):S.tT i= .base ⟨i,h⟩:=by
 have h5:=hw.five
 have e:=hw.shT (n:=i) (by omega)
 have hk:=hw.leaf i (by omega)
 have er:S.root i=i:=zUO (by rw[St.link,hk])
 rw[er]at e
 generalize S.tT i=t at e
 cases e<;>first|rfl|omega
theorem Ext.stat{S S':St}(hw:Wf S)(h:Ext S S')(hs:StV S'){n:Nat}(hn:n<S.length)(e:(S.tT n).static=true):(S'.tT n).static=true:=by rw[h.static hw hs hn];exact e
theorem zSO{lim lv:Int}(hl:¬lv<0)(hlim:lim<=65536):∀q:Pt,okA q=true->∀(n:Nat) (x:IS),GoodS x.σ->StV x.σ.L.st->n<x.len->(x.σ.L.st.tT n).static=true->
 x.len+3*zV6 q<=40000->x.σ.L.st.free+2*zV6 q<=10000->0<=x.σ.cnt->x.σ.cnt+3*(zV6 q:Int)<=lim->x.σ.rd+40000*(zV6 q:Int)<=10000000000->x.nm.length+zV6 q<=600000->x.nd.length+zV6 q<=600000->
 ∃e y,PatR lim lv q n x (e,y)/\EndP x y e (zV6 q):=
 Pt.ind (p:=fun q=>okA q=true->∀(n:Nat) (x:IS),GoodS x.σ->StV x.σ.L.st->n<x.len->(x.σ.L.st.tT n).static=true->
  x.len+3*zV6 q<=40000->x.σ.L.st.free+2*zV6 q<=10000->0<=x.σ.cnt->x.σ.cnt+3*(zV6 q:Int)<=lim->x.σ.rd+40000*(zV6 q:Int)<=10000000000->x.nm.length+zV6 q<=600000->x.nd.length+zV6 q<=600000->
  ∃e y,PatR lim lv q n x (e,y)/\EndP x y e (zV6 q)) fun q ih hok n x hg hs hn sn b1 b2 b3 b4 b5 b6 b7=>by
 obtain⟨hk,ho⟩:=zRH hok
 have hkd:=zRN hk
 have hz:=zWA q
 have hoI:okI x:=⟨by have:x.len=x.σ.L.length:=rfl;omega,b3,by omega,by omega,by omega⟩
 have here:EndP x x 0 (zV6 q):=⟨hg,hs,Ext.refl hg.si.wf,.inl rfl,fun h=>absurd rfl h,by omega,YAQ _,by omega,by omega,by omega,by omega,by omega⟩
 by_cases k1:q.kind=1
 ·refine⟨0,x,?_,here⟩
  rw[zSA (zRP hk)];exact⟨hoI,by rw[if_pos k1]⟩
 by_cases k2:q.kind=2
 ·refine⟨0,{x with nm:=x.nm++ [q.name],nd:=x.nd++ [n]},?_,⟨hg,hs,Ext.refl hg.si.wf,.inl rfl,fun h=>absurd rfl h,by show x.len<=_;omega,YAQ _,by simp only;omega,by simp only;omega,by simp only;omega,by simp;omega,by simp;omega⟩⟩
  rw[zSA (zRP hk)];exact⟨hoI,by rw[if_neg k1,if_pos k2]⟩
 by_cases k3:3<=q.kind/\q.kind<=6
 ·have h5:=hg.five
  have hlt:(q.kind-3).toNat<4:=by omega
  have sb:(x.σ.L.st.tT (q.kind-3).toNat).static=true:=by rw[zYH hg.si.wf hlt];rfl
  obtain⟨e,y,a,c1,c2,c3,c4,c5,c6,c7,c8,c9,c10,c11⟩:=zBy (lim:=lim) (q:=q) hg hs hn (m:=(q.kind-3).toNat) (by have:x.len=x.σ.L.length:=rfl;omega) sn sb (by omega) (by omega) b3 hlim (by omega) (by omega)
  refine⟨e,y,?_,⟨c1,c2,c3,c4,c5,by omega,by omega,by omega,by omega,by omega,by rw[c10];omega,by rw[c11];omega⟩⟩
  rw[zSA (zRP hk)]
  refine⟨hoI,?_⟩
  rw[if_neg k1,if_neg k2,if_neg (by omega),if_neg (by omega),zM5 k3,show q.kind-2-1=q.kind-3 by omega];exact a
 have k7:q.kind=7\/q.kind=8\/q.kind=9:=by omega
 obtain⟨j,k,y,hj,hN,hM⟩:∃j k y,zA2 q j k/\NewS x y j k/\∀e x2,AgR lim q n (x.len+j) y (e,x2)->if q.kind=7 then(zOD lim lv x).1=0/\AgR lim q n (x.len+2) (zOD lim lv x).2 (e,x2)else(zN8 lim lv x).1=0/\AgR lim q n (x.len+1) (zN8 lim lv x).2 (e,x2):=by
  by_cases h7:q.kind=7
  ·have e0:(zOD lim lv x).1=0:=by unfold zOD;rw[if_neg (by omega),if_neg (by omega),if_neg (by omega)]
   exact⟨2,_,_,.inl ⟨h7,rfl,rfl⟩,new2 hg hl e0,fun e x2 a=>by rw[if_pos h7];exact⟨e0,a⟩⟩
  ·have e0:(zN8 lim lv x).1=0:=by unfold zN8;rw[if_neg (by omega),if_neg (by omega)]
   exact⟨1,_,_,.inr ⟨by omega,rfl,rfl⟩,new1 hg hl e0,fun e x2 a=>by rw[if_neg h7];exact⟨e0,a⟩⟩
 have hj2:1<=j/\j<=2:=by rcases hj with ⟨_,h,_⟩|⟨_,h,_⟩<;>omega
 have hlenN:=hN.len
 have hsy:=hN.stv hs
 have hwy:=hN.good.si.wf
 have sny:(y.σ.L.st.tT n).static=true:=by rw[hN.old n hn];exact sn
 have s0:(y.σ.L.st.tT x.len).static=true:=by rw[hN.new _ (YAV _) (by omega)];rfl
 have sl:(y.σ.L.st.tT (x.len+j-1)).static=true:=by rw[hN.new _ (by omega) (by omega)];rfl
 have sm:(y.σ.L.st.tT (x.len+j)).static=true:=by
  rw[hN.node _ (Ext.refl hwy)]
  rcases hj with ⟨_,_,rfl⟩|⟨_,_,rfl⟩
  ·simp only[T.static,s0,sl,Bool.and_self]
  ·simp only[T.static,s0]
 have hfr:=hN.free
 have hcn:=hN.cnt
 have hrd:=hN.rd
 obtain⟨e,x2,a,c1,c2,c3,c4,c5,c6,c7,c8,c9,c10,c11⟩:=zBy (lim:=lim) (q:=q) hN.good hsy (n:=n) (m:=x.len+j) (by omega) (by omega) sny sm (by omega) (by omega) (by omega) hlim (by omega) (by omega)
 have nm2:x2.nm=x.nm:=by rw[c10,hN.nm]
 have nd2:x2.nd=x.nd:=by rw[c11,hN.nd]
 have x02:Ext x.σ.L.st x2.σ.L.st:=hN.ext.trans c3
 have E1:EndP x x2 e 1:=⟨c1,c2,x02,c4,c5,by omega,by omega,by omega,by omega,by omega,by rw[nm2];omega,by rw[nd2];omega⟩
 by_cases he:e≠0\/q.kind=8
 ·refine⟨e,x2,zSC hok hoI k7 (hM e x2 a) (by unfold zA1;rw[if_pos he]),⟨c1,c2,x02,c4,c5,by omega,by omega,by omega,by omega,by omega,by rw[nm2];omega,by rw[nd2];omega⟩⟩
 ·have h2:q.kids.length=2:=zRP hk (by omega)
  have hz2:=zWB h2
  have m0:=zSk (p:=q) (i:=0) (by omega)
  have m1:=zSk (p:=q) (i:=1) (by omega)
  have hz0:=zWA (q.kid 0)
  have hz1:=zWA (q.kid 1)
  have ly:∀i,i<y.len->i<y.σ.L.st.length:=fun i hi=>by rw[Mem.zXR];exact hi
  have t0:(x2.σ.L.st.tT x.len).static=true:=c3.stat hwy c2 (ly _ (by omega)) s0
  have t1:(x2.σ.L.st.tT (x.len+1)).static=true:=c3.stat hwy c2 (ly _ (by omega)) (by
   rcases hj with ⟨_,rfl,_⟩|⟨_,rfl,_⟩
   ·exact sl
   ·exact sm)
  obtain⟨e3,x3,a3,E3⟩:=ih _ m0 (ho _ m0) x.len x2 c1 c2 (by omega) t0 (by omega) (by omega) (by omega) (by omega) (by omega) (by rw[nm2];omega) (by rw[nd2];omega)
  have F3:=E1.trans E3 (YAV _)
  by_cases he3:e3≠0
  ·refine⟨e3,x3,zSC hok hoI k7 (hM e x2 a) (by unfold zA1;rw[if_neg he];exact⟨e3,x3,a3,by rw[if_pos he3]⟩),E1.trans E3 (by omega)⟩
  ·have:=F3.len;have:=F3.cnt;have:=F3.cnt1;have:=F3.free;have:=F3.rd;have:=F3.nm;have:=F3.nd;have:=E3.ge
   have t1':(x3.σ.L.st.tT (x.len+1)).static=true:=E3.ext.stat c1.si.wf E3.stv (by rw[Mem.zXR];exact(by omega:x.len+1<x2.len)) t1
   obtain⟨e4,x4,a4,E4⟩:=ih _ m1 (ho _ m1) (x.len+1) x3 E3.good E3.stv (by omega) t1' (by omega) (by omega) (by omega) (by omega) (by omega) (by omega) (by omega)
   exact⟨e4,x4,zSC hok hoI k7 (hM e x2 a) (by unfold zA1;rw[if_neg he];exact⟨e3,x3,a3,by rw[if_neg he3];exact a4⟩),F3.trans E4 (by omega)⟩
end
section
def enS(θ:Int->T)(S:St)(N:List ByteArray)(D:List Nat):List En:=(N.zip D).map fun z=>(z.1,(putS θ (S.tT z.2)).ty)
theorem zG8(θ:Int->T)(S:St){N N':List ByteArray}{D D':List Nat}(h:N.length=D.length):enS θ S (N++N') (D++D')=enS θ S N D++enS θ S N' D':=by
 unfold enS;rw[List.zip_append h,List.map_append]
theorem zG9{θ θ':Int->T}{S S':St}{N:List ByteArray}{D:List Nat}(h:∀d∈D,putS θ (S.tT d)=putS θ' (S'.tT d)):enS θ S N D=enS θ' S' N D:=by
 unfold enS
 refine List.map_congr_left fun z hz=> ?_
 rw[h z.2 (List.of_mem_zip hz).2]
theorem zDv{q:Pt}(h7:q.kind=7)(h2:q.kids.length=2)(a b:T)(L:List En):zDo q (T.pair a b).ty L=(zDo (q.kid 0) a.ty L).bind (zDo (q.kid 1) b.ty):=by
 rw[zDq _ _ (fun _=>h2),if_neg (by omega),if_neg (by omega),if_pos h7,if_pos (by rfl)];rfl
theorem zDw{q:Pt}(h9:q.kind=9)(h2:q.kids.length=2)(a:T)(L:List En):zDo q (T.list a).ty L=(zDo (q.kid 0) a.ty L).bind (zDo (q.kid 1) (T.list a).ty):=by
 rw[zDq _ _ (fun _=>h2),if_neg (by omega),if_neg (by omega),if_neg (by omega),if_pos h9,if_pos (by rfl)];rfl
theorem zDt{q:Pt}(h8:q.kind=8)(a:T)(L:List En):zDo q (T.list a).ty L=some L:=by
 rw[zDq _ _ (fun h=>by omega),if_neg (by omega),if_neg (by omega),if_neg (by omega),if_neg (by omega),h8];rfl
theorem zDs{q:Pt}(h:3<=q.kind/\q.kind<=6)(hlt:(q.kind-3).toNat<4)(L:List En):zDo q (T.base ⟨(q.kind-3).toNat,hlt⟩).ty L=some L:=by
 rw[zDq _ _ (fun h=>by omega),if_neg (by omega),if_neg (by omega),if_neg (by omega),if_neg (by omega),zM5 h,if_pos]
 show(((q.kind-3).toNat:Nat):Int)+1=q.kind-2;omega
structure FitsS (q:Pt) (n:Nat) (x y:IS) (N:List ByteArray) (D:List Nat):Prop where
 good:GoodS y.σ
 ext:Ext x.σ.L.st y.σ.L.st
 nm:y.nm=x.nm++N
 nd:y.nd=x.nd++D
 same:N.length=D.length
 lt:∀d∈D,d<y.len
 fits:∀S,Ext y.σ.L.st S->StV S->(S.tT n).static=true->(∀(θ:Int->T) (L:List En),zDo q (putS θ (S.tT n)).ty L=some (L++enS θ S N D))/\∀d∈D,∀z,(S.tT d).has z=true->(S.tT n).has z=true
theorem zB0{lim:Int}{q:Pt}{n m:Nat}{x:IS}{y:IS}(hg:GoodS x.σ)(hn:n<x.len)(hm:m<x.len)(h:AgR lim q n m x (0,y)):
 GoodS y.σ/\Ext x.σ.L.st y.σ.L.st/\y.nm=x.nm/\y.nd=x.nd/\∀S,Ext y.σ.L.st S->(S.tT n).static=true->(S.tT m).static=true->S.tT n=S.tT m:=by
 obtain⟨M,l,r,e,σ',hr,e2⟩:=h
 simp only[YAY]at e2
 obtain⟨rfl,e2⟩:=e2
 rw[if_pos (.inl rfl)]at e2
 subst e2
 have hlt:Lt2 x.σ.L.length [(n,m)]:=fun q hq=>by rw[List.mem_singleton]at hq;subst hq;exact⟨hn,hm⟩
 obtain⟨h1,h2,h3⟩:=zVB M [(n,m)] x.σ _ hg hlt hr rfl
 simp only at h1 h2 h3
 have h4:=h3 (n,m) (by simp)
 simp only at h4
 have hle:x.len<=σ'.L.st.length:=by have:=h2.len;rw[Mem.zXR]at this;exact this
 refine⟨h1,h2,rfl,rfl,fun S hS sn sm=> ?_⟩
 have:=zBu (σ:=fun v=>S.tT v.toNat) _ _ h4
 rw[<-hS.tT h1.si.wf n (by omega),<-hS.tT h1.si.wf m (by omega)]at this
 exact zBw _ _ sn sm this
theorem zSP{lim lv:Int}(hl:¬lv<0):∀q:Pt,okA q=true->∀(n:Nat) (x y:IS),GoodS x.σ->n<x.len->PatR lim lv q n x (0,y)->∃N D,FitsS q n x y N D:=
 Pt.ind (p:=fun q=>okA q=true->∀(n:Nat) (x y:IS),GoodS x.σ->n<x.len->PatR lim lv q n x (0,y)->∃N D,FitsS q n x y N D) fun q ih hok n x y hg hn h=>by
 obtain⟨hk,ho⟩:=zRH hok
 have hkd:=zRN hk
 have hC:=zR9 hl hok hg h
 rcases hC with ⟨k1,e⟩|⟨k2,e⟩|e|⟨k3,k6,ha⟩|⟨j,k,y1,e,x2,hj,hN,ha,hK⟩
 ·cases e
  refine⟨[],[],hg,Ext.refl hg.si.wf,by simp,by simp,rfl,by simp,fun S _ _ _=>⟨fun θ L=> ?_,by simp⟩⟩
  rw[zDq _ _ (zRP hk),if_pos k1];simp[enS]
 ·cases e
  refine⟨[q.name],[n],hg,Ext.refl hg.si.wf,rfl,rfl,rfl,by simp;exact hn,fun S _ _ _=>⟨fun θ L=> ?_,fun d hd z hz=>by simp at hd;subst hd;exact hz⟩⟩
  rw[zDq _ _ (zRP hk),if_neg (by omega),if_pos k2];simp[enS]
 ·cases e
 ·have h5:=hg.five
  have hlt:(q.kind-3).toNat<4:=by omega
  obtain⟨a1,a2,a3,a4,a5⟩:=zB0 hg hn (by have:x.len=x.σ.L.length:=rfl;omega) ha
  refine⟨[],[],a1,a2,by simp[a3],by simp[a4],rfl,by simp,fun S hS hv sn=>⟨fun θ L=> ?_,by simp⟩⟩
  have e:=a5 S hS sn (by rw[zYH hS.wf hlt];rfl)
  rw[e,zYH hS.wf hlt]
  show zDo q (T.base _).ty L=_
  rw[zDs ⟨k3,k6⟩ hlt];simp[enS]
 ·have hlen:=hN.len
  have hj2:1<=j/\j<=2:=by rcases hj with ⟨_,h,_⟩|⟨_,h,_⟩<;>omega
  have he:e=0:=by
   unfold zA1 at hK
   by_cases c:e=0
   ·exact c
   ·rw[if_pos (.inl c)]at hK;cases hK;rfl
  subst he
  obtain⟨a1,a2,a3,a4,a5⟩:=zB0 hN.good (by omega) (by omega) ha
  have hge:y1.len<=x2.len:=by have:=a2.len;rw[Mem.zXR,Mem.zXR]at this;exact this
  have hwy:=hN.good.si.wf
  have key:∀S,Ext x2.σ.L.st S->StV S->(S.tT n).static=true->S.tT n=S.tT (x.len+j)/\S.tT (x.len+j)=k (S.tT x.len) (S.tT (x.len+j-1))/\(S.tT x.len).static=true/\(S.tT (x.len+j-1)).static=true:=fun S hS hv sn=>by
   have x1:=a2.trans hS
   have t0:(S.tT x.len).static=true:=x1.stat hwy hv (by rw[IS.zNB];omega) (by rw[hN.new _ (YAV _) (by omega)];rfl)
   have t1:(S.tT (x.len+j-1)).static=true:=x1.stat hwy hv (by rw[IS.zNB];omega) (by rw[hN.new _ (by omega) (by omega)];rfl)
   have tm:=hN.node S x1
   refine⟨a5 S hS sn ?_,tm,t0,t1⟩
   rw[tm]
   rcases hj with ⟨_,_,rfl⟩|⟨_,_,rfl⟩
   ·simp only[T.static,t0,t1,Bool.and_self]
   ·simp only[T.static,t0]
  by_cases h8:q.kind=8
  ·unfold zA1 at hK
   rw[if_pos (.inr h8)]at hK
   cases hK
   refine⟨[],[],a1,hN.ext.trans a2,by simp[a3,hN.nm],by simp[a4,hN.nd],rfl,by simp,fun S hS hv sn=>⟨fun θ L=> ?_,by simp⟩⟩
   obtain⟨b1,b2,b3,b4⟩:=key S hS hv sn
   rcases hj with ⟨c,_⟩|⟨_,_,rfl⟩
   ·omega
   rw[b1,b2]
   show zDo q (T.list _).ty L=_
   rw[zDt h8];simp[enS]
  ·unfold zA1 at hK
   rw[if_neg (by omega)]at hK
   obtain⟨e3,x3,r0,r1⟩:=hK
   have he3:e3=0:=by
    by_cases c:e3=0
    ·exact c
    ·rw[if_pos c]at r1;cases r1;rfl
   subst he3
   rw[if_neg (by omega)]at r1
   have h2:q.kids.length=2:=zRP hk (by rcases hj with ⟨c,_⟩|⟨c,_⟩<;>omega)
   have m0:=zSk (p:=q) (i:=0) (by omega)
   have m1:=zSk (p:=q) (i:=1) (by omega)
   obtain⟨N0,D0,F0⟩:=ih _ m0 (ho _ m0) x.len x2 x3 a1 (by omega) r0
   have hge3:x2.len<=x3.len:=by have:=F0.ext.len;rw[Mem.zXR,Mem.zXR]at this;exact this
   obtain⟨N1,D1,F1⟩:=ih _ m1 (ho _ m1) (x.len+1) x3 y F0.good (by omega) r1
   have hge4:x3.len<=y.len:=by have:=F1.ext.len;rw[Mem.zXR,Mem.zXR]at this;exact this
   refine⟨N0++N1,D0++D1,F1.good,((hN.ext.trans a2).trans F0.ext).trans F1.ext,by rw[F1.nm,F0.nm,a3,hN.nm,List.append_assoc],by rw[F1.nd,F0.nd,a4,hN.nd,List.append_assoc],by simp[F0.same,F1.same],fun d hd=> ?_,fun S hS hv sn=> ?_⟩
   ·rcases List.mem_append.1 hd with hd|hd
    ·have:=F0.lt d hd;omega
    ·exact F1.lt d hd
   ·have x3S:=F1.ext.trans hS
    obtain⟨b1,b2,b3,b4⟩:=key S (F0.ext.trans x3S) hv sn
    obtain⟨f1,f2⟩:=F0.fits S x3S hv b3
    have sn1:(S.tT (x.len+1)).static=true:=by
     rcases hj with ⟨_,rfl,_⟩|⟨_,rfl,_⟩
     ·exact b4
     ·rw[<-b1];exact sn
    obtain⟨g1,g2⟩:=F1.fits S hS hv sn1
    constructor
    ·intro θ L
     rw[zG8 _ _ F0.same,<-List.append_assoc]
     rcases hj with ⟨h7,rfl,rfl⟩|⟨h9,rfl,rfl⟩
     ·rw[b1,b2]
      show zDo q (T.pair _ _).ty L=_
      rw[zDv h7 h2,f1]
      exact g1 θ _
     ·rw[b1,b2]
      show zDo q (T.list _).ty L=_
      rw[zDw (by omega) h2,f1]
      have:=g1 θ (L++enS θ S N0 D0)
      rw[b2]at this
      exact this
    ·intro d hd z hz
     rw[b1,b2]
     rcases List.mem_append.1 hd with hd|hd
     ·have:=f2 d hd z hz
      rcases hj with ⟨h7,rfl,rfl⟩|⟨h9,rfl,rfl⟩
      ·simp only[T.has,this,Bool.true_or]
      ·simp only[T.has,this]
     ·have:=g2 d hd z hz
      rcases hj with ⟨h7,rfl,rfl⟩|⟨h9,rfl,rfl⟩
      ·have e1:x.len+2-1=x.len+1:=by omega
       rw[e1];simp only[T.has,this,Bool.or_true]
      ·rw[<-b2];exact this
theorem zBx{lim:Int}{q:Pt}{n m:Nat}{x:IS}{e:Int}{y:IS}{val:Int->T}(hg:GoodS x.σ)(hn:n<x.len)(hm:m<x.len)(h:AgR lim q n m x (e,y))(he:e≠7)(hv:∀z,(val z).static=true)
 (ha:putS val (x.σ.L.st.tT n)=putS val (x.σ.L.st.tT m)):
 e=0/\GoodS y.σ/\x.len<=y.len/\y.nm=x.nm/\y.nd=x.nd/\∃val':Int->T,(∀z,(val' z).static=true)/\∀i,i<x.len->putS val' (y.σ.L.st.tT i)=putS val (x.σ.L.st.tT i):=by
 obtain⟨M,l,r,e',σ',hr,e2⟩:=h
 simp only[YAY]at e2
 obtain⟨rfl,e2⟩:=e2
 have hlt:Lt2 x.σ.L.length [(n,m)]:=fun q hq=>by rw[List.mem_singleton]at hq;subst hq;exact⟨hn,hm⟩
 obtain⟨h1,val',h2,h3⟩:=zUs M [(n,m)] x.σ _ val hg hlt hr he hv fun p hp=>by
  rw[List.mem_singleton]at hp;subst hp;simp only;rw[ha];exact zBv _
 obtain⟨g1,g2,_⟩:=zVB M [(n,m)] x.σ _ hg hlt hr h1
 simp only at h1 h3 g1 g2
 rw[if_pos (.inl h1)]at e2
 subst e2
 have hle:x.len<=σ'.L.length:=by have:=g2.len;rw[Mem.zXR,Mem.zXR]at this;exact this
 exact⟨h1,g1,hle,rfl,rfl,val',h2,h3⟩
structure FndS (q:Pt) (x y:IS) (e:Int) (val val':Int->T) (L L':List En):Prop where
 er:e=0
 good:GoodS y.σ
 ge:x.len<=y.len
 stat:∀z,(val' z).static=true
 old:∀i,i<x.len->putS val' (y.σ.L.st.tT i)=putS val (x.σ.L.st.tT i)
 ents:∃N D,y.nm=x.nm++N/\y.nd=x.nd++D/\N.length=D.length/\(∀d∈D,d<y.len)/\L'=L++enS val' y.σ.L.st N D
theorem zZ8{t:T}{k:Int}(hk:3<=k/\k<=6)(hlt:(k-3).toNat<4)(h:t.ty.kind=zM4 k):t= .base ⟨(k-3).toNat,hlt⟩:=by
 rw[zM5 hk]at h
 cases t with
 |base b=>simp only[T.ty,Ty.kind]at h;congr 1;apply Fin.ext;simp only;omega
 |_=>simp only[T.ty,Ty.kind]at h;omega
theorem zaB{t:T}(h:t.ty.kind=7):∃a b,t= .pair a b:=by
 cases t with
 |pair a b=>exact⟨a,b,rfl⟩
 |base b=>simp only[T.ty,Ty.kind]at h;have:=b.isLt;omega
 |_=>simp only[T.ty,Ty.kind]at h;omega
theorem zZ9{t:T}(h:t.ty.kind=8):∃a,t= .list a:=by
 cases t with
 |list a=>exact⟨a,rfl⟩
 |base b=>simp only[T.ty,Ty.kind]at h;have:=b.isLt;omega
 |_=>simp only[T.ty,Ty.kind]at h;omega
theorem zSN{lim lv:Int}(hl:¬lv<0):∀q:Pt,okA q=true->∀(n:Nat) (x:IS) (e:Int) (y:IS) (val:Int->T) (L L':List En),GoodS x.σ->n<x.len->PatR lim lv q n x (e,y)->e≠7->(∀z,(val z).static=true)->(putS val (x.σ.L.st.tT n)).static=true->
 zDo q (putS val (x.σ.L.st.tT n)).ty L=some L'->∃val',FndS q x y e val val' L L':=
 Pt.ind (p:=fun q=>okA q=true->∀(n:Nat) (x:IS) (e:Int) (y:IS) (val:Int->T) (L L':List En),GoodS x.σ->n<x.len->PatR lim lv q n x (e,y)->e≠7->(∀z,(val z).static=true)->(putS val (x.σ.L.st.tT n)).static=true->
  zDo q (putS val (x.σ.L.st.tT n)).ty L=some L'->∃val',FndS q x y e val val' L L') fun q ih hok n x e y val L L' hg hn h h7 hv hst hb=>by
 obtain⟨hk,ho⟩:=zRH hok
 have hkd:=zRN hk
 rw[zDq _ _ (zRP hk)]at hb
 have hC:=zR9 hl hok hg h
 rcases hC with ⟨k1,e0⟩|⟨k2,e0⟩|e0|⟨k3,k6,ha⟩|⟨j,k,y1,e1,x2,hj,hN,ha,hK⟩
 ·cases e0
  rw[if_pos k1]at hb
  cases hb
  exact⟨val,rfl,hg,YAV _,hv,fun i hi=>rfl,[],[],by simp,by simp,rfl,by simp,by simp[enS]⟩
 ·cases e0
  rw[if_neg (by omega),if_pos k2]at hb
  cases hb
  exact⟨val,rfl,hg,YAV _,hv,fun i hi=>rfl,[q.name],[n],rfl,rfl,rfl,by simp;exact hn,by simp[enS]⟩
 ·exact absurd e0 h7
 ·rw[if_neg (by omega),if_neg (by omega),if_neg (by omega),if_neg (by omega)]at hb
  have h5:=hg.five
  have hlt:(q.kind-3).toNat<4:=by omega
  split at hb
  ·rename_i c
   cases hb
   have:=zZ8 ⟨k3,k6⟩ hlt c
   obtain⟨f1,f2,f3,f4,f5,val',f6,f7⟩:=zBx hg hn (by have:x.len=x.σ.L.length:=rfl;omega) ha h7 hv (by rw[this,zYH hg.si.wf hlt];rfl)
   exact⟨val',f1,f2,f3,f6,f7,[],[],by simp[f4],by simp[f5],rfl,by simp,by simp[enS]⟩
  ·cases hb
 ·have hlen:=hN.len
  have hj2:1<=j/\j<=2:=by rcases hj with ⟨_,h,_⟩|⟨_,h,_⟩<;>omega
  have e17:e1≠7:=by
   unfold zA1 at hK
   by_cases c:e1≠0\/q.kind=8
   ·rw[if_pos c]at hK;cases hK;exact h7
   ·omega
  obtain⟨c0,c1,hc,hs0,hs1,hbk⟩:∃c0 c1,putS val (x.σ.L.st.tT n)=k c0 c1/\c0.static=true/\c1.static=true/\if q.kind=8 then some L=some L' else(zDo (q.kid 0) c0.ty L).bind (zDo (q.kid 1) (if q.kind=7 then c1 else k c0 c1).ty)=some L':=by
   rcases hj with ⟨hk7,rfl,rfl⟩|⟨h89,rfl,rfl⟩
   ·rw[if_neg (by omega),if_neg (by omega),if_pos hk7]at hb
    split at hb
    ·rename_i c
     obtain⟨a,b,e⟩:=zaB c
     rw[e]at hst hb
     simp only[T.static,YAA]at hst
     refine⟨a,b,e,hst.1,hst.2,?_⟩
     rw[if_neg (by omega),if_pos hk7];exact hb
    ·cases hb
   ·rw[if_neg (by omega),if_neg (by omega),if_neg (by omega)]at hb
    have c:(putS val (x.σ.L.st.tT n)).ty.kind=8:=by
     rcases h89 with h|h
     ·rw[if_neg (by omega),h]at hb
      split at hb
      ·assumption
      ·cases hb
     ·rw[if_pos h]at hb
      split at hb
      ·assumption
      ·cases hb
    obtain⟨a,e⟩:=zZ9 c
    rw[e]at hst hb
    simp only[T.static]at hst
    refine⟨a,a,e,hst,hst,?_⟩
    rcases h89 with h|h
    ·rw[if_pos h]
     rw[if_neg (by omega),if_pos (by rw[h];rfl)]at hb
     exact hb
    ·rw[if_neg (by omega),if_neg (by omega)]
     rw[if_pos h,if_pos (by rfl)]at hb
     exact hb
  have hwx:=hg.si.wf
  have hwy:=hN.good.si.wf
  have v1s:∀z,(valU val x.len c0 c1 z).static=true:=fun z=>by
   by_cases c:z=x.len
   ·unfold valU;rw[if_pos c];exact hs0
   ·by_cases c':z=(x.len+1:Nat)
    ·unfold valU;rw[if_neg c,if_pos c'];exact hs1
    ·unfold valU;rw[if_neg c,if_neg c'];exact hv z
  have v1o:∀i,i<x.len->putS (valU val x.len c0 c1) (y1.σ.L.st.tT i)=putS val (x.σ.L.st.tT i):=fun i hi=>by
   rw[hN.old i hi]
   have:=zaO hwx (val:=val) (c0:=c0) (c1:=c1) (n:=i) (by rw[IS.zNB];exact hi)
   rw[IS.zNB]at this;exact this
  have v10:putS (valU val x.len c0 c1) (y1.σ.L.st.tT x.len)=c0:=by
   rw[hN.new _ (YAV _) (by omega)];show valU val x.len c0 c1 x.len=_;unfold valU;rw[if_pos rfl]
  have v1m:putS (valU val x.len c0 c1) (y1.σ.L.st.tT (x.len+j))=k c0 c1/\(q.kind=7->putS (valU val x.len c0 c1) (y1.σ.L.st.tT (x.len+1))=c1):=by
   rw[hN.node _ (Ext.refl hwy)]
   rcases hj with ⟨hk7,rfl,rfl⟩|⟨h89,rfl,rfl⟩
   ·have:putS (valU val x.len c0 c1) (y1.σ.L.st.tT (x.len+1))=c1:=by
     rw[hN.new _ (by omega) (by omega)];show valU val x.len c0 c1 ((x.len+1:Nat):Int)=_;unfold valU;rw[if_neg (by omega),if_pos rfl]
    refine⟨?_,fun _=>this⟩
    show T.pair (putS _ (y1.σ.L.st.tT x.len)) (putS _ (y1.σ.L.st.tT (x.len+1)))=_
    rw[v10,this]
   ·refine⟨?_,fun h=>by omega⟩
    show T.list (putS _ (y1.σ.L.st.tT x.len))=_
    rw[v10]
  obtain⟨he1,g2,ge2,nm2,nd2,val2,v2s,v2o⟩:=zBx (val:=valU val x.len c0 c1) hN.good (by omega) (by omega) ha e17 v1s (by rw[v1o n hn,hc,v1m.1])
  have old2:∀i,i<x.len->putS val2 (x2.σ.L.st.tT i)=putS val (x.σ.L.st.tT i):=fun i hi=>by rw[v2o i (by omega),v1o i hi]
  by_cases h8:q.kind=8
  ·unfold zA1 at hK
   rw[if_pos (.inr h8)]at hK
   cases hK
   rw[if_pos h8]at hbk
   cases hbk
   exact⟨val2,he1,g2,by omega,v2s,old2,[],[],by simp[nm2,hN.nm],by simp[nd2,hN.nd],rfl,by simp,by simp[enS]⟩
  ·unfold zA1 at hK
   rw[if_neg (by omega)]at hK
   rw[if_neg h8]at hbk
   obtain⟨e3,x3,r0,r1⟩:=hK
   have h2:q.kids.length=2:=zRP hk (by rcases hj with ⟨c,_⟩|⟨c,_⟩<;>omega)
   have m0:=zSk (p:=q) (i:=0) (by omega)
   have m1:=zSk (p:=q) (i:=1) (by omega)
   obtain⟨L1,hb0,hb1⟩:=Option.bind_eq_some_iff.1 hbk
   have e37:e3≠7:=by
    by_cases c:e3≠0
    ·rw[if_pos c]at r1;cases r1;exact h7
    ·omega
   have t0:putS val2 (x2.σ.L.st.tT x.len)=c0:=by rw[v2o _ (by omega),v10]
   obtain⟨val3,F3⟩:=ih _ m0 (ho _ m0) x.len x2 e3 x3 val2 L L1 g2 (by omega) r0 e37 v2s (by rw[t0];exact hs0) (by rw[t0];exact hb0)
   have he3:=F3.er
   rw[if_neg (by omega)]at r1
   have t1:putS val3 (x3.σ.L.st.tT (x.len+1))=if q.kind=7 then c1 else k c0 c1:=by
    rw[F3.old _ (by omega),v2o _ (by omega)]
    split
    ·rename_i h;exact v1m.2 h
    ·rename_i h
     rcases hj with ⟨hk7,_⟩|⟨h89,rfl,_⟩
     ·exact absurd hk7 h
     ·exact v1m.1
   have ts:(if q.kind=7 then c1 else k c0 c1).static=true:=by
    split
    ·exact hs1
    ·rw[<-hc];exact hst
   have hge3:=F3.ge
   obtain⟨val4,F4⟩:=ih _ m1 (ho _ m1) (x.len+1) x3 e y val3 L1 L' F3.good (by omega) r1 h7 F3.stat (by rw[t1];exact ts) (by rw[t1];exact hb1)
   have hge4:=F4.ge
   obtain⟨N0,D0,a1,a2,a3,a4,a5⟩:=F3.ents
   obtain⟨N1,D1,b1,b2,b3,b4,b5⟩:=F4.ents
   refine⟨val4,F4.er,F4.good,by omega,F4.stat,fun i hi=> ?_,N0++N1,D0++D1,by rw[b1,a1,nm2,hN.nm,List.append_assoc],by rw[b2,a2,nd2,hN.nd,List.append_assoc],by simp[a3,b3],fun d hd=> ?_,?_⟩
   ·rw[F4.old i (by omega),F3.old i (by omega),old2 i hi]
   ·rcases List.mem_append.1 hd with hd|hd
    ·have:=a4 d hd;omega
    ·exact b4 d hd
   ·rw[zG8 _ _ a3,b5,a5,List.append_assoc]
    congr 2
    exact zG9 fun d hd=>(F4.old d (a4 d hd)).symm
end
section
def sg0:Sto:=⟨mem0++ [varN 1],5,1,0⟩
theorem zVq:zAv sg0.L.st:=zAv.add zQN rfl
theorem zVp:GoodS sg0:=⟨SI.mem0.var 1,fun n h=>by
 rcases Nat.lt_or_ge n 6 with hn|hn
 ·match n,hn with
  |0,_|1,_|2,_|3,_|4,_=>revert h;decide
  |5,_=>decide
 ·rw[St.kind,St.zPx (by rw[Mem.zXR];exact hn)]at h;exact absurd h (by decide)⟩
theorem zVr:StV sg0.L.st:=zVq.stv zVp.si.wf
theorem zVn:sg0.L.st.tT 5= .var 5:=zVp.si.wf.zYA (by decide) (by decide) (zVq 5)
theorem zVo:sg0.L.st.free=1:=by decide
structure IntoF (q:Pt) (e:Int) (x:IS):Prop where
 pr:PatR 65536 1 q 5 (IS.of sg0) (e,x)
 er:e=0\/e=4\/e=5
 bw:e≠0->x.bw=e
 good:GoodS x.σ
 stv:StV x.σ.L.st
 len6:6<=x.len
 len:x.len<=2000
 cnt1:0<=x.σ.cnt
 cnt:x.σ.cnt<=2000
 stat:(x.σ.L.st.tT 5).static=true
 nm:x.nm.length<=401
theorem zLu{q:Pt}(hok:okA q=true)(hs:zV6 q<=401):∃e x,IntoF q e x:=by
 have l0:(IS.of sg0).len=6:=rfl
 have f0:(IS.of sg0).σ.L.st.free=1:=zVo
 have c0:(IS.of sg0).σ.cnt=1:=rfl
 have r0:(IS.of sg0).σ.rd=0:=rfl
 have s0:((IS.of sg0).σ.L.st.tT 5).static=true:=by show(sg0.L.st.tT 5).static=true;rw[zVn];rfl
 obtain⟨e,x,h,E⟩:=zSO (lim:=65536) (lv:=1) (by decide) (by decide) q hok 5 (IS.of sg0) zVp zVr (by decide) s0 (by omega) (by omega) (by omega) (by omega) (by omega) (by show 0+_<=_;omega) (by show 0+_<=_;omega)
 refine⟨e,x,h,E.er,E.bw,E.good,E.stv,by have:=E.ge;omega,by have:=E.len;omega,by have:=E.cnt1;omega,by have:=E.cnt;omega,E.ext.stat zVp.si.wf E.stv (by decide) s0,by have:=E.nm;have h0:(IS.of sg0).nm.length=0:=rfl;omega⟩
theorem IntoF.yes{q:Pt}(hok:okA q=true){x:IS}(h:IntoF q 0 x):
 x.nm.length=x.nd.length/\(∀d∈x.nd,d<x.len/\∀z,(x.σ.L.st.tT d).has z=true->(x.σ.L.st.tT 5).has z=true)/\
 ∀(θ:Int->T),zDo q (putS θ (x.σ.L.st.tT 5)).ty []=some (enS θ x.σ.L.st x.nm x.nd):=by
 obtain⟨N,D,F⟩:=zSP (lim:=65536) (lv:=1) (by decide) q hok 5 (IS.of sg0) x zVp (by decide) h.pr
 have e1:x.nm=N:=F.nm
 have e2:x.nd=D:=F.nd
 obtain⟨h1,h2⟩:=F.fits _ (Ext.refl h.good.si.wf) h.stv h.stat
 rw[e1,e2]
 exact⟨F.same,fun d hd=>⟨F.lt d hd,h2 d hd⟩,fun θ=>h1 θ []⟩
theorem zHB(θ:Int->T)(S:St){N:List ByteArray}{D:List Nat}(h:N.length=D.length):(enS θ S N D).length=N.length:=by simp[enS,h]
theorem zHA(θ:Int->T)(S:St){N:List ByteArray}{D:List Nat}(h:N.length=D.length){i:Nat}(hi:i<N.length):(enS θ S N D).getD i default=(N.getD i default,(putS θ (S.tT (D.getD i 0))).ty):=by
 have h2:i<D.length:=by omega
 have e:(N.zip D)[i]?=some (N[i],D[i]):=by rw[YAI (by simp;omega),List.getElem_zip]
 simp[enS,hi,h2,e]
theorem IntoF.fit{q:Pt}(hok:okA q=true){e:Int}{x:IS}(h:IntoF q e x){t:T}(ht:t.static=true){L:List En}(hb:zDo q t.ty []=some L):
 e=0/\∃val:Int->T,(∀z,(val z).static=true)/\putS val (x.σ.L.st.tT 5)=t/\L=enS val x.σ.L.st x.nm x.nd:=by
 have s0:(fun z:Int=>if z=5 then t else .base 0) 5=t:=rfl
 have e0:putS (fun z:Int=>if z=5 then t else .base 0) ((IS.of sg0).σ.L.st.tT 5)=t:=by
  show putS _ (sg0.L.st.tT 5)=t
  rw[zVn];rfl
 obtain⟨val,F⟩:=zSN (lim:=65536) (lv:=1) (by decide) q hok 5 (IS.of sg0) e x (fun z=>if z=5 then t else .base 0) [] L zVp (by decide) h.pr (by rcases h.er with h|h|h<;>omega) (fun z=>by
  by_cases c:z=5
  ·simp only[c,if_true];exact ht
  ·simp only[c,if_false];rfl) (by rw[e0];exact ht) (by rw[e0];exact hb)
 obtain⟨N,D,h1,h2,h3,h4,h5⟩:=F.ents
 have e1:x.nm=N:=h1
 have e2:x.nd=D:=h2
 refine⟨F.er,val,F.stat,by rw[F.old 5 (by decide),e0],?_⟩
 rw[e1,e2,h5];rfl
theorem IntoF.match{q:Pt}(hok:okA q=true){x:IS}(h:IntoF q 0 x){t:T}(ht:t.static=true)(hto:t.ok=true){L:List En}(hb:zDo q t.ty []=some L):
 ∃B,zO6 (x.σ.L.st.tT 5) t []=some B/\okBs (bdL B)=true/\L=enS (sigB (bdL B)) x.σ.L.st x.nm x.nd:=by
 obtain⟨_,val,h1,h2,h3⟩:=h.fit hok ht hb
 have hm:=(zO8 (x.σ.L.st.tT 5) t).2 ⟨val,h2,fun k _=>by rw[zXd];exact h1 k⟩
 obtain⟨B,hB⟩:=Option.isSome_iff_exists.1 hm
 have hx:=h.good.si.wf.zYC (n:=5) (by rw[IS.zNB];have:=h.len;omega) (by rw[IS.zNB];have:=h.len6;omega)
 obtain⟨b1,b2,_⟩:=zDE hx hto hB
 refine⟨B,hB,b1,?_⟩
 rw[h3]
 have key:=zS1 _ (h2.trans b2.symm)
 obtain⟨_,h5,_⟩:=h.yes hok
 refine zG9 fun d hd=> ?_
 exact zSx _ fun n hn=>key n ((h5 d hd).2 n hn)
theorem rd14{F:List AObj}{s r:Nat}(hs:s<F.length)(hr:r<F.length)(hne:r≠s){x:IS}(hg:GoodS x.σ){n:Nat}(hn:n<x.len){c:Int}(hc:0<=c/\c<=65536):
 zAd Try.prog 30 [.bptr s 0,.int .i64 (n:Nat)] (hpS F s r x.σ.v x.σ.L 65536 c x.σ.rd) (if((x.σ.L.st.tT n).size:Int)<=65536-c then .tup [emb (x.σ.L.st.tT n).ty,.int .i64 0]else .tup [emb (.mk 0 0 []),.int .i64 7])
  (hpS F s r x.σ.v x.σ.L 65536 (if((x.σ.L.st.tT n).size:Int)<=65536-c then c+(x.σ.L.st.tT n).size else c) x.σ.rd):=by
 have hn':n<x.σ.L.st.length:=by rw[IS.zNB];exact hn
 have h:=zTV (F:=F) (s:=s) (r:=r) (v:=x.σ.v) (L:=x.σ.L) (lim:=65536) (cnt:=c) (rd:=x.σ.rd) hs hr hne hg.si.wf n (by rw[Mem.zXR]at hn';exact hn') ⟨hc.1,hc.2,by omega⟩
 rw[hg.si.wf.zYI n hn',zQb]at h
 exact h
theorem zaP{F:List AObj}{s r:Nat}(hs:s<F.length)(hr:r<F.length)(hne:r≠s):zAd Try.prog 34 [.bptr s 0,.int .i64 1] (hpS F s r 4 mem0 65536 0 0) (.tup [.int .i64 5,.int .i64 0]) (hpS F s r 5 sg0.L 65536 1 0):=
 var_ok hs hr hne 1 (by decide) (by decide) (by decide) (by decide)
theorem zXq(a:ByteArray):(a.toList !=a.toList)=false:=by simp
theorem zXt{l:List ByteArray}{i:Nat}(h:i<l.length):(l.map ST).getD i .any=ST (l.getD i default):=by simp[h]
theorem zXQ{G:List AObj}{s r q:Nat}{x:AObj}(hq:G[q]?=some x)(hs:q≠s)(hr:q≠r):(∀bx ar,(stF G s r bx ar)[q]?=some x)/\∀J bx ar,(stF (G++J) s r bx ar)[q]?=some x:=by
 have hg:=zIc hq
 exact⟨fun bx ar=>by rw[zXC (by omega) (by omega)];exact hq,fun J bx ar=>by rw[zXC (by omega) (by omega),YAG hg];exact hq⟩
end
end Go.Proofs.Ytdngjamjccjlmaa
