/- Lemmas: a pattern goes into a store, in plain Lean. No condition. -/
import Derived.Test.YtdngjamjccjlmaaGreatPQb
import Derived.Test.YtdngjamjccjlmaaGreatPNc
set_option linter.unusedSimpArgs false
set_option linter.unusedVariables false
namespace Go.Proofs.YtdngjamjccjlmaaGreat
open Go Go.Ab
section
structure NewS (x y:IS) (j:Nat) (k:T->T->T):Prop where
 good:GoodS y.σ
 ext:Ext x.σ.L.st y.σ.L.st
 stv:StV x.σ.L.st->StV y.σ.L.st
 old:∀i,i<x.len->y.σ.L.st.tT i=x.σ.L.st.tT i
 new:∀i,x.len<=i->i<x.len+j->y.σ.L.st.tT i= .var i
 node:∀S',Ext y.σ.L.st S'->S'.tT (x.len+j)=k (S'.tT x.len) (S'.tT (x.len+j-1))
 len:y.len=x.len+j+1
 free:y.σ.L.st.free=x.σ.L.st.free+j
 cnt:y.σ.cnt=x.σ.cnt+j+1
 rd:y.σ.rd=x.σ.rd
 nm:y.nm=x.nm
 nd:y.nd=x.nd
theorem Sto.zaT(σ:Sto)(lv:Int):(σ.var lv).L.st=σ.L.st++ [⟨6,lv,none,[]⟩]:=by rw[Sto.var,Mem.zXM];rfl
theorem Sto.zPf(σ:Sto)(k:Int)(ks:List Nat):(σ.mk' k ks).L.st=σ.L.st++ [⟨k,0,none,ks⟩]:=by rw[Sto.mk',Mem.zXM]
theorem IS.zNB(x:IS):x.σ.L.st.length=x.len:=Mem.zXR _
theorem new1{lim lv:Int}{x:IS}(hg:GoodS x.σ)(hl:¬lv<0)(h:(zN8 lim lv x).1=0):NewS x (zN8 lim lv x).2 1 (fun a _=> .list a):=by
 have h1:GoodS (x.var lv).σ:=hg.var (by omega)
 have h2:=(zN9 (lim:=lim) hg hl).1
 have hL:=(zN9 (lim:=lim) hg hl).2.2 h
 have e:(zN8 lim lv x).2=(x.var lv).mk' 8 [x.len]:=by
  unfold zN8 at h⊢
  split at h
  ·cases h
  split at h
  ·cases h
  rename_i a b
  rw[if_neg a,if_neg b]
 rw[e]at h2 hL⊢
 have e1:(x.var lv).σ.L.st=x.σ.L.st++ [⟨6,lv,none,[]⟩]:=x.σ.zaT lv
 have e2:((x.var lv).mk' 8 [x.len]).σ.L.st=(x.var lv).σ.L.st++ [⟨8,0,none,[x.len]⟩]:=(x.var lv).σ.zPf 8 [x.len]
 have w0:=hg.si.wf
 have w1:=h1.si.wf
 have w2:=h2.si.wf
 have l0:=x.zNB
 have l1:(x.var lv).σ.L.st.length=x.len+1:=by rw[e1];simp[l0]
 have x1:Ext x.σ.L.st (x.var lv).σ.L.st:=by rw[e1]at w1⊢;exact Ext.add w1
 have x2:Ext (x.var lv).σ.L.st ((x.var lv).mk' 8 [x.len]).σ.L.st:=by rw[e2]at w2⊢;exact Ext.add w2
 refine⟨h2,x1.trans x2,fun hs=> ?_,fun i hi=> ?_,fun i hi hi'=> ?_,fun S' hS=> ?_,by omega,?_,?_,rfl,rfl,rfl⟩
 ·have hs1:StV (x.var lv).σ.L.st:=by rw[e1]at w1⊢;exact hs.var w0 w1
  rw[e2]at w2⊢;exact hs1.node w1 w2 rfl (by show(8:Int)≠6;decide)
 ·rw[e2]at w2⊢
  rw[w1.zX7 w2 rfl (by omega)]
  rw[e1]at w1⊢
  rw[w0.zX7 w1 rfl (by omega)]
 ·have:i=x.len:=by omega
  subst this
  rw[e2]at w2⊢
  rw[w1.zX7 w2 rfl (by omega)]
  rw[e1]at w1⊢
  have:=w1.zYB
  rw[l0]at this;exact this
 ·have kk:((x.var lv).mk' 8 [x.len]).σ.L.st.kids (x.len+1)=[x.len]/\((x.var lv).mk' 8 [x.len]).σ.L.st.kind (x.len+1)=8:=by
   rw[e2,<-l1];constructor
   ·rw[St.kids,St.zPw]
   ·rw[St.kind,St.zPw]
  have hlt:x.len+1<((x.var lv).mk' 8 [x.len]).σ.L.st.length:=by rw[e2];simp[l1]
  have:=hS.zUG w2 hlt (by rw[kk.2];decide)
  rw[hS.wf.zQQ (YAW hlt hS.len) this (by rw[hS.kids _ hlt,kk.1])]
 ·rw[e2,zH2 rfl,e1,zH2 rfl];simp
 ·show x.σ.cnt+1+1=x.σ.cnt+1+1;rfl
theorem new2{lim lv:Int}{x:IS}(hg:GoodS x.σ)(hl:¬lv<0)(h:(zOD lim lv x).1=0):NewS x (zOD lim lv x).2 2 .pair:=by
 have h1:GoodS (x.var lv).σ:=hg.var (by omega)
 have h2:GoodS ((x.var lv).var lv).σ:=h1.var (by omega)
 have h3:=(zOE (lim:=lim) hg hl).1
 have hL:=(zOE (lim:=lim) hg hl).2.2 h
 have e:(zOD lim lv x).2=((x.var lv).var lv).mk' 7 [x.len,x.len+1]:=by
  unfold zOD at h⊢
  split at h
  ·cases h
  split at h
  ·cases h
  split at h
  ·cases h
  rename_i a b c
  rw[if_neg a,if_neg b,if_neg c]
 rw[e]at h3 hL⊢
 have e1:(x.var lv).σ.L.st=x.σ.L.st++ [⟨6,lv,none,[]⟩]:=x.σ.zaT lv
 have e2:((x.var lv).var lv).σ.L.st=(x.var lv).σ.L.st++ [⟨6,lv,none,[]⟩]:=(x.var lv).σ.zaT lv
 have e3:(((x.var lv).var lv).mk' 7 [x.len,x.len+1]).σ.L.st=((x.var lv).var lv).σ.L.st++ [⟨7,0,none,[x.len,x.len+1]⟩]:=((x.var lv).var lv).σ.zPf 7 [x.len,x.len+1]
 have w0:=hg.si.wf
 have w1:=h1.si.wf
 have w2:=h2.si.wf
 have w3:=h3.si.wf
 have l0:=x.zNB
 have l1:(x.var lv).σ.L.st.length=x.len+1:=by rw[e1];simp[l0]
 have l2:((x.var lv).var lv).σ.L.st.length=x.len+2:=by rw[e2];simp[l1]
 have x1:Ext x.σ.L.st (x.var lv).σ.L.st:=by rw[e1]at w1⊢;exact Ext.add w1
 have x2:Ext (x.var lv).σ.L.st ((x.var lv).var lv).σ.L.st:=by rw[e2]at w2⊢;exact Ext.add w2
 have x3:Ext ((x.var lv).var lv).σ.L.st (((x.var lv).var lv).mk' 7 [x.len,x.len+1]).σ.L.st:=by rw[e3]at w3⊢;exact Ext.add w3
 refine⟨h3,(x1.trans x2).trans x3,fun hs=> ?_,fun i hi=> ?_,fun i hi hi'=> ?_,fun S' hS=> ?_,by omega,?_,?_,rfl,rfl,rfl⟩
 ·have hs1:StV (x.var lv).σ.L.st:=by rw[e1]at w1⊢;exact hs.var w0 w1
  have hs2:StV ((x.var lv).var lv).σ.L.st:=by rw[e2]at w2⊢;exact hs1.var w1 w2
  rw[e3]at w3⊢;exact hs2.node w2 w3 rfl (by show(7:Int)≠6;decide)
 ·rw[e3]at w3⊢
  rw[w2.zX7 w3 rfl (by omega)]
  rw[e2]at w2⊢
  rw[w1.zX7 w2 rfl (by omega)]
  rw[e1]at w1⊢
  rw[w0.zX7 w1 rfl (by omega)]
 ·rw[e3]at w3⊢
  rw[w2.zX7 w3 rfl (by omega)]
  by_cases hh:i=x.len
  ·subst hh
   rw[e2]at w2⊢
   rw[w1.zX7 w2 rfl (by omega)]
   rw[e1]at w1⊢
   have:=w1.zYB
   rw[l0]at this;exact this
  ·have:i=x.len+1:=by omega
   subst this
   rw[e2]at w2⊢
   have:=w2.zYB
   rw[l1]at this;exact this
 ·have kk:(((x.var lv).var lv).mk' 7 [x.len,x.len+1]).σ.L.st.kids (x.len+2)=[x.len,x.len+1]/\(((x.var lv).var lv).mk' 7 [x.len,x.len+1]).σ.L.st.kind (x.len+2)=7:=by
   rw[e3,<-l2];constructor
   ·rw[St.kids,St.zPw]
   ·rw[St.kind,St.zPw]
  have hlt:x.len+2<(((x.var lv).var lv).mk' 7 [x.len,x.len+1]).σ.L.st.length:=by rw[e3];simp[l2]
  have:=hS.zUG w3 hlt (by rw[kk.2];decide)
  rw[hS.wf.zQR (YAW hlt hS.len) this (by rw[hS.kids _ hlt,kk.1]),hS.kind _ hlt,kk.2]
  rfl
 ·rw[e3,zH2 rfl,e2,zH2 rfl,e1,zH2 rfl];simp
 ·show x.σ.cnt+1+1+1=x.σ.cnt+2+1;omega
def zA2(q:Pt)(j:Nat)(k:T->T->T):Prop:=(q.kind=7/\j=2/\k= .pair)\/((q.kind=8\/q.kind=9)/\j=1/\k=fun a _=> .list a)
def zA1(lim lv:Int)(q:Pt)(i:Nat)(e:Int)(x2:IS)(res:Int×IS):Prop:=
 if e≠0\/q.kind=8 then res=(e,x2)else∃e3 x3,PatR lim lv (q.kid 0) i x2 (e3,x3)/\if e3≠0 then res=(e3,x3)else PatR lim lv (q.kid 1) (i+1) x3 res
inductive PatCs (lim lv:Int) (q:Pt) (n:Nat) (x:IS) (res:Int×IS):Prop
 |any:q.kind=1->res=(0,x)->PatCs lim lv q n x res
 |name:q.kind=2->res=(0,{x with nm:=x.nm++ [q.name],nd:=x.nd++ [n]})->PatCs lim lv q n x res
 |full:res.1=7->PatCs lim lv q n x res
 |leaf:3<=q.kind->q.kind<=6->AgR lim q n (q.kind-3).toNat x res->PatCs lim lv q n x res
 |node (j:Nat) (k:T->T->T) (y:IS) (e:Int) (x2:IS):zA2 q j k->NewS x y j k->AgR lim q n (x.len+j) y (e,x2)->zA1 lim lv q x.len e x2 res->PatCs lim lv q n x res
theorem zSC{lim lv:Int}{q:Pt}(hok:okA q=true){n:Nat}{x:IS}{e:Int}{x2:IS}{res:Int×IS}(hoI:okI x)(h:q.kind=7\/q.kind=8\/q.kind=9)
 (hm:if q.kind=7 then(zOD lim lv x).1=0/\AgR lim q n (x.len+2) (zOD lim lv x).2 (e,x2)else(zN8 lim lv x).1=0/\AgR lim q n (x.len+1) (zN8 lim lv x).2 (e,x2))
 (hk:zA1 lim lv q x.len e x2 res):PatR lim lv q n x res:=by
 obtain⟨hkk,ho⟩:=zRH hok
 rw[zSA (zRP hkk)]
 refine⟨hoI,?_⟩
 rw[if_neg (by omega),if_neg (by omega)]
 by_cases h7:q.kind=7
 ·rw[if_pos h7]at hm⊢
  rw[if_neg (by rw[hm.1];simp)]
  refine⟨e,x2,hm.2,?_⟩
  unfold zA1 at hk
  split at hk
  ·rename_i c;rw[if_pos (by omega)];exact hk
  ·rename_i c;rw[if_neg (by omega)];exact hk
 ·rw[if_neg h7]at hm⊢
  rw[if_pos (by omega),if_neg (by rw[hm.1];simp)]
  exact⟨e,x2,hm.2,hk⟩
structure EndP (x y:IS) (e:Int) (w:Nat):Prop where
 good:GoodS y.σ
 stv:StV y.σ.L.st
 ext:Ext x.σ.L.st y.σ.L.st
 er:e=0\/e=4\/e=5
 bw:e≠0->y.bw=e
 len:y.len<=x.len+3*w
 cnt1:x.σ.cnt<=y.σ.cnt
 cnt:y.σ.cnt<=x.σ.cnt+3*w
 free:y.σ.L.st.free<=x.σ.L.st.free+2*w
 rd:y.σ.rd<=x.σ.rd+40000*w
 nm:y.nm.length<=x.nm.length+w
 nd:y.nd.length<=x.nd.length+w
theorem EndP.trans{x y z:IS}{e e':Int}{w w' u:Nat}(h:EndP x y e w)(h':EndP y z e' w')(hu:w+w'<=u):EndP x z e' u:=
 ⟨h'.good,h'.stv,h.ext.trans h'.ext,h'.er,h'.bw,by have:=h.len;have:=h'.len;omega,by have:=h.cnt1;have:=h'.cnt1;omega,by have:=h.cnt;have:=h'.cnt;omega,
  by have:=h.free;have:=h'.free;omega,by have:=h.rd;have:=h'.rd;omega,by have:=h.nm;have:=h'.nm;omega,by have:=h.nd;have:=h'.nd;omega⟩
theorem zWA(q:Pt):1<=zV6 q:=by cases q;simp[zV6]
theorem zYH{S:St}(hw:Wf S){i:Nat}(h:i<4):S.tT i= .base ⟨i,h⟩:=by
 have h5:=hw.five
 have e:=hw.shT (n:=i) (by omega)
 have hk:=hw.leaf i (by omega)
 have er:S.root i=i:=zUO (by rw[St.link,hk])
 rw[er]at e
 generalize S.tT i=t at e
 cases e<;>first|rfl|omega
theorem Ext.stat{S S':St}(hw:Wf S)(h:Ext S S')(hs:StV S'){n:Nat}(hn:n<S.length)(e:(S.tT n).static=true):(S'.tT n).static=true:=by rw[h.static hw hs hn];exact e
end
end Go.Proofs.YtdngjamjccjlmaaGreat
