/- Lemmas: two nodes that are made to agree, third part. No condition. -/
import Derived.Test.YtdngjamjccjlmaaGreatPNb
import Derived.Test.YtdngjamjccjlmaaGreatPWe
set_option linter.unusedSimpArgs false
set_option linter.unusedVariables false
namespace Go.Proofs.YtdngjamjccjlmaaGreat
open Go Go.Ab
section
def mkB(k:Int)(a b:T):T:=if k=7 then .pair a b else .fn a b
theorem zPS(k:Int)(a b:T):(mkB k a b).static=(a.static&&b.static):=by unfold mkB;split<;>rfl
theorem zPR(k:Int)(a b:T):(mkB k a b).size=a.size+b.size+1:=by unfold mkB;split<;>rfl
theorem zPP(k:Int)(a b:T):(mkB k a b).deep=max a.deep b.deep+1:=by unfold mkB;split<;>rfl
theorem zPT(k:Int)(a b:T):(mkB k a b).wD=if a.wD+b.wD=0 then 0 else a.wD+b.wD+1:=by unfold mkB;split<;>rfl
theorem Wf.zQQ{S:St}(hw:Wf S){y a:Nat}(hy:y<S.length)(ey:S.root y=y)(hc:S.kids y=[a]):S.tT y= .list (S.tT a):=by
 rw[hw.zX8 hy,ey,St.zQS,hc]
theorem Wf.zQR{S:St}(hw:Wf S){y a b:Nat}(hy:y<S.length)(ey:S.root y=y)(hc:S.kids y=[a,b]):S.tT y=mkB (S.kind y) (S.tT a) (S.tT b):=by
 rw[hw.zX8 hy,ey,St.zQS,hc];rfl
theorem CpyOK.static{S S1:St}{x y m:Nat}{fr:List Nat}(h:CpyOK S S1 x y m fr):(S1.tT m).static=true:=by
 have hm:m<S1.length:=by rw[h.len];omega
 rcases h.two with ⟨a,_,e,_⟩|⟨a,b,_,e,_⟩
 ·have t:=h.zX9 (f:=S.length) (by rw[e];simp)
  have k:=h.kids
  rw[e]at k
  rw[h.wf.zQQ hm h.root k,T.static,t];rfl
 ·have t:=h.zX9 (f:=S.length) (by rw[e];simp)
  have t':=h.zX9 (f:=S.length+1) (by rw[e];simp)
  have k:=h.kids
  rw[e]at k
  rw[h.wf.zQR hm h.root k,zPS,t,t'];rfl
def wP(S:St)(p:Nat×Nat):Nat:=(S.tT p.1).wD+(S.tT p.2).wD
def zP(S:St)(p:Nat×Nat):Nat:=(S.tT p.1).size+(S.tT p.2).size
def dP(S:St)(p:Nat×Nat):Nat:=max (S.tT p.1).deep (S.tT p.2).deep
def wL(S:St):List (Nat×Nat)->Nat
 | []=>0
 |p::r=>wP S p+wL S r
def zL(S:St):List (Nat×Nat)->Nat
 | []=>0
 |p::r=>zP S p+zL S r
def qL(S:St):List (Nat×Nat)->Nat
 | []=>0
 |p::r=>max (r.length+dP S p) (qL S r)
theorem zan{S S':St}(hw:Wf S)(h:Ext S S')(hs:StV S'){p:Nat×Nat}(hp:p.1<S.length/\p.2<S.length):wP S' p=wP S p:=by
 unfold wP;rw[h.wD hw hs hp.1,h.wD hw hs hp.2]
theorem zam{S S':St}(hw:Wf S)(h:Ext S S')(hs:StV S'):∀ {stk:List (Nat×Nat)},Lt2 S.length stk->wL S' stk=wL S stk
 | [],_=>rfl
 |p::r,hp=>by rw[wL,wL,zan hw h hs (hp p YAU),zam hw h hs fun q hq=>hp q (YAT _ hq)]
theorem zFc(S:St)(p:Nat×Nat):1<=dP S p:=by unfold dP;have:=(S.tT p.1).zFg;omega
theorem zbu(S:St)(p:Nat×Nat):2<=zP S p:=by unfold zP;have:=(S.tT p.1).zWD;have:=(S.tT p.2).zWD;omega
theorem zTE(S:St):∀stk:List (Nat×Nat),stk.length<=qL S stk
 | []=>YAV _
 |p::r=>by have:=zFc S p;rw[qL,List.length_cons];omega
theorem zTD{S:St}{D:Nat}:∀ {stk:List (Nat×Nat)},(∀q∈stk,dP S q<=D)->qL S stk<=stk.length+D
 | [],_=>YAX _
 |p::r,h=>by
  have h1:=h p YAU
  have h2:=zTD (stk:=r) fun q hq=>h q (YAT _ hq)
  rw[qL,List.length_cons];omega
theorem Wf.zFb{S:St}(hw:Wf S){stk:List (Nat×Nat)}(h:Lt2 S.length stk):∀q∈stk,dP S q<=S.length:=fun q hq=>by
 have h1:=hw.zFe _ (h q hq).1
 have h2:=hw.zFe _ (h q hq).2
 unfold dP;omega
structure EndS (σ:Sto) (M w:Nat) (res:Int×Int×Int×Sto):Prop where
 good:GoodS res.2.2.2
 stv:StV res.2.2.2.L.st
 ext:Ext σ.L.st res.2.2.2.L.st
 e:res.2.2.1=0\/(res.2.2.1=4/\0<res.1/\0<res.2.1/\res.1≠res.2.1)\/res.2.2.1=5
 free:res.2.2.2.L.st.free<=M
 len:res.2.2.2.L.length<=σ.L.length+3*w
 cnt1:σ.cnt<=res.2.2.2.cnt
 cnt:res.2.2.2.cnt<=σ.cnt+3*w
 rd:res.2.2.2.rd<=σ.rd+4*M
 lvok:LvOK σ.L.st->LvOK res.2.2.2.L.st
 low:∀i,i<σ.L.st.length->(res.2.2.2.L.st.nd i).level<=(σ.L.st.nd i).level
theorem EndS.here{σ:Sto}{M w:Nat}{l r e:Int}{σ':Sto}(hg:GoodS σ')(hw:Wf σ.L.st)(hst:σ'.L.st=σ.L.st)(hs:StV σ.L.st)(hc:σ'.cnt=σ.cnt)(hr:σ'.rd<=σ.rd+4*M)(hf:σ.L.st.free<=M)(he:e=0\/(e=4/\0<l/\0<r/\l≠r)\/e=5):EndS σ M w (l,r,e,σ'):=by
 refine⟨hg,?_,?_,he,?_,?_,?_,?_,hr,fun h=> ?_,fun i _=> ?_⟩
 ·simp only[hst];exact hs
 ·simp only[hst];exact Ext.refl hw
 ·simp only[hst];exact hf
 ·have:=congrArg List.length hst
  rw[Mem.zXR,Mem.zXR]at this
  simp only;omega
 ·simp only;omega
 ·simp only;omega
 ·simp only[hst];exact h
 ·simp only[hst];exact YAQ _
theorem EndS.trans{σ σ1:Sto}{M M' w w':Nat}{res:Int×Int×Int×Sto}(h:EndS σ1 M' w' res)(hM:M'+1<=M)(hx:Ext σ.L.st σ1.L.st)(hl:σ1.L.length+3*w'<=σ.L.length+3*w)(hc1:σ.cnt<=σ1.cnt)(hc:σ1.cnt+3*w'<=σ.cnt+3*w)(hr:σ1.rd<=σ.rd+4)(hk:LvOK σ.L.st->LvOK σ1.L.st)(hlow:∀i,i<σ.L.st.length->(σ1.L.st.nd i).level<=(σ.L.st.nd i).level):EndS σ M w res:=
 ⟨h.good,h.stv,hx.trans h.ext,h.e,by have:=h.free;omega,by have:=h.len;omega,by have:=h.cnt1;omega,by have:=h.cnt;omega,by have:=h.rd;omega,fun a=>h.lvok (hk a),fun i hi=>by
  have a:=hlow i hi
  have b:=h.low i (YAW hi hx.len)
  omega⟩
theorem EndS.mono{σ:Sto}{M w w':Nat}{res:Int×Int×Int×Sto}(h:EndS σ M w res)(hw:w<=w'):EndS σ M w' res:=
 ⟨h.good,h.stv,h.ext,h.e,h.free,by have:=h.len;omega,h.cnt1,by have:=h.cnt;omega,h.rd,h.lvok,h.low⟩
structure NonP (σ σ':Sto) (p:Nat×Nat) (stk stk':List (Nat×Nat)):Prop where
 stv:StV σ'.L.st
 ext:Ext σ.L.st σ'.L.st
 len:stk'.length<=stk.length+2
 w:wL σ'.L.st stk'<=wL σ.L.st (p::stk)
 m:5*wL σ'.L.st stk'+σ'.L.st.free+1<=5*wL σ.L.st (p::stk)+σ.L.st.free
 l:σ'.L.length+3*wL σ'.L.st stk'<=σ.L.length+3*wL σ.L.st (p::stk)
 c1:σ.cnt<=σ'.cnt
 c:σ'.cnt+3*wL σ'.L.st stk'<=σ.cnt+3*wL σ.L.st (p::stk)
 lvok:LvOK σ.L.st->LvOK σ'.L.st
 low:∀i,i<σ.L.st.length->(σ'.L.st.nd i).level<=(σ.L.st.nd i).level
theorem zal(S:St):∀a b:List (Nat×Nat),wL S (a++b)=wL S a+wL S b
 | [],b=>by simp[wL]
 |p::a,b=>by rw[List.cons_append,wL,wL,zal S a b];omega
theorem zai{a:T}(h:a.static=false):1<=a.wD:=Nat.pos_of_ne_zero fun e=>by rw[zak]at e;rw[e]at h;cases h
theorem zYF{S:St}(hw:Wf S){n:Nat}(hn:n<S.length):S.tT (S.root n)=S.tT n:=hw.zYE (hw.root_lt n hn) hn (hw.zUQ n)
theorem LinkS.zNy{S:St}{x y:Nat}{σ':Sto}(c:CanLk S x y)(h:LinkS S x y σ')(i:Nat):(σ'.L.st.nd i).level<=(S.nd i).level:=by
 have:=h.low.le i
 have e:((S.lk x y).nd i).level=(S.nd i).level:=by
  rw[St.zPy c.hx];split
  ·rename_i e;subst e;rfl
  ·rfl
 omega
theorem zFU{σ σ':Sto}{S1:St}{x y m:Nat}{fr:List Nat}{p:Nat×Nat}{stk z:List (Nat×Nat)}(hw:Wf σ.L.st)(hs:StV σ.L.st)(hy:y<σ.L.st.length)(ey:σ.L.st.root y=y)(hns:(σ.L.st.tT y).static=false)
 (cp:CpyOK σ.L.st S1 x y m fr) (hl:LinkS S1 x m σ') (hcnt:σ'.cnt=σ.cnt+(fr.length+1:Nat)) (hstk:Lt2 σ.L.st.length stk) (hp:(σ.L.st.tT y).wD<=wP σ.L.st p)
 (hz:z=fr.zip (σ.L.st.kids y)\/z=(σ.L.st.kids y).zip fr):NonP σ σ' p stk (z++stk):=by
 have hsv:=hl.stv cp.wf cp.can (cp.stv hs) cp.static
 have hx1:=cp.ext
 have hx2:=hl.ext cp.wf cp.can
 have hx:=hx1.trans hx2
 have hstk':=zam hw hx hsv hstk
 have hlen:σ'.L.length=m+1:=by have:=hl.len;rw[Mem.zXR,cp.len]at this;exact this
 have hfree:=hl.free cp.can
 have hfree1:=cp.free
 have hlow:∀i,i<σ.L.st.length->(σ'.L.st.nd i).level<=(σ.L.st.nd i).level:=fun i hi=>by
  rw[<-cp.nd i hi];exact hl.zNy cp.can i
 have hlv:=fun h=>hl.lvok cp.wf cp.can (cp.lvok h)
 have fz:∀f∈fr,(σ'.L.st.tT f).wD=0:=fun f hf=>by
  obtain⟨a1,a2,_⟩:=cp.frs f hf
  rw[hx2.wD cp.wf hsv (n:=f) (by rw[cp.len];omega),cp.zX9 hf];rfl
 have kz:∀k,k<σ.L.st.length->(σ'.L.st.tT k).wD=(σ.L.st.tT k).wD:=fun k hk=>hx.wD hw hsv hk
 have key:wL σ'.L.st z+1=(σ.L.st.tT y).wD/\z.length<=2/\fr.length<=2/\m=σ.L.length+fr.length:=by
  have hp1:=zai hns
  rcases cp.two with ⟨a,hk,hf,hm,_⟩|⟨a,b,hk,hf,hm,_⟩
  ·have ha:=hw.kid_lt y a (by rw[hk];simp)
   have e1:=hw.zQQ hy ey hk
   have f1:=fz σ.L.st.length (by rw[hf];simp)
   have k1:=kz a ha
   rw[e1,T.wD]at hp1⊢
   rw[hk,hf]at hz
   rw[hf,hm,Mem.zXR]
   rcases hz with rfl|rfl
   ·refine⟨?_,by simp,by simp,rfl⟩
    simp only[List.zip_cons_cons,List.zip_nil_right,wL,wP,f1,k1]
    split at hp1<;>simp_all
   ·refine⟨?_,by simp,by simp,rfl⟩
    simp only[List.zip_cons_cons,List.zip_nil_right,wL,wP,f1,k1]
    split at hp1<;>simp_all
  ·have ha:=hw.kid_lt y a (by rw[hk];simp)
   have hb:=hw.kid_lt y b (by rw[hk];simp)
   have e1:=hw.zQR hy ey hk
   have f1:=fz _ (show σ.L.st.length∈fr by rw[hf];simp)
   have f2:=fz _ (show σ.L.st.length+1∈fr by rw[hf];simp)
   have k1:=kz a ha
   have k2:=kz b hb
   rw[e1,zPT]at hp1⊢
   rw[hk,hf]at hz
   rw[hf,hm,Mem.zXR]
   rcases hz with rfl|rfl
   ·refine⟨?_,by simp,by simp,rfl⟩
    simp only[List.zip_cons_cons,List.zip_nil_right,wL,wP,f1,f2,k1,k2]
    split at hp1<;>simp_all
   ·refine⟨?_,by simp,by simp,rfl⟩
    simp only[List.zip_cons_cons,List.zip_nil_right,wL,wP,f1,f2,k1,k2]
    split at hp1<;>simp_all
 obtain⟨k1,k2,k3,k4⟩:=key
 refine⟨hsv,hx,by rw[YAJ];omega,?_,?_,?_,by rw[hcnt];omega,?_,hlv,hlow⟩
 ·rw[zal,wL,hstk'];omega
 ·rw[zal,wL,hstk'];omega
 ·rw[zal,wL,hstk'];omega
 ·rw[zal,wL,hstk',hcnt];push_cast;omega
end
section
def agO:T->T->Bool
 | .dyn,_=>true
 | .base k,b=>match b with| .dyn=>true| .base k'=>decide (k=k')|_=>false
 | .var n,b=>match b with| .dyn=>true| .var m=>decide (n=m)|_=>false
 | .pair a a',b=>match b with| .dyn=>true| .pair c c'=>agO a c&&agO a' c'|_=>false
 | .list a,b=>match b with| .dyn=>true| .list c=>agO a c|_=>false
 | .fn a a',b=>match b with| .dyn=>true| .fn c c'=>agO a c&&agO a' c'|_=>false
theorem CpyOK.lists{S S1:St}{x y m:Nat}{fr:List Nat}(h:CpyOK S S1 x y m fr):(∃a c,fr=[a]/\S.kids y=[c])\/∃a b c d,fr=[a,b]/\S.kids y=[c,d]:=by
 rcases h.two with ⟨a,e1,e2,_⟩|⟨a,b,e1,e2,_⟩
 ·exact .inl ⟨_,_,e2,e1⟩
 ·exact .inr ⟨_,_,_,_,e2,e1⟩
end
section
theorem CanLk.val{S:St}{x y:Nat}(hw:Wf S)(c:CanLk S x y){val:Int->T}(h:val x=putS val (S.tT y)){n:Nat}(hn:n<S.length):putS val ((S.lk x y).tT n)=putS val (S.tT n):=by
 rw[c.tT hw hn,zS9]
 refine zSx _ fun z _=> ?_
 split
 ·rename_i e;rw[e,h]
 ·rfl
theorem LinkS.val{S:St}{x y:Nat}{σ':Sto}(hw:Wf S)(c:CanLk S x y)(hl:LinkS S x y σ'){val:Int->T}(h:val x=putS val (S.tT y)){n:Nat}(hn:n<S.length):putS val (σ'.L.st.tT n)=putS val (S.tT n):=by
 rw[hl.tT];exact c.val hw h hn
def valU(val:Int->T)(L:Nat)(c0 c1:T):Int->T:=fun z=>if z=L then c0 else if z=(L+1:Nat)then c1 else val z
end
section
def zAx(S:St):Prop:=∀i,S.kind i≠6
end
section
def rowOf:List (T×T)->T
 | []=> .base 3
 |p::l=> .pair (.pair p.1 p.2) (rowOf l)
def RowN(S:St):Nat->List (Nat×Nat)->Prop
 |_,[]=>True
 |n,p::ps=>∃k0 k1,n<S.length/\k0<S.length/\k1<S.length/\S.kind (S.root n)=7/\S.kids (S.root n)=[k0,k1]/\S.kind (S.root k0)=7/\S.kids (S.root k0)=[p.1,p.2]/\RowN S k1 ps
theorem RowN.ext{S S':St}(hw:Wf S)(h:Ext S S'):∀ {ps:List (Nat×Nat)} {n:Nat},RowN S n ps->RowN S' n ps
 | [],_,_=>trivial
 |p::ps,n,⟨k0,k1,h1,h2,h3,h4,h5,h6,h7,h8⟩=>by
  have hle:=h.len
  have r1:S'.root n=S.root n:=by rw[h.root hw n];exact h.zUG hw (hw.root_lt n h1) (by omega)
  have r2:S'.root k0=S.root k0:=by rw[h.root hw k0];exact h.zUG hw (hw.root_lt k0 h2) (by omega)
  refine⟨k0,k1,by omega,by omega,by omega,?_,?_,?_,?_,RowN.ext hw h h8⟩
  ·rw[r1,h.kind _ (hw.root_lt n h1),h4]
  ·rw[r1,h.kids _ (hw.root_lt n h1),h5]
  ·rw[r2,h.kind _ (hw.root_lt k0 h2),h6]
  ·rw[r2,h.kids _ (hw.root_lt k0 h2),h7]
def SeqB(lim:Int):List (Nat×Nat)->Sto->Int×Sto->Prop
 | [],σ,r=>r=(0,σ)
 |p::ps,σ,r=>∃m res,RunB lim m [p] σ res/\if res.2.2.1=0 then SeqB lim ps res.2.2.2 r else r=(res.2.2.1,res.2.2.2)
structure EndQ (σ:Sto) (w k:Nat) (r:Int×Sto):Prop where
 good:GoodS r.2
 stv:StV r.2.L.st
 ext:Ext σ.L.st r.2.L.st
 e:r.1=0\/r.1=4\/r.1=5
 len:r.2.L.length<=σ.L.length+3*w
 cnt1:σ.cnt<=r.2.cnt
 cnt:r.2.cnt<=σ.cnt+3*w
 free:r.2.L.st.free<=5*w+σ.L.st.free
 rd:r.2.rd<=σ.rd+40000*k
def zAv(S:St):Prop:=∀i,S.link i=none
theorem zAv.stv{S:St}(hw:Wf S)(h:zAv S):StV S:=fun v hv h6=>by rw[hw.zYA hv h6 (h v)];rfl
theorem zAv.lvok{S:St}(hw:Wf S)(h:zAv S):LvOK S:=fun v hv h6 w hh=>by
 rw[hw.zYA hv h6 (h v)]at hh
 simp only[T.has,YAa]at hh
 have:w=v:=by omega
 subst this;exact YAQ _
theorem zAv.add{L:Mem}(h:zAv L.st){x:Nd}(hx:x.link=none):zAv (L++ [(x,(0:Int))]:Mem).st:=fun i=>by
 rw[Mem.zXM,St.link,St.zPu]
 split
 ·exact hx
 ·exact h i
theorem zeL(S:St):S.free<=S.length:=by
 unfold St.free
 have:=List.countP_le_length (p:=S.zME) (l:=List.range S.length)
 rwa[List.length_range]at this
end
end Go.Proofs.YtdngjamjccjlmaaGreat
