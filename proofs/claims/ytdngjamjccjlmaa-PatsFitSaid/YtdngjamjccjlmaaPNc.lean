/- Lemmas: two nodes that are made to agree, third part. No condition. -/
import Derived.Test.YtdngjamjccjlmaaPNb
import Derived.Test.YtdngjamjccjlmaaPWe
set_option linter.unusedSimpArgs false
set_option linter.unusedVariables false
namespace Go.Proofs.Ytdngjamjccjlmaa
open Go Go.Ab
section
def mkB(k:Int)(a b:T):T:=if k=7 then .pair a b else .fn a b
theorem zPS(k:Int)(a b:T):(mkB k a b).static=(a.static&&b.static):=by unfold mkB;split<;>rfl
theorem zPR(k:Int)(a b:T):(mkB k a b).size=a.size+b.size+1:=by unfold mkB;split<;>rfl
theorem zPP(k:Int)(a b:T):(mkB k a b).deep=max a.deep b.deep+1:=by unfold mkB;split<;>rfl
theorem zPT(k:Int)(a b:T):(mkB k a b).wD=if a.wD+b.wD=0 then 0 else a.wD+b.wD+1:=by unfold mkB;split<;>rfl
theorem zPQ(σ:Int->T)(k:Int)(a b:T):putS σ (mkB k a b)=mkB k (putS σ a) (putS σ b):=by unfold mkB;split<;>rfl
theorem Wf.zQQ{S:St}(hw:Wf S){y a:Nat}(hy:y<S.length)(ey:S.root y=y)(hc:S.kids y=[a]):S.tT y= .list (S.tT a):=by
 rw[hw.zX8 hy,ey,St.zQS,hc]
theorem Wf.zQR{S:St}(hw:Wf S){y a b:Nat}(hy:y<S.length)(ey:S.root y=y)(hc:S.kids y=[a,b]):S.tT y=mkB (S.kind y) (S.tT a) (S.tT b):=by
 rw[hw.zX8 hy,ey,St.zQS,hc];rfl
theorem CpyOK.static{S S1:St}{x y m:Nat}{fr:List Nat}(h:CpyOK S S1 x y m fr):(S1.tT m).static=true:=by
 have hm:m<S1.length:=by rw[h.len];omega
 rcases h.two with ⟨a,_,e,_⟩|⟨a,b,_,e,_⟩
 ·have t:=h.zX9 (f:=S.length) (by rw[e];simp)
  have k:=h.kids
  rw[e]at k
  rw[h.wf.zQQ hm h.root k,T.static,t];rfl
 ·have t:=h.zX9 (f:=S.length) (by rw[e];simp)
  have t':=h.zX9 (f:=S.length+1) (by rw[e];simp)
  have k:=h.kids
  rw[e]at k
  rw[h.wf.zQR hm h.root k,zPS,t,t'];rfl
def wP(S:St)(p:Nat×Nat):Nat:=(S.tT p.1).wD+(S.tT p.2).wD
def zP(S:St)(p:Nat×Nat):Nat:=(S.tT p.1).size+(S.tT p.2).size
def dP(S:St)(p:Nat×Nat):Nat:=max (S.tT p.1).deep (S.tT p.2).deep
def wL(S:St):List (Nat×Nat)->Nat
 | []=>0
 |p::r=>wP S p+wL S r
def zL(S:St):List (Nat×Nat)->Nat
 | []=>0
 |p::r=>zP S p+zL S r
def qL(S:St):List (Nat×Nat)->Nat
 | []=>0
 |p::r=>max (r.length+dP S p) (qL S r)
theorem zan{S S':St}(hw:Wf S)(h:Ext S S')(hs:StV S'){p:Nat×Nat}(hp:p.1<S.length/\p.2<S.length):wP S' p=wP S p:=by
 unfold wP;rw[h.wD hw hs hp.1,h.wD hw hs hp.2]
theorem zam{S S':St}(hw:Wf S)(h:Ext S S')(hs:StV S'):∀ {stk:List (Nat×Nat)},Lt2 S.length stk->wL S' stk=wL S stk
 | [],_=>rfl
 |p::r,hp=>by rw[wL,wL,zan hw h hs (hp p YAU),zam hw h hs fun q hq=>hp q (YAT _ hq)]
theorem zFc(S:St)(p:Nat×Nat):1<=dP S p:=by unfold dP;have:=(S.tT p.1).zFg;omega
theorem zbu(S:St)(p:Nat×Nat):2<=zP S p:=by unfold zP;have:=(S.tT p.1).zWD;have:=(S.tT p.2).zWD;omega
theorem zTE(S:St):∀stk:List (Nat×Nat),stk.length<=qL S stk
 | []=>YAV _
 |p::r=>by have:=zFc S p;rw[qL,List.length_cons];omega
theorem zTD{S:St}{D:Nat}:∀ {stk:List (Nat×Nat)},(∀q∈stk,dP S q<=D)->qL S stk<=stk.length+D
 | [],_=>YAX _
 |p::r,h=>by
  have h1:=h p YAU
  have h2:=zTD (stk:=r) fun q hq=>h q (YAT _ hq)
  rw[qL,List.length_cons];omega
theorem Wf.zFb{S:St}(hw:Wf S){stk:List (Nat×Nat)}(h:Lt2 S.length stk):∀q∈stk,dP S q<=S.length:=fun q hq=>by
 have h1:=hw.zFe _ (h q hq).1
 have h2:=hw.zFe _ (h q hq).2
 unfold dP;omega
structure EndS (σ:Sto) (M w:Nat) (res:Int×Int×Int×Sto):Prop where
 good:GoodS res.2.2.2
 stv:StV res.2.2.2.L.st
 ext:Ext σ.L.st res.2.2.2.L.st
 e:res.2.2.1=0\/(res.2.2.1=4/\0<res.1/\0<res.2.1/\res.1≠res.2.1)\/res.2.2.1=5
 free:res.2.2.2.L.st.free<=M
 len:res.2.2.2.L.length<=σ.L.length+3*w
 cnt1:σ.cnt<=res.2.2.2.cnt
 cnt:res.2.2.2.cnt<=σ.cnt+3*w
 rd:res.2.2.2.rd<=σ.rd+4*M
 lvok:LvOK σ.L.st->LvOK res.2.2.2.L.st
 low:∀i,i<σ.L.st.length->(res.2.2.2.L.st.nd i).level<=(σ.L.st.nd i).level
theorem EndS.here{σ:Sto}{M w:Nat}{l r e:Int}{σ':Sto}(hg:GoodS σ')(hw:Wf σ.L.st)(hst:σ'.L.st=σ.L.st)(hs:StV σ.L.st)(hc:σ'.cnt=σ.cnt)(hr:σ'.rd<=σ.rd+4*M)(hf:σ.L.st.free<=M)(he:e=0\/(e=4/\0<l/\0<r/\l≠r)\/e=5):EndS σ M w (l,r,e,σ'):=by
 refine⟨hg,?_,?_,he,?_,?_,?_,?_,hr,fun h=> ?_,fun i _=> ?_⟩
 ·simp only[hst];exact hs
 ·simp only[hst];exact Ext.refl hw
 ·simp only[hst];exact hf
 ·have:=congrArg List.length hst
  rw[Mem.zXR,Mem.zXR]at this
  simp only;omega
 ·simp only;omega
 ·simp only;omega
 ·simp only[hst];exact h
 ·simp only[hst];exact YAQ _
theorem EndS.trans{σ σ1:Sto}{M M' w w':Nat}{res:Int×Int×Int×Sto}(h:EndS σ1 M' w' res)(hM:M'+1<=M)(hx:Ext σ.L.st σ1.L.st)(hl:σ1.L.length+3*w'<=σ.L.length+3*w)(hc1:σ.cnt<=σ1.cnt)(hc:σ1.cnt+3*w'<=σ.cnt+3*w)(hr:σ1.rd<=σ.rd+4)(hk:LvOK σ.L.st->LvOK σ1.L.st)(hlow:∀i,i<σ.L.st.length->(σ1.L.st.nd i).level<=(σ.L.st.nd i).level):EndS σ M w res:=
 ⟨h.good,h.stv,hx.trans h.ext,h.e,by have:=h.free;omega,by have:=h.len;omega,by have:=h.cnt1;omega,by have:=h.cnt;omega,by have:=h.rd;omega,fun a=>h.lvok (hk a),fun i hi=>by
  have a:=hlow i hi
  have b:=h.low i (YAW hi hx.len)
  omega⟩
theorem EndS.mono{σ:Sto}{M w w':Nat}{res:Int×Int×Int×Sto}(h:EndS σ M w res)(hw:w<=w'):EndS σ M w' res:=
 ⟨h.good,h.stv,h.ext,h.e,h.free,by have:=h.len;omega,h.cnt1,by have:=h.cnt;omega,h.rd,h.lvok,h.low⟩
structure NonP (σ σ':Sto) (p:Nat×Nat) (stk stk':List (Nat×Nat)):Prop where
 stv:StV σ'.L.st
 ext:Ext σ.L.st σ'.L.st
 len:stk'.length<=stk.length+2
 w:wL σ'.L.st stk'<=wL σ.L.st (p::stk)
 m:5*wL σ'.L.st stk'+σ'.L.st.free+1<=5*wL σ.L.st (p::stk)+σ.L.st.free
 l:σ'.L.length+3*wL σ'.L.st stk'<=σ.L.length+3*wL σ.L.st (p::stk)
 c1:σ.cnt<=σ'.cnt
 c:σ'.cnt+3*wL σ'.L.st stk'<=σ.cnt+3*wL σ.L.st (p::stk)
 lvok:LvOK σ.L.st->LvOK σ'.L.st
 low:∀i,i<σ.L.st.length->(σ'.L.st.nd i).level<=(σ.L.st.nd i).level
theorem zal(S:St):∀a b:List (Nat×Nat),wL S (a++b)=wL S a+wL S b
 | [],b=>by simp[wL]
 |p::a,b=>by rw[List.cons_append,wL,wL,zal S a b];omega
theorem zai{a:T}(h:a.static=false):1<=a.wD:=Nat.pos_of_ne_zero fun e=>by rw[zak]at e;rw[e]at h;cases h
theorem zYF{S:St}(hw:Wf S){n:Nat}(hn:n<S.length):S.tT (S.root n)=S.tT n:=hw.zYE (hw.root_lt n hn) hn (hw.zUQ n)
theorem LinkS.zNy{S:St}{x y:Nat}{σ':Sto}(c:CanLk S x y)(h:LinkS S x y σ')(i:Nat):(σ'.L.st.nd i).level<=(S.nd i).level:=by
 have:=h.low.le i
 have e:((S.lk x y).nd i).level=(S.nd i).level:=by
  rw[St.zPy c.hx];split
  ·rename_i e;subst e;rfl
  ·rfl
 omega
theorem zFU{σ σ':Sto}{S1:St}{x y m:Nat}{fr:List Nat}{p:Nat×Nat}{stk z:List (Nat×Nat)}(hw:Wf σ.L.st)(hs:StV σ.L.st)(hy:y<σ.L.st.length)(ey:σ.L.st.root y=y)(hns:(σ.L.st.tT y).static=false)
 (cp:CpyOK σ.L.st S1 x y m fr) (hl:LinkS S1 x m σ') (hcnt:σ'.cnt=σ.cnt+(fr.length+1:Nat)) (hstk:Lt2 σ.L.st.length stk) (hp:(σ.L.st.tT y).wD<=wP σ.L.st p)
 (hz:z=fr.zip (σ.L.st.kids y)\/z=(σ.L.st.kids y).zip fr):NonP σ σ' p stk (z++stk):=by
 have hsv:=hl.stv cp.wf cp.can (cp.stv hs) cp.static
 have hx1:=cp.ext
 have hx2:=hl.ext cp.wf cp.can
 have hx:=hx1.trans hx2
 have hstk':=zam hw hx hsv hstk
 have hlen:σ'.L.length=m+1:=by have:=hl.len;rw[Mem.zXR,cp.len]at this;exact this
 have hfree:=hl.free cp.can
 have hfree1:=cp.free
 have hlow:∀i,i<σ.L.st.length->(σ'.L.st.nd i).level<=(σ.L.st.nd i).level:=fun i hi=>by
  rw[<-cp.nd i hi];exact hl.zNy cp.can i
 have hlv:=fun h=>hl.lvok cp.wf cp.can (cp.lvok h)
 have fz:∀f∈fr,(σ'.L.st.tT f).wD=0:=fun f hf=>by
  obtain⟨a1,a2,_⟩:=cp.frs f hf
  rw[hx2.wD cp.wf hsv (n:=f) (by rw[cp.len];omega),cp.zX9 hf];rfl
 have kz:∀k,k<σ.L.st.length->(σ'.L.st.tT k).wD=(σ.L.st.tT k).wD:=fun k hk=>hx.wD hw hsv hk
 have key:wL σ'.L.st z+1=(σ.L.st.tT y).wD/\z.length<=2/\fr.length<=2/\m=σ.L.length+fr.length:=by
  have hp1:=zai hns
  rcases cp.two with ⟨a,hk,hf,hm,_⟩|⟨a,b,hk,hf,hm,_⟩
  ·have ha:=hw.kid_lt y a (by rw[hk];simp)
   have e1:=hw.zQQ hy ey hk
   have f1:=fz σ.L.st.length (by rw[hf];simp)
   have k1:=kz a ha
   rw[e1,T.wD]at hp1⊢
   rw[hk,hf]at hz
   rw[hf,hm,Mem.zXR]
   rcases hz with rfl|rfl
   ·refine⟨?_,by simp,by simp,rfl⟩
    simp only[List.zip_cons_cons,List.zip_nil_right,wL,wP,f1,k1]
    split at hp1<;>simp_all
   ·refine⟨?_,by simp,by simp,rfl⟩
    simp only[List.zip_cons_cons,List.zip_nil_right,wL,wP,f1,k1]
    split at hp1<;>simp_all
  ·have ha:=hw.kid_lt y a (by rw[hk];simp)
   have hb:=hw.kid_lt y b (by rw[hk];simp)
   have e1:=hw.zQR hy ey hk
   have f1:=fz _ (show σ.L.st.length∈fr by rw[hf];simp)
   have f2:=fz _ (show σ.L.st.length+1∈fr by rw[hf];simp)
   have k1:=kz a ha
   have k2:=kz b hb
   rw[e1,zPT]at hp1⊢
   rw[hk,hf]at hz
   rw[hf,hm,Mem.zXR]
   rcases hz with rfl|rfl
   ·refine⟨?_,by simp,by simp,rfl⟩
    simp only[List.zip_cons_cons,List.zip_nil_right,wL,wP,f1,f2,k1,k2]
    split at hp1<;>simp_all
   ·refine⟨?_,by simp,by simp,rfl⟩
    simp only[List.zip_cons_cons,List.zip_nil_right,wL,wP,f1,f2,k1,k2]
    split at hp1<;>simp_all
 obtain⟨k1,k2,k3,k4⟩:=key
 refine⟨hsv,hx,by rw[YAJ];omega,?_,?_,?_,by rw[hcnt];omega,?_,hlv,hlow⟩
 ·rw[zal,wL,hstk'];omega
 ·rw[zal,wL,hstk'];omega
 ·rw[zal,wL,hstk'];omega
 ·rw[zal,wL,hstk',hcnt];push_cast;omega
theorem zUx{lim R C:Int}{D K:Nat}(hD:D<=700000)(hR:R<=80000000000)(hC:C<=800000)(hCl:C<=lim)(hK:K<=1000000000000):∀(M Z:Nat) (σ:Sto) (stk:List (Nat×Nat)),GoodS σ->StV σ.L.st->Lt2 σ.L.length stk->
 5*wL σ.L.st stk+σ.L.st.free<=M->zL σ.L.st stk<=Z->σ.L.length+3*wL σ.L.st stk<=D->0<=σ.cnt->σ.cnt+3*wL σ.L.st stk<=C->σ.rd+4*M<=R->qL σ.L.st stk+(D+2)*M<=K->
 ∃m res,RunB lim m stk σ res/\EndS σ M (wL σ.L.st stk) res:=by
 intro M
 induction M using Nat.strongRecOn with
 |_ M ihM=>
 intro Z
 induction Z using Nat.strongRecOn with
 |_ Z ihZ=>
 intro σ stk hg hs hlt hM hZ hlen hc0 hc hr hq
 have hw:=hg.si.wf
 cases stk with
 |nil=>exact⟨0,(0,0,0,σ),rfl,EndS.here hg hw rfl hs rfl (by omega) (by omega) (.inl rfl)⟩
 |cons p stk=>
  have hp:=hlt p YAU
  have hp':p.1<σ.L.st.length/\p.2<σ.L.st.length:=by rw[Mem.zXR];exact hp
  have hlt':Lt2 σ.L.length stk:=fun q hq=>hlt q (YAT _ hq)
  have hlt'':Lt2 σ.L.st.length stk:=by rw[Mem.zXR];exact hlt'
  have hql:=zTE σ.L.st (p::stk)
  have hok:okB σ (stk.length+1):=by
   have h0:=YAX ((D+2)*M)
   rw[List.length_cons]at hql
   exact⟨by omega,by omega,hc0,by omega,by omega⟩
  have hkeep:=zXm (lim:=lim) hg hp hlt'
  have hcase:=zXl (lim:=lim) hg hp stk
  have np:∀σ' stk',zXk lim p stk σ= .go stk' σ'->NonP σ σ' p stk stk'->∃m res,RunB lim m (p::stk) σ res/\EndS σ M (wL σ.L.st (p::stk)) res:=by
   intro σ' stk' hst hn
   rw[hst]at hkeep
   obtain⟨hgr,hlt2⟩:=hkeep
   have hg':=hgr.good
   have hm:=hn.m
   have hM1:1<=M:=by omega
   have hmul:(D+2)*(M-1)+(D+2)=(D+2)*M:=by
    conv=>rhs;rw[show M=(M-1)+1 by omega]
    rw[Nat.mul_succ]
   have hq':qL σ'.L.st stk'<=stk'.length+D:=by
    refine zTD fun q hq=>Nat.le_trans (hg'.si.wf.zFb (by rw[Mem.zXR];exact hlt2) q hq) ?_
    rw[Mem.zXR]
    have:=hn.l;omega
   have hl2:=hn.len
   rw[List.length_cons]at hql
   have hrd:=hgr.rd2
   have hnl:=hn.l
   have hnc:=hn.c
   have hnc1:=hn.c1
   obtain⟨m,res,h1,h2⟩:=ihM (M-1) (by omega) (zL σ'.L.st stk') σ' stk' hg' hn.stv hlt2 (by omega) (YAV _) (by omega) (by omega) (by omega) (by omega) (by omega)
   refine⟨m+1,res,⟨hok,?_⟩,h2.trans (by omega) hn.ext hn.l hn.c1 hn.c (by omega) hn.lvok hn.low⟩
   rw[hst];exact h1
  have pl:∀stk',zXk lim p stk σ= .go stk' σ->zL σ.L.st stk'<zL σ.L.st (p::stk)->wL σ.L.st stk'<=wL σ.L.st (p::stk)->qL σ.L.st stk'<=qL σ.L.st (p::stk)->∃m res,RunB lim m (p::stk) σ res/\EndS σ M (wL σ.L.st (p::stk)) res:=by
   intro stk' hst hz hw' hq'
   rw[hst]at hkeep
   obtain⟨m,res,h1,h2⟩:=ihZ (zL σ.L.st stk') (by omega) σ stk' hg hs hkeep.2 (by omega) (YAV _) (by omega) hc0 (by omega) hr (by omega)
   refine⟨m+1,res,⟨hok,?_⟩,h2.mono hw'⟩
   rw[hst];exact h1
  generalize hst:zXk lim p stk σ=st at*
  cases hcase with
  |eq e=>
   refine pl stk rfl ?_ ?_ ?_
   ·have:=zbu σ.L.st p;simp only[zL];omega
   ·simp only[wL];omega
   ·simp only[qL];omega
  |dyn z σ' hz hg' hlow hcn=>
   have hsv:=hs.lv hlow.lv
   have hx:=Ext.lv hg'.si.wf hlow.lv
   have hwl:=zam hw hx hsv hlt''
   have hlen':σ'.L.length=σ.L.length:=by have:=hlow.lv.len;rwa[Mem.zXR,Mem.zXR]at this
   have hzl:z<σ.L.st.length:=by
    rcases hz with ⟨_,rfl⟩|⟨_,rfl⟩
    ·exact hw.root_lt _ hp'.2
    ·exact hw.root_lt _ hp'.1
   have hp4:1<=wP σ.L.st p:=by
    have d4:σ.L.st.tT 4= .dyn:=by
     have h5:=hw.five
     have e:=hw.leaf 4 (by omega)
     have er:σ.L.st.root 4=4:=zUO (by rw[St.link,e])
     rw[hw.zX8 (by omega),er,St.zQS,St.kids,St.kind,e];rfl
    unfold wP
    rcases hz with ⟨e,_⟩|⟨e,_⟩
    ·have:=zYF hw hp'.1
     rw[<-this,e,d4];simp[T.wD]
    ·have:=zYF hw hp'.2
     rw[<-this,e,d4];simp[T.wD]
   have hfr:=hlow.lv.free
   refine np σ' stk rfl ⟨hsv,hx,by omega,?_,?_,?_,by omega,?_,fun h=>hlow.ok hw hzl h,fun i _=>hlow.le i⟩
   ·rw[wL];omega
   ·rw[wL];omega
   ·rw[wL];omega
   ·rw[wL];push_cast;omega
  |link u w σ' huw c hst' hl hcn=>
   have hsv:=hl.stv hw c hs hst'
   have hx:=hl.ext hw c
   have hwl:=zam hw hx hsv hlt''
   have hlen':σ'.L.length=σ.L.length:=by have:=hl.len;rwa[Mem.zXR,Mem.zXR]at this
   have hfr:=hl.free c
   refine np σ' stk rfl ⟨hsv,hx,by omega,?_,?_,?_,by omega,?_,fun h=>hl.lvok hw c h,fun i _=>hl.zNy c i⟩
   ·rw[wL];omega
   ·rw[wL];omega
   ·rw[wL];omega
   ·rw[wL];push_cast;omega
  |copyl S1 m fr σ' h6 k6 hns hh cp hl hcn=>
   exact np σ' _ rfl (zFU hw hs (hw.root_lt _ hp'.2) (hw.zUQ _) hns cp hl hcn hlt'' (by unfold wP;rw[zYF hw hp'.2];omega) (.inl rfl))
  |copyr S1 m fr σ' h6 k6 hns hh cp hl hcn=>
   exact np σ' _ rfl (zFU hw hs (hw.root_lt _ hp'.1) (hw.zUQ _) hns cp hl hcn hlt'' (by unfold wP;rw[zYF hw hp'.1];omega) (.inr rfl))
  |kids hne hk h6 h41 h42=>
   have hx1:=hw.root_lt _ hp'.1
   have hx2:=hw.root_lt _ hp'.2
   obtain⟨klen,klo,khi⟩:=hw.zMh hx1 hx2 hne hk h6
   have t1:=zYF hw hp'.1
   have t2:=zYF hw hp'.2
   rcases zYu klen klo khi with ⟨a,c,e1,e2⟩|⟨a,b,c,d,e1,e2⟩
   ·have n1:=hw.zQQ hx1 (hw.zUQ _) e1
    have n2:=hw.zQQ hx2 (hw.zUQ _) e2
    rw[t1]at n1
    rw[t2]at n2
    have z1:zP σ.L.st (a,c)<zP σ.L.st p:=by unfold zP;rw[n1,n2];simp only[T.size];omega
    have w1:wP σ.L.st (a,c)<=wP σ.L.st p:=by unfold wP;rw[n1,n2];simp only[T.wD];split<;>split<;>omega
    have d1:dP σ.L.st (a,c)<=dP σ.L.st p:=by unfold dP;rw[n1,n2];simp only[T.deep];omega
    refine pl _ rfl ?_ ?_ ?_<;>rw[e1,e2]
    ·simp only[List.zip_cons_cons,List.zip_nil_right,List.cons_append,List.nil_append,zL];omega
    ·simp only[List.zip_cons_cons,List.zip_nil_right,List.cons_append,List.nil_append,wL];omega
    ·simp only[List.zip_cons_cons,List.zip_nil_right,List.cons_append,List.nil_append,qL];omega
   ·have n1:=hw.zQR hx1 (hw.zUQ _) e1
    have n2:=hw.zQR hx2 (hw.zUQ _) e2
    rw[t1]at n1
    rw[t2]at n2
    have z1:zP σ.L.st (a,c)+zP σ.L.st (b,d)<zP σ.L.st p:=by unfold zP;rw[n1,n2];simp only[zPR];omega
    have w1:wP σ.L.st (a,c)+wP σ.L.st (b,d)<=wP σ.L.st p:=by unfold wP;rw[n1,n2];simp only[zPT];split<;>split<;>omega
    have d1:max (dP σ.L.st (a,c)) (dP σ.L.st (b,d))+1<=dP σ.L.st p:=by unfold dP;rw[n1,n2];simp only[zPP];omega
    refine pl _ rfl ?_ ?_ ?_<;>rw[e1,e2]
    ·simp only[List.zip_cons_cons,List.zip_nil_right,List.cons_append,List.nil_append,zL];omega
    ·simp only[List.zip_cons_cons,List.zip_nil_right,List.cons_append,List.nil_append,wL];omega
    ·simp only[List.zip_cons_cons,List.zip_nil_right,List.cons_append,List.nil_append,qL,List.length_cons];omega
  |clash hk h61 h62 h41 h42=>
   refine⟨1,_,⟨hok,by rw[hst]⟩,EndS.here hg hw rfl hs rfl (by omega) (by omega) (.inr (.inl ⟨rfl,hw.zMk (hw.root_lt _ hp'.1),hw.zMk (hw.root_lt _ hp'.2),hk⟩))⟩
  |loop u w σ' huw hne h6 hh hg' hst' hcn=>
   have hf:σ.L.st.free<=M:=by omega
   have hu:u<σ.L.st.length:=by
    rcases huw with ⟨rfl,_⟩|⟨rfl,_⟩
    ·exact hw.root_lt _ hp'.1
    ·exact hw.root_lt _ hp'.2
   have er:σ.L.st.root u=u:=by
    rcases huw with ⟨rfl,_⟩|⟨rfl,_⟩<;>exact hw.zUQ _
   have hpos:1<=σ.L.st.free:=by
    refine List.countP_pos_iff.2 ⟨u,List.mem_range.2 hu,?_⟩
    have:=hw.zUK u
    rw[er]at this
    simp[St.zME,h6,this]
   have hgr:GrowS σ σ' 3 4 3:=hkeep
   refine⟨1,_,⟨hok,by rw[hst]⟩,EndS.here hg' hw hst' hs hcn (by have:=hgr.rd2;omega) hf (.inr (.inr rfl))⟩
  |limit σ' hns hl=>
   exfalso
   have:1<=wP σ.L.st p:=by
    unfold wP
    rcases hns with h|h
    ·rw[zYF hw hp'.1]at h;have:=zai h;omega
    ·rw[zYF hw hp'.2]at h;have:=zai h;omega
   simp only[wL]at hc
   push_cast at hc
   omega
end
section
def agO:T->T->Bool
 | .dyn,_=>true
 | .base k,b=>match b with| .dyn=>true| .base k'=>decide (k=k')|_=>false
 | .var n,b=>match b with| .dyn=>true| .var m=>decide (n=m)|_=>false
 | .pair a a',b=>match b with| .dyn=>true| .pair c c'=>agO a c&&agO a' c'|_=>false
 | .list a,b=>match b with| .dyn=>true| .list c=>agO a c|_=>false
 | .fn a a',b=>match b with| .dyn=>true| .fn c c'=>agO a c&&agO a' c'|_=>false
theorem zBp(a:T):agO a .dyn=true:=by cases a<;>rfl
theorem zBv:∀a:T,agO a a=true:=by intro a;induction a<;>simp_all [agO]
theorem zBo:∀a b:T,agO a b=agO b a:=by
 intro a
 induction a with
 |dyn=>intro b;rw[zBp];rfl
 |base k=>intro b;cases b<;>simp[agO,eq_comm]
 |var n=>intro b;cases b<;>simp[agO,eq_comm]
 |pair x y ih1 ih2=>intro b;cases b<;>simp[agO,ih1,ih2]
 |list x ih1=>intro b;cases b<;>simp[agO,ih1]
 |fn x y ih1 ih2=>intro b;cases b<;>simp[agO,ih1,ih2]
theorem zBw:∀a b:T,a.static=true->b.static=true->agO a b=true->a=b:=by
 intro a
 induction a with
 |dyn=>intro b h;cases h
 |base k=>intro b _ hb h;cases b<;>simp_all [agO,T.static]
 |var n=>intro b _ hb h;cases b<;>simp_all [agO,T.static]
 |pair x y ih1 ih2=>
  intro b ha hb h
  cases b<;>simp only[agO,T.static,YAA,YAB]at h ha hb
  rw[ih1 _ ha.1 hb.1 h.1,ih2 _ ha.2 hb.2 h.2]
 |list x ih1=>
  intro b ha hb h
  cases b<;>simp only[agO,T.static,YAA,YAB]at h ha hb
  rw[ih1 _ ha hb h]
 |fn x y ih1 ih2=>
  intro b ha hb h
  cases b<;>simp only[agO,T.static,YAA,YAB]at h ha hb
  rw[ih1 _ ha.1 hb.1 h.1,ih2 _ ha.2 hb.2 h.2]
theorem zBu{σ:Int->T}:∀a b:T,agO a b=true->agO (putS σ a) (putS σ b)=true:=by
 intro a
 induction a with
 |dyn=>intro b _;rfl
 |base k=>intro b h;cases b<;>simp_all [agO,putS]
 |var n=>
  intro b h
  cases b<;>simp only[agO,YAa,YAB]at h
  ·exact zBp _
  ·rw[h];exact zBv _
 |pair x y ih1 ih2=>
  intro b h
  cases b<;>simp only[agO,YAA,YAB]at h
  ·exact zBp _
  ·simp[putS,agO,ih1 _ h.1,ih2 _ h.2]
 |list x ih1=>
  intro b h
  cases b<;>simp only[agO,YAA,YAB]at h
  ·exact zBp _
  ·simp[putS,agO,ih1 _ h]
 |fn x y ih1 ih2=>
  intro b h
  cases b<;>simp only[agO,YAA,YAB]at h
  ·exact zBp _
  ·simp[putS,agO,ih1 _ h.1,ih2 _ h.2]
theorem zBq{a b:T}(h:agO a b=true)(ha:a≠ .dyn)(hb:b≠ .dyn):a.kind=b.kind:=by
 cases a<;>cases b<;>simp_all [agO,T.kind]
theorem zBs(k:Int)(a b c d:T):agO (mkB k a b) (mkB k c d)=(agO a c&&agO b d):=by unfold mkB;split<;>simp[agO]
theorem zMl{σ:Int->T}{a:T}(h:∀n,a≠ .var n):(putS σ a).kind=a.kind:=by
 cases a<;>first|rfl|exact absurd rfl (h _)
theorem Wf.zMn{S:St}(h:Wf S){n:Nat}(hn:n<S.length):(S.tT n).kind=S.kind (S.root n):=by
 have e:=h.shT hn
 generalize S.tT n=x at e⊢
 cases e<;>simp_all [T.kind]
theorem zQ1{σ:Int->T}{u:Int}(hu:(σ u).static=true):∀(t s:T),s.static=true->t.has u=true->agO s (putS σ t)=true->(σ u).size<=s.size/\(t≠ .var u->(σ u).size<s.size):=by
 intro t
 induction t with
 |dyn=>intro s _ h;cases h
 |base k=>intro s _ h;cases h
 |var n=>
  intro s hs h ha
  simp only[T.has,YAa]at h
  subst h
  have:=zBw s (σ n) hs hu ha
  rw[this];exact⟨YAV _,fun h=>absurd rfl h⟩
 |pair a b ih1 ih2=>
  intro s hs h ha
  cases s<;>simp only[putS,agO,T.static,YAA,YAB]at ha hs
  rename_i c d
  simp only[T.has,YAP]at h
  simp only[T.size]
  rcases h with h|h
  ·have:=(ih1 c hs.1 h ha.1).1;exact⟨by omega,fun _=>by omega⟩
  ·have:=(ih2 d hs.2 h ha.2).1;exact⟨by omega,fun _=>by omega⟩
 |fn a b ih1 ih2=>
  intro s hs h ha
  cases s<;>simp only[putS,agO,T.static,YAA,YAB]at ha hs
  rename_i c d
  simp only[T.has,YAP]at h
  simp only[T.size]
  rcases h with h|h
  ·have:=(ih1 c hs.1 h ha.1).1;exact⟨by omega,fun _=>by omega⟩
  ·have:=(ih2 d hs.2 h ha.2).1;exact⟨by omega,fun _=>by omega⟩
 |list a ih1=>
  intro s hs h ha
  cases s<;>simp only[putS,agO,T.static,YAA,YAB]at ha hs
  rename_i c
  simp only[T.has]at h
  simp only[T.size]
  have:=(ih1 c hs h ha).1;exact⟨by omega,fun _=>by omega⟩
theorem Ext.zYG{S S':St}(hw:Wf S)(h:Ext S S'){a b:Nat}(ha:a<S.length)(hb:b<S.length)(e:S'.root a=S'.root b):S'.tT a=S'.tT b:=
 h.wf.zYE (YAW ha h.len) (YAW hb h.len) e
theorem zB1{S:St}(hw:Wf S){x y:Nat}(hx:x<S.length)(hy:y<S.length)(ex:S.root x=x)(ey:S.root y=y)(hk:S.kind x=S.kind y){l l':List Nat}(el:S.kids x=l)(el':S.kids y=l')(hl:(∃a c,l=[a]/\l'=[c])\/∃a b c d,l=[a,b]/\l'=[c,d])
 (h:∀q∈l.zip l',agO (S.tT q.1) (S.tT q.2)=true):agO (S.tT x) (S.tT y)=true:=by
 rcases hl with ⟨a,c,rfl,rfl⟩|⟨a,b,c,d,rfl,rfl⟩
 ·rw[hw.zQQ hx ex el,hw.zQQ hy ey el']
  exact h (a,c) (by simp)
 ·rw[hw.zQR hx ex el,hw.zQR hy ey el',hk,zBs]
  have h1:=h (a,c) (by simp)
  have h2:=h (b,d) (by simp)
  simp only at h1 h2
  rw[h1,h2];rfl
theorem CpyOK.lists{S S1:St}{x y m:Nat}{fr:List Nat}(h:CpyOK S S1 x y m fr):(∃a c,fr=[a]/\S.kids y=[c])\/∃a b c d,fr=[a,b]/\S.kids y=[c,d]:=by
 rcases h.two with ⟨a,e1,e2,_⟩|⟨a,b,e1,e2,_⟩
 ·exact .inl ⟨_,_,e2,e1⟩
 ·exact .inr ⟨_,_,_,_,e2,e1⟩
theorem zNY{l l':List Nat}(hl:(∃a c,l=[a]/\l'=[c])\/∃a b c d,l=[a,b]/\l'=[c,d]):(∃a c,l'=[a]/\l=[c])\/∃a b c d,l'=[a,b]/\l=[c,d]:=by
 rcases hl with ⟨a,c,e1,e2⟩|⟨a,b,c,d,e1,e2⟩
 ·exact .inl ⟨_,_,e2,e1⟩
 ·exact .inr ⟨_,_,_,_,e2,e1⟩
theorem CpyOK.zUS{S S1:St}{x y m:Nat}{fr:List Nat}{σ':Sto}(hw:Wf S)(cp:CpyOK S S1 x y m fr)(hl:LinkS S1 x m σ'){p:Nat}(hp:S.root p=x):σ'.L.st.root p=m:=by
 rw[hl.root cp.wf cp.can]
 have:S1.root p=x:=by rw[cp.ext.root hw p,hp];exact zUO cp.can.lx
 rw[if_pos this]
theorem zVB{lim:Int}:∀(m:Nat) (stk:List (Nat×Nat)) (σ:Sto) (res:Int×Int×Int×Sto),GoodS σ->Lt2 σ.L.length stk->RunB lim m stk σ res->res.2.2.1=0->
 GoodS res.2.2.2/\Ext σ.L.st res.2.2.2.L.st/\∀p∈stk,agO (res.2.2.2.L.st.tT p.1) (res.2.2.2.L.st.tT p.2)=true:=by
 intro m
 induction m with
 |zero=>
  intro stk σ res hg hlt hr he
  cases stk with
  | nil => have e:res=(0,0,0,σ):=hr
           subst e;exact⟨hg,Ext.refl hg.si.wf,by simp⟩
  |cons p stk=>exact hr.elim
 |succ m ih=>
  intro stk σ res hg hlt hr he
  cases stk with
  | nil => have e:res=(0,0,0,σ):=hr
           subst e;exact⟨hg,Ext.refl hg.si.wf,by simp⟩
  |cons p stk=>
   obtain⟨_,hr⟩:=hr
   have hw:=hg.si.wf
   have hp:=hlt p YAU
   have hp':p.1<σ.L.st.length/\p.2<σ.L.st.length:=by rw[Mem.zXR];exact hp
   have hlt':Lt2 σ.L.length stk:=fun q hq=>hlt q (YAT _ hq)
   have hkeep:=zXm (lim:=lim) hg hp hlt'
   have hcase:=zXl (lim:=lim) hg hp stk
   have hx1:=hw.root_lt _ hp'.1
   have hx2:=hw.root_lt _ hp'.2
   have fin:∀(σ':Sto) stk',GoodS σ'->Lt2 σ'.L.length stk'->RunB lim m stk' σ' res->Ext σ.L.st σ'.L.st->(∀q∈stk,q∈stk')->
    (Ext σ'.L.st res.2.2.2.L.st->(∀q∈stk',agO (res.2.2.2.L.st.tT q.1) (res.2.2.2.L.st.tT q.2)=true)->agO (res.2.2.2.L.st.tT p.1) (res.2.2.2.L.st.tT p.2)=true)->
    GoodS res.2.2.2/\Ext σ.L.st res.2.2.2.L.st/\∀q∈p::stk,agO (res.2.2.2.L.st.tT q.1) (res.2.2.2.L.st.tT q.2)=true:=by
    intro σ' stk' h1 h2 h3 h4 h5 h6
    obtain⟨a,b,c⟩:=ih stk' σ' res h1 h2 h3 he
    refine⟨a,h4.trans b,fun q hq=> ?_⟩
    rcases List.mem_cons.1 hq with rfl|hq
    ·exact h6 b c
    ·exact c q (h5 q hq)
   have one:∀σ':Sto,Ext σ.L.st σ'.L.st->σ'.L.st.root p.1=σ'.L.st.root p.2->Ext σ'.L.st res.2.2.2.L.st->agO (res.2.2.2.L.st.tT p.1) (res.2.2.2.L.st.tT p.2)=true:=by
    intro σ' h1 h2 h3
    have e:res.2.2.2.L.st.root p.1=res.2.2.2.L.st.root p.2:=by rw[h3.root h1.wf p.1,h3.root h1.wf p.2,h2]
    rw[(h1.trans h3).zYG hw hp'.1 hp'.2 e];exact zBv _
   generalize hst:zXk lim p stk σ=st at*
   cases hcase with
   |eq e=>exact fin σ stk hkeep.1.good hkeep.2 hr (Ext.refl hw) (fun _ h=>h) fun b _=>one σ (Ext.refl hw) e b
   |dyn z σ' hz hg' hlow hcn=>
    have hx:=Ext.lv hg'.si.wf hlow.lv
    refine fin σ' stk hkeep.1.good hkeep.2 hr hx (fun _ h=>h) fun b _=> ?_
    have hx':=hx.trans b
    have d4:∀n,n<σ.L.st.length->σ.L.st.root n=4->res.2.2.2.L.st.tT n= .dyn:=fun n hn e=>by
     have h5:=hw.five
     have e4:=hw.leaf 4 (by omega)
     have er:σ.L.st.root 4=4:=zUO (by rw[St.link,e4])
     rw[hx'.tT hw n hn,<-zYF hw hn,e,hw.zX8 (by omega),er,St.zQS,St.kids,St.kind,e4];rfl
    rcases hz with ⟨e,_⟩|⟨e,_⟩
    ·rw[d4 _ hp'.1 e];rfl
    ·rw[d4 _ hp'.2 e];exact zBp _
   |link u w σ' huw c hs hl hcn=>
    have hx:=hl.ext hw c
    refine fin σ' stk hkeep.1.good hkeep.2 hr hx (fun _ h=>h) fun b _=>one σ' hx ?_ b
    have hne:=c.ne hw
    rw[hl.root hw c,hl.root hw c]
    rcases huw with ⟨rfl,rfl⟩|⟨rfl,rfl⟩
    ·rw[if_pos rfl,if_neg hne]
    ·rw[if_pos rfl,if_neg hne]
   |copyl S1 n fr σ' h6 k6 hns hh cp hl hcn=>
    have hxl:=hl.ext cp.wf cp.can
    have hx:=cp.ext.trans hxl
    refine fin σ' _ hkeep.1.good hkeep.2 hr hx (fun _ h=>List.mem_append_right _ h) fun b hall=> ?_
    have hx':=hx.trans b
    have hnl:n<S1.length:=by rw[cp.len];omega
    have b1:=hxl.trans b
    have hk1:S1.kind n≠6:=by rw[cp.kind];exact k6
    have r1:res.2.2.2.L.st.root n=n:=b1.zUG cp.wf hnl hk1
    have r2:res.2.2.2.L.st.root (σ.L.st.root p.2)=σ.L.st.root p.2:=hx'.zUG hw hx2 k6
    have e1:res.2.2.2.L.st.tT p.1=res.2.2.2.L.st.tT n:=by
     refine b.wf.zYE (YAW hp'.1 hx'.len) (YAW hnl b1.len) ?_
     rw[b.root hx.wf p.1,cp.zUS hw hl rfl]
    have e2:res.2.2.2.L.st.tT p.2=res.2.2.2.L.st.tT (σ.L.st.root p.2):=by
     refine b.wf.zYE (YAW hp'.2 hx'.len) (YAW hx2 hx'.len) ?_
     rw[hx'.root hw p.2]
    rw[e1,e2]
    exact zB1 b.wf (YAW hnl b1.len) (YAW hx2 hx'.len) r1 r2 (by rw[b1.kind n hnl,hx'.kind _ hx2,cp.kind]) (by rw[b1.kids n hnl,cp.kids]) (hx'.kids _ hx2) cp.lists fun q hq=>hall q (List.mem_append_left _ hq)
   |copyr S1 n fr σ' h6 k6 hns hh cp hl hcn=>
    have hxl:=hl.ext cp.wf cp.can
    have hx:=cp.ext.trans hxl
    refine fin σ' _ hkeep.1.good hkeep.2 hr hx (fun _ h=>List.mem_append_right _ h) fun b hall=> ?_
    have hx':=hx.trans b
    have hnl:n<S1.length:=by rw[cp.len];omega
    have b1:=hxl.trans b
    have hk1:S1.kind n≠6:=by rw[cp.kind];exact k6
    have r1:res.2.2.2.L.st.root n=n:=b1.zUG cp.wf hnl hk1
    have r2:res.2.2.2.L.st.root (σ.L.st.root p.1)=σ.L.st.root p.1:=hx'.zUG hw hx1 k6
    have e1:res.2.2.2.L.st.tT p.2=res.2.2.2.L.st.tT n:=by
     refine b.wf.zYE (YAW hp'.2 hx'.len) (YAW hnl b1.len) ?_
     rw[b.root hx.wf p.2,cp.zUS hw hl rfl]
    have e2:res.2.2.2.L.st.tT p.1=res.2.2.2.L.st.tT (σ.L.st.root p.1):=by
     refine b.wf.zYE (YAW hp'.1 hx'.len) (YAW hx1 hx'.len) ?_
     rw[hx'.root hw p.1]
    rw[e1,e2]
    exact zB1 b.wf (YAW hx1 hx'.len) (YAW hnl b1.len) r2 r1 (by rw[b1.kind n hnl,hx'.kind _ hx1,cp.kind]) (hx'.kids _ hx1) (by rw[b1.kids n hnl,cp.kids]) (zNY cp.lists) fun q hq=>hall q (List.mem_append_left _ hq)
   |kids hne hk h6 h41 h42=>
    refine fin σ _ hkeep.1.good hkeep.2 hr (Ext.refl hw) (fun _ h=>List.mem_append_right _ h) fun b hall=> ?_
    obtain⟨klen,klo,khi⟩:=hw.zMh hx1 hx2 hne hk h6
    have r1:res.2.2.2.L.st.root (σ.L.st.root p.1)=σ.L.st.root p.1:=b.zUG hw hx1 h6
    have r2:res.2.2.2.L.st.root (σ.L.st.root p.2)=σ.L.st.root p.2:=b.zUG hw hx2 (by rw[<-hk];exact h6)
    have e1:res.2.2.2.L.st.tT p.1=res.2.2.2.L.st.tT (σ.L.st.root p.1):=by
     refine b.wf.zYE (YAW hp'.1 b.len) (YAW hx1 b.len) ?_
     rw[b.root hw p.1]
    have e2:res.2.2.2.L.st.tT p.2=res.2.2.2.L.st.tT (σ.L.st.root p.2):=by
     refine b.wf.zYE (YAW hp'.2 b.len) (YAW hx2 b.len) ?_
     rw[b.root hw p.2]
    rw[e1,e2]
    exact zB1 b.wf (YAW hx1 b.len) (YAW hx2 b.len) r1 r2 (by rw[b.kind _ hx1,b.kind _ hx2,hk]) (b.kids _ hx1) (b.kids _ hx2) (zYu klen klo khi) fun q hq=>hall q (List.mem_append_left _ hq)
   |clash hk h61 h62 h41 h42=>
    have e:res=(_,_,4,σ):=hr
    rw[e]at he;simp at he
   |loop u w σ' huw hne h6 hh hg' hst' hcn=>
    have e:res=(0,0,5,σ'):=hr
    rw[e]at he;simp at he
   |limit σ' hns hl=>
    have e:res=(0,0,7,σ'):=hr
    rw[e]at he;simp at he
end
section
theorem zSt{σ:Int->T}(h:∀z,(σ z).static=true){a:T}(ha:a.static=true):(putS σ a).static=true:=zXf a (fun n _=>h n) ha
theorem CanLk.val{S:St}{x y:Nat}(hw:Wf S)(c:CanLk S x y){val:Int->T}(h:val x=putS val (S.tT y)){n:Nat}(hn:n<S.length):putS val ((S.lk x y).tT n)=putS val (S.tT n):=by
 rw[c.tT hw hn,zS9]
 refine zSx _ fun z _=> ?_
 split
 ·rename_i e;rw[e,h]
 ·rfl
theorem LinkS.val{S:St}{x y:Nat}{σ':Sto}(hw:Wf S)(c:CanLk S x y)(hl:LinkS S x y σ'){val:Int->T}(h:val x=putS val (S.tT y)){n:Nat}(hn:n<S.length):putS val (σ'.L.st.tT n)=putS val (S.tT n):=by
 rw[hl.tT];exact c.val hw h hn
def valU(val:Int->T)(L:Nat)(c0 c1:T):Int->T:=fun z=>if z=L then c0 else if z=(L+1:Nat)then c1 else val z
theorem zaO{S:St}(hw:Wf S){val:Int->T}{c0 c1:T}{n:Nat}(hn:n<S.length):putS (valU val S.length c0 c1) (S.tT n)=putS val (S.tT n):=by
 refine zSx _ fun z hz=> ?_
 obtain⟨m,rfl,h1,_⟩:=hw.zK9 n hn z hz
 unfold valU
 rw[if_neg (by omega),if_neg (by omega)]
theorem zBr{s b:T}(hs:s.static=true)(h:agO s (.list b)=true):∃c,s= .list c/\c.static=true/\agO c b=true:=by
 cases s<;>simp only[agO,T.static,YAB]at h hs
 exact⟨_,rfl,hs,h⟩
theorem zBt{s a b:T}{k:Int}(hs:s.static=true)(h:agO s (mkB k a b)=true):∃c d,s=mkB k c d/\c.static=true/\d.static=true/\agO c a=true/\agO d b=true:=by
 unfold mkB at h⊢
 split at h
 ·rename_i e
  cases s<;>simp only[agO,T.static,YAA,YAB]at h hs
  simp only[if_pos e]
  exact⟨_,_,rfl,hs.1,hs.2,h.1,h.2⟩
 ·rename_i e
  cases s<;>simp only[agO,T.static,YAA,YAB]at h hs
  simp only[if_neg e]
  exact⟨_,_,rfl,hs.1,hs.2,h.1,h.2⟩
theorem zFV{S S1:St}{x y m:Nat}{fr:List Nat}{σ':Sto}(hw:Wf S)(hx:x<S.length)(hy:y<S.length)(ey:S.root y=y)(cp:CpyOK S S1 x y m fr)(hl:LinkS S1 x m σ'){val:Int->T}(hv:∀z,(val z).static=true)
 (ha:agO (val x) (putS val (S.tT y))=true):∃val':Int->T,(∀z,(val' z).static=true)/\(∀n,n<S.length->putS val' (σ'.L.st.tT n)=putS val (S.tT n))/\
  ∀q∈fr.zip (S.kids y),agO (putS val' (σ'.L.st.tT q.1)) (putS val' (σ'.L.st.tT q.2))=true:=by
 have hml:m<S1.length:=by rw[cp.len];omega
 have hxs:∀c0 c1,valU val S.length c0 c1 x=val x:=fun c0 c1=>by unfold valU;rw[if_neg (by omega),if_neg (by omega)]
 have old:∀c0 c1,val x=putS (valU val S.length c0 c1) (S1.tT m)->∀n,n<S.length->putS (valU val S.length c0 c1) (σ'.L.st.tT n)=putS val (S.tT n):=fun c0 c1 h n hn=>by
  have:=cp.ext.len
  rw[hl.val cp.wf cp.can (by rw[hxs];exact h) (by omega),cp.tT n hn,zaO hw hn]
 have new:∀c0 c1,val x=putS (valU val S.length c0 c1) (S1.tT m)->∀f∈fr,putS (valU val S.length c0 c1) (σ'.L.st.tT f)=valU val S.length c0 c1 f:=fun c0 c1 h f hf=>by
  obtain⟨_,h2,_⟩:=cp.frs f hf
  rw[hl.val cp.wf cp.can (by rw[hxs];exact h) (by rw[cp.len];omega),cp.zX9 hf];rfl
 rcases cp.two with ⟨a,hk,hf,hm,hkd⟩|⟨a,b,hk,hf,hm,hkd⟩
 ·have hal:=hw.kid_lt y a (by rw[hk];simp)
  rw[hw.zQQ hy ey hk,putS]at ha
  obtain⟨c,hc,hcs,hca⟩:=zBr (hv x) ha
  have tm:S1.tT m= .list (.var S.length):=by
   have k:=cp.kids
   rw[hf]at k
   rw[cp.wf.zQQ hml cp.root k,cp.zX9 (f:=S.length) (by rw[hf];simp)]
  have hxm:val x=putS (valU val S.length c c) (S1.tT m):=by rw[tm,hc];simp[putS,valU]
  refine⟨valU val S.length c c,fun z=> ?_,old c c hxm,fun q hq=> ?_⟩
  ·unfold valU;split;exact hcs;split;exact hcs;exact hv z
  ·rw[hk,hf]at hq
   simp only[List.zip_cons_cons,List.zip_nil_right,List.mem_singleton]at hq
   subst hq
   simp only
   rw[old c c hxm a hal,new c c hxm S.length (by rw[hf];simp)]
   unfold valU;rw[if_pos rfl];exact hca
 ·have hal:=hw.kid_lt y a (by rw[hk];simp)
  have hbl:=hw.kid_lt y b (by rw[hk];simp)
  rw[hw.zQR hy ey hk,zPQ]at ha
  obtain⟨c,d,hc,hcs,hds,hca,hda⟩:=zBt (hv x) ha
  have tm:S1.tT m=mkB (S.kind y) (.var S.length) (.var (S.length+1:Nat)):=by
   have k:=cp.kids
   rw[hf]at k
   rw[cp.wf.zQR hml cp.root k,cp.kind,cp.zX9 (f:=S.length) (by rw[hf];simp),cp.zX9 (f:=S.length+1) (by rw[hf];simp)]
  have hxm:val x=putS (valU val S.length c d) (S1.tT m):=by
   rw[tm,hc,zPQ]
   simp only[putS,valU,if_true]
   rw[if_neg (by omega)]
  refine⟨valU val S.length c d,fun z=> ?_,old c d hxm,fun q hq=> ?_⟩
  ·unfold valU;split;exact hcs;split;exact hds;exact hv z
  ·rw[hk,hf]at hq
   simp only[List.zip_cons_cons,List.zip_nil_right,List.mem_cons,List.not_mem_nil,or_false]at hq
   rcases hq with rfl|rfl
   ·simp only
    rw[old c d hxm a hal,new c d hxm S.length (by rw[hf];simp)]
    unfold valU;rw[if_pos rfl];exact hca
   ·simp only
    rw[old c d hxm b hbl,new c d hxm (S.length+1) (by rw[hf];simp)]
    unfold valU;rw[if_neg (by omega),if_pos rfl];exact hda
theorem zUs{lim:Int}:∀(m:Nat) (stk:List (Nat×Nat)) (σ:Sto) (res:Int×Int×Int×Sto) (val:Int->T),GoodS σ->Lt2 σ.L.length stk->RunB lim m stk σ res->res.2.2.1≠7->(∀z,(val z).static=true)->
 (∀p∈stk,agO (putS val (σ.L.st.tT p.1)) (putS val (σ.L.st.tT p.2))=true)->
 res.2.2.1=0/\∃val':Int->T,(∀z,(val' z).static=true)/\∀n,n<σ.L.length->putS val' (res.2.2.2.L.st.tT n)=putS val (σ.L.st.tT n):=by
 intro m
 induction m with
 |zero=>
  intro stk σ res val hg hlt hr he hv ha
  cases stk with
  | nil => have e:res=(0,0,0,σ):=hr
           subst e;exact⟨rfl,val,hv,fun _ _=>rfl⟩
  |cons p stk=>exact hr.elim
 |succ m ih=>
  intro stk σ res val hg hlt hr he hv ha
  cases stk with
  | nil => have e:res=(0,0,0,σ):=hr
           subst e;exact⟨rfl,val,hv,fun _ _=>rfl⟩
  |cons p stk=>
   obtain⟨_,hr⟩:=hr
   have hw:=hg.si.wf
   have hp:=hlt p YAU
   have hp':p.1<σ.L.st.length/\p.2<σ.L.st.length:=by rw[Mem.zXR];exact hp
   have hlt':Lt2 σ.L.length stk:=fun q hq=>hlt q (YAT _ hq)
   have hlt'':Lt2 σ.L.st.length stk:=by rw[Mem.zXR];exact hlt'
   have hap:=ha p YAU
   have ha':∀q∈stk,agO (putS val (σ.L.st.tT q.1)) (putS val (σ.L.st.tT q.2))=true:=fun q hq=>ha q (YAT _ hq)
   have hkeep:=zXm (lim:=lim) hg hp hlt'
   have hcase:=zXl (lim:=lim) hg hp stk
   have hx1:=hw.root_lt _ hp'.1
   have hx2:=hw.root_lt _ hp'.2
   have t1:=zYF hw hp'.1
   have t2:=zYF hw hp'.2
   rw[<-t1,<-t2]at hap
   have hll:σ.L.length=σ.L.st.length:=(Mem.zXR _).symm
   have fin:∀(σ':Sto) stk' (val':Int->T),GoodS σ'->Lt2 σ'.L.length stk'->RunB lim m stk' σ' res->σ.L.length<=σ'.L.length->(∀z,(val' z).static=true)->(∀n,n<σ.L.st.length->putS val' (σ'.L.st.tT n)=putS val (σ.L.st.tT n))->
    (∀q∈stk',agO (putS val' (σ'.L.st.tT q.1)) (putS val' (σ'.L.st.tT q.2))=true)->
    res.2.2.1=0/\∃val':Int->T,(∀z,(val' z).static=true)/\∀n,n<σ.L.length->putS val' (res.2.2.2.L.st.tT n)=putS val (σ.L.st.tT n):=by
    intro σ' stk' val' h1 h2 h3 h4 h5 h6 h7
    obtain⟨a,v,b,c⟩:=ih stk' σ' res val' h1 h2 h3 he h5 h7
    exact⟨a,v,b,fun n hn=>by rw[c n (YAW hn h4),h6 n (by rw[<-hll];exact hn)]⟩
   generalize hst:zXk lim p stk σ=st at*
   cases hcase with
   |eq e=>exact fin σ stk val hkeep.1.good hkeep.2 hr (YAV _) hv (fun _ _=>rfl) ha'
   |dyn z σ' hz hg' hlow hcn=>
    exact fin σ' stk val hkeep.1.good hkeep.2 hr hkeep.1.len1 hv (fun n _=>by rw[hlow.lv.tT]) fun q hq=>by rw[hlow.lv.tT,hlow.lv.tT];exact ha' q hq
   |link u w σ' huw c hs hl hcn=>
    have hu:=hw.zYA c.hx c.h6 c.lx
    have e:val u=putS val (σ.L.st.tT w):=by
     have h1:agO (val u) (putS val (σ.L.st.tT w))=true:=by
      rcases huw with ⟨rfl,rfl⟩|⟨rfl,rfl⟩
      ·rw[hu]at hap;exact hap
      ·rw[hu,zBo]at hap;exact hap
     exact zBw _ _ (hv u) (zSt hv hs) h1
    have hval:=fun n hn=>hl.val hw c e (n:=n) hn
    exact fin σ' stk val hkeep.1.good hkeep.2 hr hkeep.1.len1 hv hval fun q hq=>by
     rw[hval _ (hlt'' q hq).1,hval _ (hlt'' q hq).2];exact ha' q hq
   |copyl S1 n fr σ' h6 k6 hns hh cp hl hcn=>
    have lx:σ.L.st.link (σ.L.st.root p.1)=none:=hw.zUK _
    have hu:=hw.zYA hx1 h6 lx
    rw[hu]at hap
    obtain⟨val',q1,q2,q3⟩:=zFV hw hx1 hx2 (hw.zUQ _) cp hl hv hap
    refine fin σ' _ val' hkeep.1.good hkeep.2 hr hkeep.1.len1 q1 q2 fun q hq=> ?_
    rcases List.mem_append.1 hq with hq|hq
    ·exact q3 q hq
    ·rw[q2 _ (hlt'' q hq).1,q2 _ (hlt'' q hq).2];exact ha' q hq
   |copyr S1 n fr σ' h6 k6 hns hh cp hl hcn=>
    have lx:σ.L.st.link (σ.L.st.root p.2)=none:=hw.zUK _
    have hu:=hw.zYA hx2 h6 lx
    rw[hu,zBo]at hap
    obtain⟨val',q1,q2,q3⟩:=zFV hw hx2 hx1 (hw.zUQ _) cp hl hv hap
    refine fin σ' _ val' hkeep.1.good hkeep.2 hr hkeep.1.len1 q1 q2 fun q hq=> ?_
    rcases List.mem_append.1 hq with hq|hq
    ·have hq':(q.2,q.1)∈fr.zip (σ.L.st.kids (σ.L.st.root p.1)):=by
      rcases cp.lists with ⟨a,c,e1,e2⟩|⟨a,b,c,d,e1,e2⟩
      ·rw[e1,e2]at hq⊢
       simp only[List.zip_cons_cons,List.zip_nil_right,List.mem_singleton]at hq⊢
       rw[hq]
      ·rw[e1,e2]at hq⊢
       simp only[List.zip_cons_cons,List.zip_nil_right,List.mem_cons,List.not_mem_nil,or_false]at hq⊢
       rcases hq with rfl|rfl
       ·exact .inl rfl
       ·exact .inr rfl
     have:=q3 _ hq'
     rw[zBo]at this;exact this
    ·rw[q2 _ (hlt'' q hq).1,q2 _ (hlt'' q hq).2];exact ha' q hq
   |kids hne hk h6 h41 h42=>
    obtain⟨klen,klo,khi⟩:=hw.zMh hx1 hx2 hne hk h6
    refine fin σ _ val hkeep.1.good hkeep.2 hr (YAV _) hv (fun _ _=>rfl) fun q hq=> ?_
    rcases List.mem_append.1 hq with hq|hq
    ·rcases zYu klen klo khi with ⟨a,c,e1,e2⟩|⟨a,b,c,d,e1,e2⟩
     ·rw[hw.zQQ hx1 (hw.zUQ _) e1,hw.zQQ hx2 (hw.zUQ _) e2]at hap
      rw[e1,e2]at hq
      simp only[List.zip_cons_cons,List.zip_nil_right,List.mem_singleton]at hq
      subst hq
      exact hap
     ·rw[hw.zQR hx1 (hw.zUQ _) e1,hw.zQR hx2 (hw.zUQ _) e2,zPQ,zPQ,hk,zBs,YAA]at hap
      rw[e1,e2]at hq
      simp only[List.zip_cons_cons,List.zip_nil_right,List.mem_cons,List.not_mem_nil,or_false]at hq
      rcases hq with rfl|rfl
      ·exact hap.1
      ·exact hap.2
    ·exact ha' q hq
   |clash hk h61 h62 h41 h42=>
    exfalso
    have k1:=hw.zMn hx1
    have k2:=hw.zMn hx2
    rw[hw.zUQ]at k1 k2
    have nv:∀r,r<σ.L.st.length->σ.L.st.kind r≠6->(σ.L.st.tT r).kind=σ.L.st.kind r->∀n,σ.L.st.tT r≠ .var n:=fun r _ h6 hkd n e=>by rw[e]at hkd;simp only[T.kind]at hkd;omega
    have nd:∀r,r<σ.L.st.length->r≠4->σ.L.st.root r=r->∀z:Int->T,(∀n,σ.L.st.tT r≠ .var n)->putS z (σ.L.st.tT r)≠ .dyn:=fun r hr' h4 er z hnv e=>by
     have sh:=hw.shT hr'
     rw[er]at sh
     generalize σ.L.st.tT r=x at sh e hnv
     cases sh<;>simp only[putS,reduceCtorEq]at e
     ·omega
     ·exact hnv _ rfl
    have v1:=nv _ hx1 h61 k1
    have v2:=nv _ hx2 h62 k2
    have:=zBq hap (nd _ hx1 h41 (hw.zUQ _) val v1) (nd _ hx2 h42 (hw.zUQ _) val v2)
    rw[zMl v1,zMl v2,k1,k2]at this
    exact hk this
   |loop u w σ' huw hne h6 hh hg' hst' hcn=>
    exfalso
    have hu:u<σ.L.st.length/\σ.L.st.root u=u/\w<σ.L.st.length/\σ.L.st.root w=w:=by
     rcases huw with ⟨rfl,rfl⟩|⟨rfl,rfl⟩
     ·exact⟨hx1,hw.zUQ _,hx2,hw.zUQ _⟩
     ·exact⟨hx2,hw.zUQ _,hx1,hw.zUQ _⟩
    obtain⟨h1,h2,h3,h4⟩:=hu
    have lu:σ.L.st.link u=none:=by have:=hw.zUK u;rwa[h2]at this
    have lw:σ.L.st.link w=none:=by have:=hw.zUK w;rwa[h4]at this
    have hf:=hw.zYA h1 h6 lu
    have hag:agO (val u) (putS val (σ.L.st.tT w))=true:=by
     rcases huw with ⟨rfl,rfl⟩|⟨rfl,rfl⟩
     ·rw[hf]at hap;exact hap
     ·rw[hf,zBo]at hap;exact hap
    have:=(zQ1 (hv u) _ _ (hv u) hh hag).2 fun e=>by
     have hk:=hw.zMn h3
     rw[e,h4]at hk
     have hf':=hw.zYA h3 (by rw[<-hk];rfl) lw
     rw[e]at hf'
     simp only[T.var.injEq]at hf'
     omega
    omega
   |limit σ' hns hl=>
    have e:res=(0,0,7,σ'):=hr
    rw[e]at he;exact absurd rfl he
end
section
theorem zU5{lim:Int}{σ:Sto}(hg:GoodS σ)(hs:StV σ.L.st){x y:Nat}(hx:x<σ.L.length)(hy:y<σ.L.length)(hw:(σ.L.st.tT x).wD+(σ.L.st.tT y).wD<=2000)(hf:σ.L.st.free<=20000)(hl:σ.L.length<=50000)(hc0:0<=σ.cnt)(hlim:lim<=65536)
 (hc:σ.cnt+3*(((σ.L.st.tT x).wD+(σ.L.st.tT y).wD:Nat):Int)<=lim) (hrd:σ.rd<=10000000000):
 ∃m res,RunB lim m [(x,y)] σ res/\EndS σ (5*((σ.L.st.tT x).wD+(σ.L.st.tT y).wD)+σ.L.st.free) ((σ.L.st.tT x).wD+(σ.L.st.tT y).wD) res:=by
 have hlt:Lt2 σ.L.length [(x,y)]:=fun q hq=>by rw[List.mem_singleton]at hq;subst hq;exact⟨hx,hy⟩
 have ew:wL σ.L.st [(x,y)]=(σ.L.st.tT x).wD+(σ.L.st.tT y).wD:=by simp[wL,wP]
 have hq:qL σ.L.st [(x,y)]<=1+56000:=by
  refine zTD (stk:=[(x,y)]) fun q hq=>Nat.le_trans (hg.si.wf.zFb (by rw[Mem.zXR];exact hlt) q hq) ?_
  rw[Mem.zXR];omega
 have hM:5*((σ.L.st.tT x).wD+(σ.L.st.tT y).wD)+σ.L.st.free<=30000:=by omega
 have hmul:(56000+2)*(5*((σ.L.st.tT x).wD+(σ.L.st.tT y).wD)+σ.L.st.free)<=(56000+2)*30000:=Nat.mul_le_mul_left _ hM
 have:=zUx (lim:=lim) (R:=80000000000) (C:=lim) (D:=56000) (K:=100000000000) (by omega) (by omega) (by omega) (YAQ _) (by omega) (5*((σ.L.st.tT x).wD+(σ.L.st.tT y).wD)+σ.L.st.free) (zL σ.L.st [(x,y)]) σ [(x,y)] hg hs hlt (by rw[ew];omega) (YAV _) (by rw[ew];omega) hc0 (by rw[ew];exact hc) (by omega) (by omega)
 rw[ew]at this
 exact this
def zAx(S:St):Prop:=∀i,S.kind i≠6
end
section
def rowOf:List (T×T)->T
 | []=> .base 3
 |p::l=> .pair (.pair p.1 p.2) (rowOf l)
def RowN(S:St):Nat->List (Nat×Nat)->Prop
 |_,[]=>True
 |n,p::ps=>∃k0 k1,n<S.length/\k0<S.length/\k1<S.length/\S.kind (S.root n)=7/\S.kids (S.root n)=[k0,k1]/\S.kind (S.root k0)=7/\S.kids (S.root k0)=[p.1,p.2]/\RowN S k1 ps
theorem RowN.ext{S S':St}(hw:Wf S)(h:Ext S S'):∀ {ps:List (Nat×Nat)} {n:Nat},RowN S n ps->RowN S' n ps
 | [],_,_=>trivial
 |p::ps,n,⟨k0,k1,h1,h2,h3,h4,h5,h6,h7,h8⟩=>by
  have hle:=h.len
  have r1:S'.root n=S.root n:=by rw[h.root hw n];exact h.zUG hw (hw.root_lt n h1) (by omega)
  have r2:S'.root k0=S.root k0:=by rw[h.root hw k0];exact h.zUG hw (hw.root_lt k0 h2) (by omega)
  refine⟨k0,k1,by omega,by omega,by omega,?_,?_,?_,?_,RowN.ext hw h h8⟩
  ·rw[r1,h.kind _ (hw.root_lt n h1),h4]
  ·rw[r1,h.kids _ (hw.root_lt n h1),h5]
  ·rw[r2,h.kind _ (hw.root_lt k0 h2),h6]
  ·rw[r2,h.kids _ (hw.root_lt k0 h2),h7]
def SeqB(lim:Int):List (Nat×Nat)->Sto->Int×Sto->Prop
 | [],σ,r=>r=(0,σ)
 |p::ps,σ,r=>∃m res,RunB lim m [p] σ res/\if res.2.2.1=0 then SeqB lim ps res.2.2.2 r else r=(res.2.2.1,res.2.2.2)
structure EndQ (σ:Sto) (w k:Nat) (r:Int×Sto):Prop where
 good:GoodS r.2
 stv:StV r.2.L.st
 ext:Ext σ.L.st r.2.L.st
 e:r.1=0\/r.1=4\/r.1=5
 len:r.2.L.length<=σ.L.length+3*w
 cnt1:σ.cnt<=r.2.cnt
 cnt:r.2.cnt<=σ.cnt+3*w
 free:r.2.L.st.free<=5*w+σ.L.st.free
 rd:r.2.rd<=σ.rd+40000*k
def zAv(S:St):Prop:=∀i,S.link i=none
theorem zAv.stv{S:St}(hw:Wf S)(h:zAv S):StV S:=fun v hv h6=>by rw[hw.zYA hv h6 (h v)];rfl
theorem zAv.lvok{S:St}(hw:Wf S)(h:zAv S):LvOK S:=fun v hv h6 w hh=>by
 rw[hw.zYA hv h6 (h v)]at hh
 simp only[T.has,YAa]at hh
 have:w=v:=by omega
 subst this;exact YAQ _
theorem zAv.add{L:Mem}(h:zAv L.st){x:Nd}(hx:x.link=none):zAv (L++ [(x,(0:Int))]:Mem).st:=fun i=>by
 rw[Mem.zXM,St.link,St.zPu]
 split
 ·exact hx
 ·exact h i
theorem zQN:zAv mem0.st:=fun i=>by
 match i with
 |0|1|2|3|4=>rfl
 |i+5=>rfl
end
end Go.Proofs.Ytdngjamjccjlmaa
