/- Lemmas: the way of patterns of the document, first part. No condition. -/
import Derived.Test.YtdngjamjccjlmaaGreatPRy
import Derived.Test.YtdngjamjccjlmaaGreatPQd
import Derived.Test.YtdngjamjccjlmaaGreatPQb
import Derived.Test.YtdngjamjccjlmaaGreatPRf
import Derived.Test.YtdngjamjccjlmaaGreatPAf
set_option linter.unusedSimpArgs false
set_option linter.unusedVariables false
set_option maxHeartbeats 4000000
set_option maxRecDepth 100000
namespace Go.Proofs.YtdngjamjccjlmaaGreat
open Go Go.Ab
open Nat renaming reduceEqDiff -> yA, reduceAdd -> yB, reduceLT -> yC, reduceLeDiff -> yD, reduceMul -> yE, reducePow -> yF
open AV renaming belL -> yO, bel -> yN, normL -> yQ, norm -> yP
open AObj renaming bel -> yR
open Int renaming reduceBEq -> yK
attribute [local irreducible] zA0 zAA zAa zAi zAj GoIf GoGb zAk GoO GoD GoX GoDX GoG GoDG GoGv zAl Go zAB
section
def KK(σ τ:Sto):Prop:=σ.L.length<=τ.L.length/\∀i,i<σ.L.length->τ.L.st.kids i=σ.L.st.kids i
theorem KK.refl(σ:Sto):KK σ σ:=⟨YAV _,fun _ _=>rfl⟩
theorem KK.trans{σ τ υ:Sto}(h:KK σ τ)(k:KK τ υ):KK σ υ:=⟨Nat.le_trans h.1 k.1,fun i hi=>(k.2 i (YAW hi h.1)).trans (h.2 i hi)⟩
theorem KK.mark(σ:Sto)(n:Nat):KK σ (σ.mark n):=⟨by rw[Sto.zOz];exact YAV _,fun i _=>by rw[Sto.zO0]⟩
theorem KK.low{σ:Sto}(h:GoodS σ){n:Nat}(hn:n<σ.L.length){lv:Int}(hl:0<=lv):KK σ (σ.low n lv):=by
 obtain⟨_,h2⟩:=Sto.zNz h hn hl
 refine⟨?_,fun i _=>h2.lv.kids i⟩
 have:=h2.lv.len
 rw[Mem.zXR,Mem.zXR]at this
 omega
theorem KK.app{σ τ:Sto}{d:Nd}(e:τ.L.st=σ.L.st++ [d]):KK σ τ:=by
 refine⟨?_,fun i hi=> ?_⟩
 ·rw[<-Mem.zXR,<-Mem.zXR,e];simp
 ·rw[e,St.kids,St.zPv (by rw[Mem.zXR];exact hi)];rfl
theorem KK.var(σ:Sto)(lv:Int):KK σ (σ.var lv):=KK.app (d:=⟨6,lv,none,[]⟩) (by rw[Sto.var,Mem.zXM];rfl)
theorem KK.mk'(σ:Sto)(k:Int)(ks:List Nat):KK σ (σ.mk' k ks):=KK.app (d:=⟨k,0,none,ks⟩) (by rw[Sto.mk',Mem.zXM])
theorem KK.link{σ:Sto}(h:GoodS σ){x y:Nat}(hx:x<σ.L.length)(hy:y<σ.L.length)(ex:σ.L.st.root x=x)(ey:σ.L.st.root y=y)(h6:σ.L.st.kind x=6)(hxy:y≠x):KK σ (σ.link x y).2:=by
 by_cases hn:x∈σ.L.st.all y
 ·unfold Sto.link;rw[if_pos hn];exact KK.mark σ y
 ·exact⟨by rw[Sto.zmT];exact YAV _,fun i _=>(Sto.zNP h hx hy ex ey h6 hxy hn).2.2.1 i⟩
theorem zlx{σ:Sto}(h:GoodS σ){lim:Int}{x y:Nat}(hx:x<σ.L.length)(hy:y<σ.L.length)(ex:σ.L.st.root x=x)(ey:σ.L.st.root y=y)(h6:σ.L.st.kind x=6)(hxy:y≠x):KK σ (σ.become lim x y).2.2:=by
 have g1:=Sto.zO2 h y
 have g2:=g1.trans (Sto.zO2 g1.good y)
 have hl:=h.lv x h6
 have k1:=KK.mark σ y
 have k2:=k1.trans (KK.mark (σ.mark y) y)
 unfold Sto.become
 split
 ·exact KK.link h hx hy ex ey h6 hxy
 split
 ·exact k1.trans (KK.link g1.good (by rw[Sto.zOz];exact hx) (by rw[Sto.zOz];exact hy) (by rw[Sto.zO0];exact ex) (by rw[Sto.zO0];exact ey) (by rw[Sto.zO0];exact h6) hxy)
 split
 ·exact k2
 have g3:=g2.trans (Sto.zaR g2.good hl)
 have g4:=g3.trans (Sto.zaR g3.good hl)
 have k3:=k2.trans (KK.var ((σ.mark y).mark y) (σ.L.st.nd x).level)
 have k4:=k3.trans (KK.var (((σ.mark y).mark y).var (σ.L.st.nd x).level) (σ.L.st.nd x).level)
 have e2:((σ.mark y).mark y).L.length=σ.L.length:=by rw[Sto.zOz,Sto.zOz]
 have l3:(((σ.mark y).mark y).var (σ.L.st.nd x).level).L.length=σ.L.length+1:=by rw[Sto.zaS,e2]
 have l4:((((σ.mark y).mark y).var (σ.L.st.nd x).level).var (σ.L.st.nd x).level).L.length=σ.L.length+2:=by rw[Sto.zaS,l3]
 have x2:Ext0 σ ((σ.mark y).mark y):=⟨by rw[Sto.zO1];exact YAV _,fun z _=>by rw[Sto.zO1];exact⟨rfl,rfl⟩⟩
 have x3:=x2.var (σ.L.st.nd x).level g2.good.si.wf g3.good.si.wf
 have x4:=x3.var (σ.L.st.nd x).level g3.good.si.wf g4.good.si.wf
 split
 ·rename_i k0 hks
  split
  ·exact k2
  split
  ·exact k3
  have hk:σ.L.st.kind y=8:=by
   rcases h.si.wf.zVs (y:=y) (by rw[Mem.zXR];exact hy)with hk|⟨_,_,hk⟩|⟨hk,_⟩|⟨_,a,b,hk⟩
   ·rw[hk.2]at hks;cases hks
   ·rw[hk]at hks;cases hks
   ·exact hk
   ·rw[hk]at hks;cases hks
  have g5:=g3.trans (Sto.zPb (k:=σ.L.st.kind y) (ks:=[σ.L.length]) g3.good (.inr ⟨hk,rfl⟩) (by intro a ha;simp at ha;omega))
  have k5:=k3.trans (KK.mk' (((σ.mark y).mark y).var (σ.L.st.nd x).level) (σ.L.st.kind y) [σ.L.length])
  have x5:=x3.mk' (σ.L.st.kind y) [σ.L.length] g3.good.si.wf g5.good.si.wf
  have q:=x5.kind (x:=x) (by rw[Mem.zXR];exact hx)
  refine k5.trans (KK.link g5.good (by rw[Sto.zPc,l3];omega) (by rw[Sto.zPc,l3];omega) (by rw[q.1];exact ex) ?_ (by rw[q.2];exact h6) (by omega))
  have:=x3.zPe (σ.L.st.kind y) [σ.L.length]
  rwa[l3]at this
 ·rename_i k0 k1' hks
  split
  ·exact k2
  split
  ·exact k3
  split
  ·exact k4
  have hk:σ.L.st.kind y=7\/σ.L.st.kind y=9:=by
   rcases h.si.wf.zVs (y:=y) (by rw[Mem.zXR];exact hy)with hk|⟨_,_,hk⟩|⟨_,a,hk⟩|⟨hk,_⟩
   ·rw[hk.2]at hks;cases hks
   ·rw[hk]at hks;cases hks
   ·rw[hk]at hks;cases hks
   ·exact hk
  have g5:=g4.trans (Sto.zPb (k:=σ.L.st.kind y) (ks:=[σ.L.length,σ.L.length+1]) g4.good (.inl ⟨hk,rfl⟩) (by intro a ha;simp at ha;omega))
  have k5:=k4.trans (KK.mk' ((((σ.mark y).mark y).var (σ.L.st.nd x).level).var (σ.L.st.nd x).level) (σ.L.st.kind y) [σ.L.length,σ.L.length+1])
  have x5:=x4.mk' (σ.L.st.kind y) [σ.L.length,σ.L.length+1] g4.good.si.wf g5.good.si.wf
  have q:=x5.kind (x:=x) (by rw[Mem.zXR];exact hx)
  refine k5.trans (KK.link g5.good (by rw[Sto.zPc,l4];omega) (by rw[Sto.zPc,l4];omega) (by rw[q.1];exact ex) ?_ (by rw[q.2];exact h6) (by omega))
  have:=x4.zPe (σ.L.st.kind y) [σ.L.length,σ.L.length+1]
  rwa[l4]at this
 ·exact KK.refl σ
theorem znO{lim:Int}{σ:Sto}(hg:GoodS σ){p:Nat×Nat}(hp:p.1<σ.L.length/\p.2<σ.L.length)(stk:List (Nat×Nat)):KK σ (match zXk lim p stk σ with| .go _ τ=>τ| .stop _ _ _ τ=>τ):=by
 have hx:σ.L.st.root p.1<σ.L.length:=by have:=hg.si.wf.root_lt p.1 (by rw[Mem.zXR];exact hp.1);rwa[Mem.zXR]at this
 have hy:σ.L.st.root p.2<σ.L.length:=by have:=hg.si.wf.root_lt p.2 (by rw[Mem.zXR];exact hp.2);rwa[Mem.zXR]at this
 have ex:=hg.si.wf.zUQ p.1
 have ey:=hg.si.wf.zUQ p.2
 unfold zXk
 by_cases h1:σ.L.st.root p.1=σ.L.st.root p.2
 ·simp only[h1,if_true];exact KK.refl σ
 by_cases h2:σ.L.st.root p.1=4
 ·simp only[if_neg h1,if_pos h2];exact KK.low hg hy (YAQ _)
 by_cases h3:σ.L.st.root p.2=4
 ·simp only[if_neg h1,if_neg h2,if_pos h3];exact KK.low hg hx (YAQ _)
 by_cases h4:σ.L.st.kind (σ.L.st.root p.1)=6
 ·simp only[if_neg h1,if_neg h2,if_neg h3,if_pos h4]
  have:=zlx hg (lim:=lim) hx hy ex ey h4 (fun e=>h1 e.symm)
  generalize σ.become lim (σ.L.st.root p.1) (σ.L.st.root p.2)=B at*
  obtain⟨m,e,τ⟩:=B
  simp only at this⊢
  split
  ·rename_i h;split at h
   ·cases h
   ·split at h<;>(cases h;exact this)
  ·rename_i h;split at h
   ·cases h;exact this
   ·split at h<;>cases h
 by_cases h5:σ.L.st.kind (σ.L.st.root p.2)=6
 ·simp only[if_neg h1,if_neg h2,if_neg h3,if_neg h4,if_pos h5]
  have:=zlx hg (lim:=lim) hy hx ey ex h5 h1
  generalize σ.become lim (σ.L.st.root p.2) (σ.L.st.root p.1)=B at*
  obtain⟨m,e,τ⟩:=B
  simp only at this⊢
  split
  ·rename_i h;split at h
   ·cases h
   ·split at h<;>(cases h;exact this)
  ·rename_i h;split at h
   ·cases h;exact this
   ·split at h<;>cases h
 ·simp only[if_neg h1,if_neg h2,if_neg h3,if_neg h4,if_neg h5]
  split
  ·rename_i h;split at h<;>first|(cases h;done)|(cases h;exact KK.refl _)
  ·rename_i h;split at h<;>first|(cases h;done)|(cases h;exact KK.refl _)
theorem znI{lim:Int}:∀(m:Nat) (stk:List (Nat×Nat)) (σ:Sto) (res:Int×Int×Int×Sto),GoodS σ->Lt2 σ.L.length stk->RunB lim m stk σ res->KK σ res.2.2.2:=by
 intro m
 induction m with
 |zero=>
  intro stk σ res hg hlt hr
  cases stk with
  | nil => have e:res=(0,0,0,σ):=hr
           subst e;exact KK.refl _
  |cons p stk=>exact hr.elim
 |succ m ih=>
  intro stk σ res hg hlt hr
  cases stk with
  | nil => have e:res=(0,0,0,σ):=hr
           subst e;exact KK.refl _
  |cons p stk=>
   obtain⟨_,hr⟩:=hr
   have hkeep:=zXm (lim:=lim) hg (hlt p YAU) fun q hq=>hlt q (YAT _ hq)
   have hk:=znO (lim:=lim) hg (hlt p YAU) stk
   generalize zXk lim p stk σ=st at hkeep hr hk
   cases st with
   |go stk' σ'=>exact hk.trans (ih stk' σ' res hkeep.1.good hkeep.2 hr)
   |stop l r e σ'=>
    have e:res=(l,r,e,σ'):=hr
    rw[e];exact hk
theorem zlr{lim:Int}{q:Pt}{n m:Nat}{x:IS}{res:Int×IS}(hg:GoodS x.σ)(hn:n<x.len)(hm:m<x.len)(h:AgR lim q n m x res):KK x.σ res.2.σ:=by
 obtain⟨M,l,r,e,σ',hr,rfl⟩:=h
 have h:=znI M [(n,m)] x.σ _ hg (fun z hz=>by simp only[List.mem_singleton]at hz;subst hz;exact⟨hn,hm⟩) hr
 simp only
 split
 ·exact h
 ·exact h
end
section
structure EndA (x y:IS) (e:Int) (W w:Nat):Prop where
 good:GoodS y.σ
 er:(e=7/\y.len<=700003/\y.σ.rd<=80000000004)\/(e=0\/e=4\/e=5)
 len0:x.len<=y.len
 ok:e≠7->StV y.σ.L.st/\Ext x.σ.L.st y.σ.L.st/\y.len<=x.len+3*W+3*w/\x.σ.cnt<=y.σ.cnt/\y.σ.cnt<=x.σ.cnt+3*W+3*w/\
  y.σ.L.st.free<=x.σ.L.st.free+5*W+2*w/\y.σ.rd<=x.σ.rd+40000*w/\y.nm.length<=x.nm.length+w/\y.nd.length<=x.nd.length+w
theorem zlq{lim:Int}{q:Pt}{n m:Nat}{x:IS}(hg:GoodS x.σ)(hs:StV x.σ.L.st)(hn:n<x.len)(hm:m<x.len)(sm:(x.σ.L.st.tT m).static=true)(hW:(x.σ.L.st.tT n).wD<=200)
 (hf:x.σ.L.st.free<=8000) (hl:x.len<=50000) (hc0:0<=x.σ.cnt) (hc:x.σ.cnt<=100000) (hrd:x.σ.rd<=10000000000):
 ∃e y,AgR lim q n m x (e,y)/\GoodS y.σ/\x.len<=y.len/\((e=7/\y.len<=700003/\y.σ.rd<=80000000004)\/((e=0\/e=4\/e=5)/\StV y.σ.L.st/\Ext x.σ.L.st y.σ.L.st/\y.len<=x.len+3*(x.σ.L.st.tT n).wD/\x.σ.cnt<=y.σ.cnt/\y.σ.cnt<=x.σ.cnt+3*(x.σ.L.st.tT n).wD/\
  y.σ.L.st.free<=x.σ.L.st.free+5*(x.σ.L.st.tT n).wD/\y.σ.rd<=x.σ.rd+40000/\y.nm=x.nm/\y.nd=x.nd)):=by
 have w2:=(zak _).2 sm
 obtain⟨M,⟨l,r,e,σ'⟩,hr,hE⟩:=zgZ (lim:=lim) hg hs hn hm (by omega) (by omega) hl hc0 hc hrd
 have hgl:=zU1 M [(n,m)] x.σ _ hg (fun z hz=>by simp only[List.mem_singleton]at hz;subst hz;exact⟨hn,hm⟩) hr
 simp only at hgl
 rcases hE with hE|hE
 ·rw[w2]at hE
  obtain⟨E1,E2,E3,E4,E5,E6,E7,E8,E9,_,_⟩:=hE
  simp only at E1 E2 E3 E4 E5 E6 E7 E8 E9
  have he:e=0\/e=4\/e=5:=by
   rcases E4 with h|h|h
   ·exact .inl h
   ·exact .inr (.inl h.1)
   ·exact .inr (.inr h)
  refine⟨e,_,⟨M,l,r,e,σ',hr,rfl⟩,?_⟩
  have h3:σ'.L.length<=x.len+3*(x.σ.L.st.tT n).wD:=by have:x.len=x.σ.L.length:=rfl;omega
  split
  ·exact⟨hgl.1,hgl.2,.inr ⟨he,E2,E3,h3,E7,by simp only;omega,by simp only;omega,by simp only;omega,rfl,rfl⟩⟩
  ·exact⟨hgl.1,hgl.2,.inr ⟨he,E2,E3,h3,E7,by simp only;omega,by simp only;omega,by simp only;omega,rfl,rfl⟩⟩
 ·have e7:e=7:=hE.e
  refine⟨e,_,⟨M,l,r,e,σ',hr,rfl⟩,?_⟩
  rw[if_pos (.inr e7)]
  exact⟨hgl.1,hgl.2,.inl ⟨e7,hE.len,hE.rd⟩⟩
theorem zmt{lim lv:Int}(hl:¬lv<0):∀q:Pt,okA q=true->∀(n:Nat) (x:IS),GoodS x.σ->StV x.σ.L.st->n<x.len->(x.σ.L.st.tT n).wD<=200->
 x.len+3*(x.σ.L.st.tT n).wD+3*zV6 q<=40000->x.σ.L.st.free+5*(x.σ.L.st.tT n).wD+2*zV6 q<=8000->0<=x.σ.cnt->x.σ.cnt+3*(x.σ.L.st.tT n).wD+3*(zV6 q:Int)<=100000->x.σ.rd+40000*(zV6 q:Int)<=10000000000->x.nm.length+zV6 q<=600000->x.nd.length+zV6 q<=600000->
 ∃e y,PatR lim lv q n x (e,y)/\EndA x y e (x.σ.L.st.tT n).wD (zV6 q):=
 Pt.ind (p:=fun q=>okA q=true->∀(n:Nat) (x:IS),GoodS x.σ->StV x.σ.L.st->n<x.len->(x.σ.L.st.tT n).wD<=200->
  x.len+3*(x.σ.L.st.tT n).wD+3*zV6 q<=40000->x.σ.L.st.free+5*(x.σ.L.st.tT n).wD+2*zV6 q<=8000->0<=x.σ.cnt->x.σ.cnt+3*(x.σ.L.st.tT n).wD+3*(zV6 q:Int)<=100000->x.σ.rd+40000*(zV6 q:Int)<=10000000000->x.nm.length+zV6 q<=600000->x.nd.length+zV6 q<=600000->
  ∃e y,PatR lim lv q n x (e,y)/\EndA x y e (x.σ.L.st.tT n).wD (zV6 q)) fun q ih hok n x hg hs hn hW b1 b2 b3 b4 b5 b6 b7=>by
 obtain⟨hk,ho⟩:=zRH hok
 have hkd:=zRN hk
 have hz:=zWA q
 have hoI:okI x:=⟨by have:x.len=x.σ.L.length:=rfl;omega,b3,by omega,by omega,by omega⟩
 have hll:x.len=x.σ.L.length:=rfl
 by_cases k1:q.kind=1
 ·refine⟨0,x,?_,hg,.inr (.inl rfl),YAV _,fun _=>⟨hs,Ext.refl hg.si.wf,by omega,YAQ _,by omega,by omega,by omega,by omega,by omega⟩⟩
  rw[zSA (zRP hk)];exact⟨hoI,by rw[if_pos k1]⟩
 by_cases k2:q.kind=2
 ·refine⟨0,{x with nm:=x.nm++ [q.name],nd:=x.nd++ [n]},?_,hg,.inr (.inl rfl),YAV _,fun _=>⟨hs,Ext.refl hg.si.wf,by show x.len<=_;omega,YAQ _,by simp only;omega,by simp only;omega,by simp only;omega,by simp;omega,by simp;omega⟩⟩
  rw[zSA (zRP hk)];exact⟨hoI,by rw[if_neg k1,if_pos k2]⟩
 by_cases k3:3<=q.kind/\q.kind<=6
 ·have h5:=hg.five
  have hlt:(q.kind-3).toNat<4:=by omega
  have sb:(x.σ.L.st.tT (q.kind-3).toNat).static=true:=by rw[zYH hg.si.wf hlt];rfl
  obtain⟨e,y,a,c1,c0,c⟩:=zlq (lim:=lim) (q:=q) hg hs hn (m:=(q.kind-3).toNat) (by omega) sb hW (by omega) (by omega) b3 (by omega) (by omega)
  refine⟨e,y,?_,c1,?_,c0,fun h7=> ?_⟩
  ·rw[zSA (zRP hk)]
   refine⟨hoI,?_⟩
   rw[if_neg k1,if_neg k2,if_neg (by omega),if_neg (by omega),zM5 k3,show q.kind-2-1=q.kind-3 by omega];exact a
  ·rcases c with c|c
   ·exact .inl c
   ·exact .inr c.1
  ·rcases c with c|⟨_,c2,c3,c4,c5,c6,c7,c8,c9,c10⟩
   ·exact absurd c.1 h7
   ·exact⟨c2,c3,by omega,c5,by omega,by omega,by omega,by rw[c9];omega,by rw[c10];omega⟩
 have k7:q.kind=7\/q.kind=8\/q.kind=9:=by omega
 by_cases hfull:if q.kind=7 then(zOD lim lv x).1≠0 else(zN8 lim lv x).1≠0
 ·have hdone:∀r:Int×IS,(r=zOD lim lv x/\q.kind=7\/r=zN8 lim lv x/\q.kind≠7)->r.1≠0->∃e y,PatR lim lv q n x (e,y)/\EndA x y e (x.σ.L.st.tT n).wD (zV6 q):=by
   intro r hr h0
   have hr7:r.1=7/\GoodS r.2.σ/\x.len<=r.2.len/\r.2.len<=x.len+2/\r.2.σ.rd=x.σ.rd:=by
    rcases hr with ⟨rfl,_⟩|⟨rfl,_⟩
    ·have hm:=zOE (lim:=lim) (lv:=lv) hg hl
     refine⟨?_,hm.1,hm.2.1,?_⟩
     ·unfold zOD at h0⊢
      split
      ·rfl
      split
      ·rfl
      split
      ·rfl
      ·rename_i a b c;rw[if_neg a,if_neg b,if_neg c]at h0;exact absurd rfl h0
     ·unfold zOD at h0⊢
      split
      ·exact⟨Nat.le_add_right _ _,rfl⟩
      split
      ·exact⟨by rw[IS.zaS];omega,rfl⟩
      split
      ·exact⟨by rw[IS.zaS,IS.zaS];omega,rfl⟩
      ·rename_i a b c;rw[if_neg a,if_neg b,if_neg c]at h0;exact absurd rfl h0
    ·have hm:=zN9 (lim:=lim) (lv:=lv) hg hl
     refine⟨?_,hm.1,hm.2.1,?_⟩
     ·unfold zN8 at h0⊢
      split
      ·rfl
      split
      ·rfl
      ·rename_i a b;rw[if_neg a,if_neg b]at h0;exact absurd rfl h0
     ·unfold zN8 at h0⊢
      split
      ·exact⟨Nat.le_add_right _ _,rfl⟩
      split
      ·exact⟨by rw[IS.zaS];omega,rfl⟩
      ·rename_i a b;rw[if_neg a,if_neg b]at h0;exact absurd rfl h0
   obtain⟨h7,g1,g2,g3,g4⟩:=hr7
   refine⟨r.1,r.2,?_,g1,.inl ⟨h7,by omega,by omega⟩,g2,fun h=>absurd h7 h⟩
   rw[zSA (zRP hk)]
   refine⟨hoI,?_⟩
   rw[if_neg k1,if_neg k2]
   rcases hr with ⟨rfl,h⟩|⟨rfl,h⟩
   ·rw[if_pos h,if_pos h0]
   ·rw[if_neg h,if_pos (by omega),if_pos h0]
  by_cases h7:q.kind=7
  ·rw[if_pos h7]at hfull;exact hdone _ (.inl ⟨rfl,h7⟩) hfull
  ·rw[if_neg h7]at hfull;exact hdone _ (.inr ⟨rfl,h7⟩) hfull
 obtain⟨j,k,y,hj,hN,hM⟩:∃j k y,zA2 q j k/\NewS x y j k/\∀e x2,AgR lim q n (x.len+j) y (e,x2)->if q.kind=7 then(zOD lim lv x).1=0/\AgR lim q n (x.len+2) (zOD lim lv x).2 (e,x2)else(zN8 lim lv x).1=0/\AgR lim q n (x.len+1) (zN8 lim lv x).2 (e,x2):=by
  by_cases h7:q.kind=7
  ·have e0:(zOD lim lv x).1=0:=by rw[if_pos h7]at hfull;exact Decidable.not_not.1 hfull
   exact⟨2,_,_,.inl ⟨h7,rfl,rfl⟩,new2 hg hl e0,fun e x2 a=>by rw[if_pos h7];exact⟨e0,a⟩⟩
  ·have e0:(zN8 lim lv x).1=0:=by rw[if_neg h7]at hfull;exact Decidable.not_not.1 hfull
   exact⟨1,_,_,.inr ⟨by omega,rfl,rfl⟩,new1 hg hl e0,fun e x2 a=>by rw[if_neg h7];exact⟨e0,a⟩⟩
 have hj2:1<=j/\j<=2:=by rcases hj with ⟨_,h,_⟩|⟨_,h,_⟩<;>omega
 have hlenN:=hN.len
 have hsy:=hN.stv hs
 have hwy:=hN.good.si.wf
 have eW:(y.σ.L.st.tT n).wD=(x.σ.L.st.tT n).wD:=by rw[hN.old n hn]
 have s0:(y.σ.L.st.tT x.len).static=true:=by rw[hN.new _ (YAV _) (by omega)];rfl
 have sl:(y.σ.L.st.tT (x.len+j-1)).static=true:=by rw[hN.new _ (by omega) (by omega)];rfl
 have sm:(y.σ.L.st.tT (x.len+j)).static=true:=by
  rw[hN.node _ (Ext.refl hwy)]
  rcases hj with ⟨_,_,rfl⟩|⟨_,_,rfl⟩
  ·simp only[T.static,s0,sl,Bool.and_self]
  ·simp only[T.static,s0]
 have hfr:=hN.free
 have hcn:=hN.cnt
 have hrd:=hN.rd
 obtain⟨e,x2,a,c1,c0,c⟩:=zlq (lim:=lim) (q:=q) hN.good hsy (n:=n) (m:=x.len+j) (by omega) (by omega) sm (by rw[eW];exact hW) (by omega) (by omega) (by omega) (by omega) (by omega)
 rw[eW]at c
 by_cases he:e≠0\/q.kind=8
 ·refine⟨e,x2,zSC hok hoI k7 (hM e x2 a) (by unfold zA1;rw[if_pos he]),c1,?_,by omega,fun h7=> ?_⟩
  ·rcases c with c|c
   ·exact .inl c
   ·exact .inr c.1
  ·rcases c with c|⟨_,c2,c3,c4,c5,c6,c7,c8,c9,c10⟩
   ·exact absurd c.1 h7
   ·have nm2:x2.nm=x.nm:=by rw[c9,hN.nm]
    have nd2:x2.nd=x.nd:=by rw[c10,hN.nd]
    exact⟨c2,hN.ext.trans c3,by omega,by omega,by omega,by omega,by omega,by rw[nm2];omega,by rw[nd2];omega⟩
 ·have e0:e=0:=by omega
  subst e0
  rcases c with c|⟨_,c2,c3,c4,c5,c6,c7,c8,c9,c10⟩
  ·exact absurd c.1 (by decide)
  have nm2:x2.nm=x.nm:=by rw[c9,hN.nm]
  have nd2:x2.nd=x.nd:=by rw[c10,hN.nd]
  have x02:Ext x.σ.L.st x2.σ.L.st:=hN.ext.trans c3
  have h2:q.kids.length=2:=zRP hk (by omega)
  have hz2:=zWB h2
  have m0:=zSk (p:=q) (i:=0) (by omega)
  have m1:=zSk (p:=q) (i:=1) (by omega)
  have hz0:=zWA (q.kid 0)
  have hz1:=zWA (q.kid 1)
  have ly:∀i,i<y.len->i<y.σ.L.st.length:=fun i hi=>by rw[Mem.zXR];exact hi
  have t0:(x2.σ.L.st.tT x.len).wD=0:=(zak _).2 (c3.stat hwy c2 (ly _ (by omega)) s0)
  have t1s:(x2.σ.L.st.tT (x.len+1)).static=true:=c3.stat hwy c2 (ly _ (by omega)) (by
   rcases hj with ⟨_,rfl,_⟩|⟨_,rfl,_⟩
   ·exact sl
   ·exact sm)
  obtain⟨e3,x3,a3,E3⟩:=ih _ m0 (ho _ m0) x.len x2 c1 c2 (by omega) (by omega) (by omega) (by omega) (by omega) (by omega) (by omega) (by rw[nm2];omega) (by rw[nd2];omega)
  rw[t0]at E3
  by_cases he3:e3≠0
  ·refine⟨e3,x3,zSC hok hoI k7 (hM 0 x2 a) (by unfold zA1;rw[if_neg (by omega)];exact⟨e3,x3,a3,by rw[if_pos he3]⟩),E3.good,E3.er,by have:=E3.len0;omega,fun h7=> ?_⟩
   obtain⟨d2,d3,d4,d5,d6,d7,d8,d9,d10⟩:=E3.ok h7
   exact⟨d2,x02.trans d3,by omega,by omega,by omega,by omega,by omega,by rw[nm2]at d9;omega,by rw[nd2]at d10;omega⟩
  ·have e30:e3=0:=by omega
   subst e30
   obtain⟨d2,d3,d4,d5,d6,d7,d8,d9,d10⟩:=E3.ok (by decide)
   have t1:(x3.σ.L.st.tT (x.len+1)).wD=0:=(zak _).2 (d3.stat c1.si.wf d2 (by rw[Mem.zXR];show _<x2.len;omega) t1s)
   obtain⟨e4,x4,a4,E4⟩:=ih _ m1 (ho _ m1) (x.len+1) x3 E3.good d2 (by have:=E3.len0;omega) (by omega) (by omega) (by omega) (by omega) (by omega) (by omega) (by rw[nm2]at d9;omega) (by rw[nd2]at d10;omega)
   rw[t1]at E4
   refine⟨e4,x4,zSC hok hoI k7 (hM 0 x2 a) (by unfold zA1;rw[if_neg (by omega)];exact⟨0,x3,a3,by rw[if_neg (by omega)];exact a4⟩),E4.good,E4.er,by have:=E3.len0;have:=E4.len0;omega,fun h7=> ?_⟩
   obtain⟨f2,f3,f4,f5,f6,f7,f8,f9,f10⟩:=E4.ok h7
   exact⟨f2,(x02.trans d3).trans f3,by omega,by omega,by omega,by omega,by omega,by rw[nm2]at d9;omega,by rw[nd2]at d10;omega⟩
end
section
def bxJ(s:Nat)(x:IS)(e:Int):AObj:= .box [.bptr s 0,.int .i64 x.bf,.int .i64 x.bt,.int .i64 x.bw,.int .i64 x.bl,.int .i64 x.br,.str ByteArray.empty,.int .i64 e]
def hJ(F:List AObj)(s r c a b p:Nat)(lim:Int)(y:AObj)(x:IS)(e:Int):List AObj:=
 sxd F s r c a b p (bxR r x.σ.v x.σ.L.st.length lim x.σ.cnt) (arR x.σ.v x.σ.L.st) y (arT x.nm) (arI x.nd) (bxJ s x e)
def hBJ(F:List AObj)(s c a b p:Nat)(y:AObj)(x:IS)(e:Int):List AObj:=(((F.set c y).set a (arT x.nm)).set b (arI x.nd)).set p (bxJ s x e)
theorem zmF(F:List AObj)(s c a b p:Nat)(y:AObj)(x:IS)(e:Int):(hBJ F s c a b p y x e).length=F.length:=by simp[hBJ]
section
variable {F : List AObj} {s r c a b p : Nat} {lim lv : Int} {y : AObj}
theorem znB{m v n v' n' w w':Nat}{S S':St}{lim' cnt cnt' z1 z2 z3 z4 z5 z6 u1 u2 u3 u4 u5 u6:Int}{j1 j2 j3 j4:Nat}{tx tx':ByteArray}(h:SxdD F s r c a b p)
 (hb:∀z∈(sxd F s r c a b p (bxR r v n lim cnt) (arR w S) y (.tok j1 1) (.tok j2 1) (.box [.bptr s 0,.int .i64 z1,.int .i64 z2,.int .i64 z3,.int .i64 z4,.int .i64 z5,.str tx,.int .i64 z6])).take m,z.bel m=true):
 ∀z∈(sxd F s r c a b p (bxR r v' n' lim' cnt') (arR w' S') y (.tok j3 1) (.tok j4 1) (.box [.bptr s 0,.int .i64 u1,.int .i64 u2,.int .i64 u3,.int .i64 u4,.int .i64 u5,.str tx',.int .i64 u6])).take m,z.bel m=true:=
 zXz h (fun h=>zeB h) (zd4 _ _ _) rfl rfl (fun h=>by
  simp only[yR,yO,yN,Bool.true_and,YAA,YAa]at h⊢
  exact h) hb
theorem varJ(hD:SxdD F s r c a b p)(x:IS)(e:Int)(hl:¬lv<0)(hc:x.σ.cnt<lim)(h1:x.σ.L.length<=1000000)(h2:0<=x.σ.cnt/\x.σ.cnt<=1000000):zAd Tryz.prog 53 [.bptr s 0,.int .i64 lv] (hJ F s r c a b p lim y x e) (.tup [.int .i64 x.len,.int .i64 0]) (hJ F s r c a b p lim y (x.var lv) e):=by
 have:=zgb (F:=hBJ F s c a b p y x e) (s:=s) (r:=r) (v:=x.σ.v) (S:=x.σ.L.st) (lim:=lim) (cnt:=x.σ.cnt) (by rw[zmF];exact hD.hs) (by rw[zmF];exact hD.hr) (fun e=>hD.d1.1 e.symm) lv hl (by omega) (by rw[Mem.zXR];exact h1) h2
 rw[<-x.σ.zaT lv,Mem.zXR]at this
 exact this
theorem znj(hD:SxdD F s r c a b p)(x:IS)(e:Int)(hl:¬lv<0)(hc:x.σ.cnt=lim):zAd Tryz.prog 53 [.bptr s 0,.int .i64 lv] (hJ F s r c a b p lim y x e) (.tup [.int .i64 0,.int .i64 7]) (hJ F s r c a b p lim y x e):=
 rvar_full (F:=hBJ F s c a b p y x e) (s:=s) (r:=r) (v:=x.σ.v) (S:=x.σ.L.st) (lim:=lim) (cnt:=x.σ.cnt) (by rw[zmF];exact hD.hs) (by rw[zmF];exact hD.hr) (fun e=>hD.d1.1 e.symm) lv hl (by omega)
theorem mkJ2(hD:SxdD F s r c a b p)(x:IS)(e:Int)(i j:Nat)(hi:i<x.len)(hj:j<x.len)(hc:x.σ.cnt<lim)(h1:x.σ.L.length<=1000000)(h2:0<=x.σ.cnt/\x.σ.cnt<=1000000):zAd Tryz.prog 54 [.bptr s 0,.int .i64 7,.int .i64 i,.int .i64 j] (hJ F s r c a b p lim y x e) (.tup [.int .i64 x.len,.int .i64 0]) (hJ F s r c a b p lim y (x.mk' 7 [i,j]) e):=by
 have:=zf5 (F:=hBJ F s c a b p y x e) (s:=s) (r:=r) (v:=x.σ.v) (S:=x.σ.L.st) (lim:=lim) (cnt:=x.σ.cnt) (by rw[zmF];exact hD.hs) (by rw[zmF];exact hD.hr) (fun e=>hD.d1.1 e.symm) 7 i j (.inl rfl) (by rw[Mem.zXR];exact hi) (by rw[Mem.zXR];exact hj) (by omega) (by rw[Mem.zXR];exact h1) h2
 rw[<-x.σ.zPf 7 [i,j],Mem.zXR]at this
 exact this
theorem mkJ1(hD:SxdD F s r c a b p)(x:IS)(e:Int)(i:Nat)(m:Int)(hi:i<x.len)(hc:x.σ.cnt<lim)(h1:x.σ.L.length<=1000000)(h2:0<=x.σ.cnt/\x.σ.cnt<=1000000):zAd Tryz.prog 54 [.bptr s 0,.int .i64 8,.int .i64 i,.int .i64 m] (hJ F s r c a b p lim y x e) (.tup [.int .i64 x.len,.int .i64 0]) (hJ F s r c a b p lim y (x.mk' 8 [i]) e):=by
 have:=zf3 (F:=hBJ F s c a b p y x e) (s:=s) (r:=r) (v:=x.σ.v) (S:=x.σ.L.st) (lim:=lim) (cnt:=x.σ.cnt) (by rw[zmF];exact hD.hs) (by rw[zmF];exact hD.hr) (fun e=>hD.d1.1 e.symm) i m (by rw[Mem.zXR];exact hi) (by omega) (by rw[Mem.zXR];exact h1) h2
 rw[<-x.σ.zPf 8 [i],Mem.zXR]at this
 exact this
theorem zme(hD:SxdD F s r c a b p)(x:IS)(e:Int)(i j:Nat)(hi:i<x.len)(hj:j<x.len)(hc:x.σ.cnt=lim):zAd Tryz.prog 54 [.bptr s 0,.int .i64 7,.int .i64 i,.int .i64 j] (hJ F s r c a b p lim y x e) (.tup [.int .i64 0,.int .i64 7]) (hJ F s r c a b p lim y x e):=
 rmake_full (F:=hBJ F s c a b p y x e) (s:=s) (r:=r) (v:=x.σ.v) (S:=x.σ.L.st) (lim:=lim) (cnt:=x.σ.cnt) (by rw[zmF];exact hD.hs) (by rw[zmF];exact hD.hr) (fun e=>hD.d1.1 e.symm) 7 i j (.inl rfl) (by rw[Mem.zXR];exact hi) (by rw[Mem.zXR];exact hj) (by omega)
theorem zmd(hD:SxdD F s r c a b p)(x:IS)(e:Int)(i:Nat)(m:Int)(hi:i<x.len)(hc:x.σ.cnt=lim):zAd Tryz.prog 54 [.bptr s 0,.int .i64 8,.int .i64 i,.int .i64 m] (hJ F s r c a b p lim y x e) (.tup [.int .i64 0,.int .i64 7]) (hJ F s r c a b p lim y x e):=
 rmake_listfull (F:=hBJ F s c a b p y x e) (s:=s) (r:=r) (v:=x.σ.v) (S:=x.σ.L.st) (lim:=lim) (cnt:=x.σ.cnt) (by rw[zmF];exact hD.hs) (by rw[zmF];exact hD.hr) (fun e=>hD.d1.1 e.symm) i m (by rw[Mem.zXR];exact hi) (by omega)
theorem znN(hD:SxdD F s r c a b p){x:IS}(e0:Int)(hg:GoodS x.σ)(hlim:x.σ.cnt<=lim){n m M:Nat}(hn:n<x.σ.L.length)(hm:m<x.σ.L.length){l q e:Int}{σ':Sto}(h:RunB lim M [(n,m)] x.σ (l,q,e,σ')):
 zAd Tryz.prog 87 [.bptr s 0,.int .i64 n,.int .i64 m] (hJ F s r c a b p lim y x e0) (.tup [.int .i64 l,.int .i64 q,.int .i64 e]) (hJ F s r c a b p lim y {x with σ:=σ'} e0)/\σ'.cnt<=lim:=
 wagree_ok (F:=hBJ F s c a b p y x e0) (by rw[zmF];exact hD.hs) (by rw[zmF];exact hD.hr) (fun e=>hD.d1.1 e.symm) hg hlim hn hm h
def CJn:Cfg:= {C with zwr:=fun f=>f==53||f==54||f==87||f==70||f==71||f==72||f==69||f==36}
theorem zlc:zAb Tryz.prog CJn:=C_ok
theorem zle(t:Nat):CJn.ty t=C.ty t:=rfl
theorem zl9(hD:SxdD F s r c a b p)(x:IS)(hl:¬lv<0)(hc:x.σ.cnt<lim)(h1:x.σ.L.length<=1000000)(h2:0<=x.σ.cnt/\x.σ.cnt<=1000000):
 zAd Tryz.prog 70 [.bptr p 0,.int .i64 lv] (hJ F s r c a b p lim y x 0) (.int .i64 x.len) (hJ F s r c a b p lim y (x.var lv) 0):=by
 have d:=fun(F:List AObj) (hD:SxdD F s r c a b p)=>varJ (lim:=lim) (y:=y) hD x 0 hl hc h1 h2
 unfold hJ bxJ arT arI at*
 unfold zAd
 refine eD zlc Tryz.func70 Tryz.results70 fun ok=> ?_
 repeat' (first
  |((first|apply bG|apply bH);simp only[yP,yQ,];refine zIA (d _ (by first|exact hD|exact hD.app _)) (.inl rfl) (fun hb=>znB (by first|exact hD|exact hD.app _) hb) ?_)
  |skip)<;>simp only[↓zaL,WY,yA,yB,reduceCtorEq,W1,WS,zle,sxdP hD,zTh,yN,YAO,]
 all_goals first|rfl|exact⟨rfl,rfl⟩|trace_state
theorem zmA(hD:SxdD F s r c a b p)(x:IS)(hl:¬lv<0)(hc:x.σ.cnt=lim):
 zAd Tryz.prog 70 [.bptr p 0,.int .i64 lv] (hJ F s r c a b p lim y x 0) (.int .i64 0) (hJ F s r c a b p lim y x 7):=by
 have d:=fun(F:List AObj) (hD:SxdD F s r c a b p)=>znj (lim:=lim) (y:=y) hD x 0 hl hc
 unfold hJ bxJ arT arI at*
 unfold zAd
 refine eD zlc Tryz.func70 Tryz.results70 fun ok=> ?_
 repeat' (first
  |((first|apply bG|apply bH);simp only[yP,yQ,];refine zIA (d _ (by first|exact hD|exact hD.app _)) (.inl rfl) (fun hb=>znB (by first|exact hD|exact hD.app _) hb) ?_)
  |skip)<;>simp only[↓zaL,WY,yA,yB,reduceCtorEq,W1,WS,zle,sxdP hD,zTh,yN,YAO,]
 all_goals first|rfl|exact⟨rfl,rfl⟩|trace_state
theorem zmB(hD:SxdD F s r c a b p)(x:IS){e:Int}(he:(e !=0)=true):
 zAd Tryz.prog 70 [.bptr p 0,.int .i64 lv] (hJ F s r c a b p lim y x e) (.int .i64 0) (hJ F s r c a b p lim y x e):=by
 unfold hJ bxJ arT arI at*
 unfold zAd
 refine eD zlc Tryz.func70 Tryz.results70 fun ok=> ?_
 repeat' simp only[↓zaL,WY,yA,yB,reduceCtorEq,W1,WS,zle,sxdP hD,zTh,yN,he]
 all_goals first|rfl|exact⟨rfl,rfl⟩|trace_state
theorem zma(hD:SxdD F s r c a b p)(x:IS)(i j:Nat)(hi:i<x.len)(hj:j<x.len)(hc:x.σ.cnt<lim)(h1:x.σ.L.length<=1000000)(h2:0<=x.σ.cnt/\x.σ.cnt<=1000000):
 zAd Tryz.prog 71 [.bptr p 0,.int .i64 7,.int .i64 i,.int .i64 j] (hJ F s r c a b p lim y x 0) (.int .i64 x.len) (hJ F s r c a b p lim y (x.mk' 7 [i,j]) 0):=by
 have d:=fun(F:List AObj) (hD:SxdD F s r c a b p)=>mkJ2 (lim:=lim) (y:=y) hD x 0 i j hi hj hc h1 h2
 unfold hJ bxJ arT arI at*
 unfold zAd
 refine eD zlc Tryz.func71 Tryz.results71 fun ok=> ?_
 repeat' (first
  |((first|apply bG|apply bH);simp only[yP,yQ,];refine zIA (d _ (by first|exact hD|exact hD.app _)) (.inl rfl) (fun hb=>znB (by first|exact hD|exact hD.app _) hb) ?_)
  |skip)<;>simp only[↓zaL,WY,yA,yB,reduceCtorEq,W1,WS,zle,sxdP hD,zTh,yN,YAO,]
 all_goals first|rfl|exact⟨rfl,rfl⟩|trace_state
theorem zmY(hD:SxdD F s r c a b p)(x:IS)(i:Nat)(m:Int)(hi:i<x.len)(hc:x.σ.cnt<lim)(h1:x.σ.L.length<=1000000)(h2:0<=x.σ.cnt/\x.σ.cnt<=1000000):
 zAd Tryz.prog 71 [.bptr p 0,.int .i64 8,.int .i64 i,.int .i64 m] (hJ F s r c a b p lim y x 0) (.int .i64 x.len) (hJ F s r c a b p lim y (x.mk' 8 [i]) 0):=by
 have d:=fun(F:List AObj) (hD:SxdD F s r c a b p)=>mkJ1 (lim:=lim) (y:=y) hD x 0 i m hi hc h1 h2
 unfold hJ bxJ arT arI at*
 unfold zAd
 refine eD zlc Tryz.func71 Tryz.results71 fun ok=> ?_
 repeat' (first
  |((first|apply bG|apply bH);simp only[yP,yQ,];refine zIA (d _ (by first|exact hD|exact hD.app _)) (.inl rfl) (fun hb=>znB (by first|exact hD|exact hD.app _) hb) ?_)
  |skip)<;>simp only[↓zaL,WY,yA,yB,reduceCtorEq,W1,WS,zle,sxdP hD,zTh,yN,YAO,]
 all_goals first|rfl|exact⟨rfl,rfl⟩|trace_state
theorem zmb(hD:SxdD F s r c a b p)(x:IS)(i j:Nat)(hi:i<x.len)(hj:j<x.len)(hc:x.σ.cnt=lim):
 zAd Tryz.prog 71 [.bptr p 0,.int .i64 7,.int .i64 i,.int .i64 j] (hJ F s r c a b p lim y x 0) (.int .i64 0) (hJ F s r c a b p lim y x 7):=by
 have d:=fun(F:List AObj) (hD:SxdD F s r c a b p)=>zme (lim:=lim) (y:=y) hD x 0 i j hi hj hc
 unfold hJ bxJ arT arI at*
 unfold zAd
 refine eD zlc Tryz.func71 Tryz.results71 fun ok=> ?_
 repeat' (first
  |((first|apply bG|apply bH);simp only[yP,yQ,];refine zIA (d _ (by first|exact hD|exact hD.app _)) (.inl rfl) (fun hb=>znB (by first|exact hD|exact hD.app _) hb) ?_)
  |skip)<;>simp only[↓zaL,WY,yA,yB,reduceCtorEq,W1,WS,zle,sxdP hD,zTh,yN,YAO,]
 all_goals first|rfl|exact⟨rfl,rfl⟩|trace_state
theorem zmZ(hD:SxdD F s r c a b p)(x:IS)(i:Nat)(m:Int)(hi:i<x.len)(hc:x.σ.cnt=lim):
 zAd Tryz.prog 71 [.bptr p 0,.int .i64 8,.int .i64 i,.int .i64 m] (hJ F s r c a b p lim y x 0) (.int .i64 0) (hJ F s r c a b p lim y x 7):=by
 have d:=fun(F:List AObj) (hD:SxdD F s r c a b p)=>zmd (lim:=lim) (y:=y) hD x 0 i m hi hc
 unfold hJ bxJ arT arI at*
 unfold zAd
 refine eD zlc Tryz.func71 Tryz.results71 fun ok=> ?_
 repeat' (first
  |((first|apply bG|apply bH);simp only[yP,yQ,];refine zIA (d _ (by first|exact hD|exact hD.app _)) (.inl rfl) (fun hb=>znB (by first|exact hD|exact hD.app _) hb) ?_)
  |skip)<;>simp only[↓zaL,WY,yA,yB,reduceCtorEq,W1,WS,zle,sxdP hD,zTh,yN,YAO,]
 all_goals first|rfl|exact⟨rfl,rfl⟩|trace_state
theorem zmc(hD:SxdD F s r c a b p)(x:IS){e:Int}(he:(e !=0)=true)(k i j:Int):
 zAd Tryz.prog 71 [.bptr p 0,.int .i64 k,.int .i64 i,.int .i64 j] (hJ F s r c a b p lim y x e) (.int .i64 0) (hJ F s r c a b p lim y x e):=by
 unfold hJ bxJ arT arI at*
 unfold zAd
 refine eD zlc Tryz.func71 Tryz.results71 fun ok=> ?_
 repeat' simp only[↓zaL,WY,yA,yB,reduceCtorEq,W1,WS,zle,sxdP hD,zTh,yN,he]
 all_goals first|rfl|exact⟨rfl,rfl⟩|trace_state
theorem zlu(hD:SxdD F s r c a b p)(x:IS){e:Int}(he:(e !=0)=true)(i j f t:Int):
 zAd Tryz.prog 69 [.bptr p 0,.int .i64 i,.int .i64 j,.agg [.int .i64 f,.int .i64 t]] (hJ F s r c a b p lim y x e) (.tup []) (hJ F s r c a b p lim y x e):=by
 unfold hJ bxJ arT arI at*
 unfold zAd
 refine eD zlc Tryz.func69 Tryz.results69 fun ok=> ?_
 repeat' simp only[↓zaL,WY,yA,yB,reduceCtorEq,W1,WS,zle,sxdP hD,zTh,he]
 all_goals first|rfl|exact⟨rfl,rfl⟩|trace_state
theorem zlt(hD:SxdD F s r c a b p){q:Pt}{n m:Nat}{x:IS}{res:Int×IS}(hg:GoodS x.σ)(hlim:x.σ.cnt<=lim)(hn:n<x.σ.L.length)(hm:m<x.σ.L.length)(h:AgR lim q n m x res):
 zAd Tryz.prog 69 [.bptr p 0,.int .i64 n,.int .i64 m,.agg [.int .i64 q.fr,.int .i64 q.to_]] (hJ F s r c a b p lim y x 0) (.tup []) (hJ F s r c a b p lim y res.2 res.1)/\res.2.σ.cnt<=lim:=by
 obtain⟨M,l,ri,e,σ',hrun,rfl⟩:=h
 have d:=fun(e0:Int) (F:List AObj) (hD:SxdD F s r c a b p)=>(znN (y:=y) hD e0 hg hlim hn hm hrun).1
 have hc:=(znN (y:=y) hD 0 hg hlim hn hm hrun).2
 refine⟨?_,by simp only;split<;>exact hc⟩
 by_cases he:e=0\/e=7
 ·simp only[if_pos he]
  rcases he with rfl|rfl
  ·unfold hJ bxJ arT arI at*
   unfold zAd
   refine eD zlc Tryz.func69 Tryz.results69 fun ok=> ?_
   repeat' (first
    |((first|apply bG|apply bH);simp only[yP,yQ,];refine zIA (d _ _ (by first|exact hD|exact hD.app _)) (.inl rfl) (fun hb=>znB (by first|exact hD|exact hD.app _) hb) ?_)
    |skip)<;>simp only[↓zaL,WY,yA,yB,yC,reduceCtorEq,W1,WS,zle,sxdP hD,zTg,yN,YAO,]
   all_goals first|rfl|exact⟨rfl,rfl⟩|trace_state
  ·have e1:((7:Int) !=0)=true:=rfl
   unfold hJ bxJ arT arI at*
   unfold zAd
   refine eD zlc Tryz.func69 Tryz.results69 fun ok=> ?_
   repeat' (first
    |((first|apply bG|apply bH);simp only[yP,yQ];refine zIA (d _ _ (by first|exact hD|exact hD.app _)) (.inl rfl) (fun hb=>znB (by first|exact hD|exact hD.app _) hb) ?_)
    |skip)<;>simp only[↓zaL,WY,yA,yB,yC,reduceCtorEq,W1,WS,zle,sxdP hD,zTg,yN,YAO,e1]
   all_goals first|rfl|exact⟨rfl,rfl⟩|trace_state
 ·simp only[if_neg he]
  have e1:(e !=0)=true:=by simp;omega
  have e2:(e !=7)=true:=by simp;omega
  unfold hJ bxJ arT arI at*
  unfold zAd
  refine eD zlc Tryz.func69 Tryz.results69 fun ok=> ?_
  repeat' (first
   |((first|apply bG|apply bH);simp only[yP,yQ];refine zIA (d _ _ (by first|exact hD|exact hD.app _)) (.inl rfl) (fun hb=>znB (by first|exact hD|exact hD.app _) hb) ?_)
   |skip)<;>simp only[↓zaL,WY,yA,yB,yC,yD,reduceCtorEq,W1,WS,zle,sxdP hD,zTg,yN,yO,YAO,e1,e2]
  all_goals first|rfl|exact⟨rfl,rfl⟩|trace_state
end
end
section
def BxS(x y:AObj):Prop:=(∀cs,x= .box cs->∃cs',y= .box cs'/\cs'.length=cs.length)/\∀cs',y= .box cs'->∃cs,x= .box cs/\cs'.length=cs.length
theorem znL{F L:List AObj}{s r c a b p:Nat}(h:SxdD F s r c a b p){x1 x2 x3 x4 x5 x6 y1 y2 y3 y4 y5 y6:AObj}(h1:BxS x1 y1)(h2:BxS x2 y2)(h3:BxS x3 y3)(h4:BxS x4 y4)(h5:BxS x5 y5)(h6:BxS x6 y6):
 zAE (sxd (F++L) s r c a b p x1 x2 x3 x4 x5 x6) (sxd (F++L) s r c a b p y1 y2 y3 y4 y5 y6) F.length 999:=by
 refine⟨by simp,fun q=> ?_⟩
 have hA:=h.app L
 have g:=zX0 hA (x1:=x1) (x2:=x2) (x3:=x3) (x4:=x4) (x5:=x5) (x6:=x6)
 have g':=zX0 hA (x1:=y1) (x2:=y2) (x3:=y3) (x4:=y4) (x5:=y5) (x6:=y6)
 have key:∀ {x y:AObj},q<F.length->BxS x y->(sxd (F++L) s r c a b p x1 x2 x3 x4 x5 x6)[q]?=some x->(sxd (F++L) s r c a b p y1 y2 y3 y4 y5 y6)[q]?=some y->
  (∀cs,(sxd (F++L) s r c a b p x1 x2 x3 x4 x5 x6)[q]?=some (.box cs)->∃cs',(sxd (F++L) s r c a b p y1 y2 y3 y4 y5 y6)[q]?=some (.box cs')/\CsAg q F.length 999 cs cs')/\
  (∀cs',(sxd (F++L) s r c a b p y1 y2 y3 y4 y5 y6)[q]?=some (.box cs')->∃cs,(sxd (F++L) s r c a b p x1 x2 x3 x4 x5 x6)[q]?=some (.box cs)/\CsAg q F.length 999 cs cs'):=by
  intro x y hq hxy e1 e2
  have hc:∀k,¬zll q F.length 999 k:=fun k hk=>by
   unfold zll at hk
   rw[if_pos rfl]at hk
   omega
  rw[e1,e2]
  refine⟨fun cs hcs=> ?_,fun cs' hcs=> ?_⟩
  ·cases hcs
   obtain⟨cs',h1,h2⟩:=hxy.1 cs rfl
   exact⟨cs',by rw[h1],h2,fun k hk=>absurd hk (hc k)⟩
  ·cases hcs
   obtain⟨cs,h1,h2⟩:=hxy.2 cs' rfl
   exact⟨cs,by rw[h1],h2,fun k hk=>absurd hk (hc k)⟩
 by_cases e1:s=q
 ·subst e1;exact key h.hs h1 g.1 g'.1
 by_cases e2:r=q
 ·subst e2;exact key h.hr h2 g.2.1 g'.2.1
 by_cases e3:c=q
 ·subst e3;exact key h.hc h3 g.2.2.1 g'.2.2.1
 by_cases e4:a=q
 ·subst e4;exact key h.h1 h4 g.2.2.2.1 g'.2.2.2.1
 by_cases e5:b=q
 ·subst e5;exact key h.h2 h5 g.2.2.2.2.1 g'.2.2.2.2.1
 by_cases e6:p=q
 ·subst e6;exact key h.h3 h6 g.2.2.2.2.2 g'.2.2.2.2.2
 rw[zX2 hA e1 e2 e3 e4 e5 e6,zX2 hA e1 e2 e3 e4 e5 e6]
 exact⟨fun cs h=>⟨cs,h,rfl,fun _ _=>rfl⟩,fun cs h=>⟨cs,h,rfl,fun _ _=>rfl⟩⟩
theorem BxS.no{x y:AObj}(h1:∀cs,x≠ .box cs)(h2:∀cs,y≠ .box cs):BxS x y:=⟨fun cs h=>absurd h (h1 cs),fun cs h=>absurd h (h2 cs)⟩
theorem BxS.rfl'(x:AObj):BxS x x:=⟨fun cs h=>⟨cs,h,rfl⟩,fun cs h=>⟨cs,h,rfl⟩⟩
theorem BxS.box{cs cs':List AV}(h:cs'.length=cs.length):BxS (.box cs) (.box cs'):=⟨fun _ e=>(by cases e;exact⟨_,rfl,h⟩),fun _ e=>(by cases e;exact⟨_,rfl,h⟩)⟩
theorem zfrJ{C:Cfg}{e:Nat->AV}{F F':List AObj}{b n g:Nat}(hz:C.zfr=some (7,999))(he:e 7= .bptr g 0)(h:zAE F F' g 999):ZFr C (FS e F b n) F':=by
 unfold ZFr
 rw[hz]
 intro r0 h0
 have:e 7= .bptr r0 0:=h0
 rw[he]at this
 cases this
 rw[zID];exact h
theorem bagJ{F L:List AObj}{s r c a b p v n v' n' w w':Nat}{S S':St}{lim cnt lim' cnt' z1 z2 z3 z4 z5 z6 u1 u2 u3 u4 u5 u6:Int}{j1 j2 j3 j4:Nat}{tx tx':ByteArray}{y:AObj}(h:SxdD F s r c a b p):
 zAE (sxd (F++L) s r c a b p (bxR r v n lim cnt) (arR w S) y (.tok j1 1) (.tok j2 1) (.box [.bptr s 0,.int .i64 z1,.int .i64 z2,.int .i64 z3,.int .i64 z4,.int .i64 z5,.str tx,.int .i64 z6]))
  (sxd (F++L) s r c a b p (bxR r v' n' lim' cnt') (arR w' S') y (.tok j3 1) (.tok j4 1) (.box [.bptr s 0,.int .i64 u1,.int .i64 u2,.int .i64 u3,.int .i64 u4,.int .i64 u5,.str tx',.int .i64 u6])) F.length 999:=
 znL h (.box rfl) (.no (fun _ h=>by cases h) (fun _ h=>by cases h)) (.rfl' _) (.no (fun _ h=>by cases h) (fun _ h=>by cases h)) (.no (fun _ h=>by cases h) (fun _ h=>by cases h)) (.box rfl)
section
variable {F : List AObj} {s r c a b p : Nat} {lim lv : Int} {y : AObj}
theorem zmV(hD:SxdD F s r c a b p){x:IS}(hl:¬lv<0)(ho:okI x)(hlim:x.σ.cnt<=lim)(h:(zN8 lim lv x).1=0):
 zAd Tryz.prog 72 [.bptr p 0,.int .i64 lv] (hJ F s r c a b p lim y x 0) (.int .i64 (x.len+1:Nat)) (hJ F s r c a b p lim y (zN8 lim lv x).2 0):=by
 obtain⟨o1,o2,o3,o4,o5⟩:=ho
 unfold zN8 at h⊢
 by_cases h1:x.σ.cnt=lim
 ·rw[if_pos h1]at h;cases h
 rw[if_neg h1]at h⊢
 by_cases h2:x.σ.cnt+1=lim
 ·rw[if_pos h2]at h;cases h
 rw[if_neg h2]
 have d:=fun(F:List AObj) (hD:SxdD F s r c a b p)=>zl9 (lim:=lim) (y:=y) hD x hl (by omega) (by omega) (by omega)
 have d2:=fun(F:List AObj) (hD:SxdD F s r c a b p)=>zmY (lim:=lim) (y:=y) hD (x.var lv) x.len x.len (by rw[IS.zaS];omega) (by show x.σ.cnt+1<lim;omega) (by show(x.σ.L++_).length<=_;simp;omega) (by show 0<=x.σ.cnt+1/\x.σ.cnt+1<=_;omega)
 simp only[IS.zaS]at d2
 unfold hJ bxJ arT arI at*
 unfold zAd
 refine eD zlc Tryz.func72 Tryz.results72 fun ok=> ?_
 repeat' (first
  |((first|apply bG|apply bH);simp only[yP,yQ,];first|refine zIA (d _ (by first|exact hD|exact hD.app _)) (.inl rfl) (fun hb=>znB (by first|exact hD|exact hD.app _) hb) ?_|refine zIA (d2 _ (by first|exact hD|exact hD.app _)) (.inl rfl) (fun hb=>znB (by first|exact hD|exact hD.app _) hb) ?_)
  |skip)<;>simp only[↓zaL,WY,yA,reduceCtorEq,WS,sxdP hD,zTh,yN,]
 all_goals first|rfl|exact⟨rfl,rfl⟩|trace_state
theorem zmU(hD:SxdD F s r c a b p){x:IS}(hl:¬lv<0)(ho:okI x)(hlim:x.σ.cnt<=lim)(h:(zN8 lim lv x).1≠0):
 zAd Tryz.prog 72 [.bptr p 0,.int .i64 lv] (hJ F s r c a b p lim y x 0) (.int .i64 0) (hJ F s r c a b p lim y (zN8 lim lv x).2 7)/\(zN8 lim lv x).1=7:=by
 obtain⟨o1,o2,o3,o4,o5⟩:=ho
 unfold zN8 at h⊢
 by_cases h1:x.σ.cnt=lim
 ·rw[if_pos h1]
  refine⟨?_,rfl⟩
  have d:=fun(F:List AObj) (hD:SxdD F s r c a b p)=>zmA (lim:=lim) (y:=y) hD x hl h1
  have d2:=fun(F:List AObj) (hD:SxdD F s r c a b p)=>zmc (lim:=lim) (y:=y) hD x (e:=7) rfl 8 0 0
  unfold hJ bxJ arT arI at*
  unfold zAd
  refine eD zlc Tryz.func72 Tryz.results72 fun ok=> ?_
  have h:=YAN
  repeat' (first
   |((first|apply bG|apply bH);simp only[yP,yQ,];first|refine zIA (d _ (by first|exact hD|exact hD.app _)) (.inl rfl) (fun hb=>znB (by first|exact hD|exact hD.app _) hb) ?_|refine zIA (d2 _ (by first|exact hD|exact hD.app _)) (.inl rfl) (fun hb=>znB (by first|exact hD|exact hD.app _) hb) ?_)
   |skip)<;>simp only[↓zaL,WY,yA,reduceCtorEq,WS,sxdP hD,zTh,yN,]
  all_goals first|rfl|exact⟨rfl,rfl⟩|trace_state
 rw[if_neg h1]at h⊢
 by_cases h2:x.σ.cnt+1=lim
 ·rw[if_pos h2]
  refine⟨?_,rfl⟩
  have d:=fun(F:List AObj) (hD:SxdD F s r c a b p)=>zl9 (lim:=lim) (y:=y) hD x hl (by omega) (by omega) (by omega)
  have d2:=fun(F:List AObj) (hD:SxdD F s r c a b p)=>zmZ (lim:=lim) (y:=y) hD (x.var lv) x.len x.len (by rw[IS.zaS];omega) h2
  unfold hJ bxJ arT arI at*
  unfold zAd
  refine eD zlc Tryz.func72 Tryz.results72 fun ok=> ?_
  have h:=YAN
  repeat' (first
   |((first|apply bG|apply bH);simp only[yP,yQ,];first|refine zIA (d _ (by first|exact hD|exact hD.app _)) (.inl rfl) (fun hb=>znB (by first|exact hD|exact hD.app _) hb) ?_|refine zIA (d2 _ (by first|exact hD|exact hD.app _)) (.inl rfl) (fun hb=>znB (by first|exact hD|exact hD.app _) hb) ?_)
   |skip)<;>simp only[↓zaL,WY,yA,reduceCtorEq,WS,sxdP hD,zTh,yN,]
  all_goals first|rfl|exact⟨rfl,rfl⟩|trace_state
 ·rw[if_neg h2]at h;exact absurd rfl h
def CZJ:Cfg:= {CJn with zfr:=some (7,999),zld:=[(101,2)]}
theorem zlj:zAb Tryz.prog CZJ:=C_ok
theorem zlk(t:Nat):CZJ.ty t=C.ty t:=rfl
theorem zli(t:Nat):CZJ.inpl t=false:=rfl
theorem znk(s:AState):ZLd CZJ s=∃r0,s.env 7= .bptr r0 0/\LdOK r0 999 (s.env 101) 2:=by simp[ZLd,CZJ,CJn]
def PatJ(lim lv:Int)(q:Pt):Prop:=∀ ⦃F:List AObj⦄ ⦃s r c a b p:Nat⦄ ⦃y:AObj⦄,SxdD F s r c a b p->∀(n:Nat) (x:IS) (res:Int×IS),GoodS x.σ->x.σ.cnt<=lim->n<x.len->PatR lim lv q n x res->
 zAd Tryz.prog 36 [.bptr p 0,embP q,.int .i64 n,.int .i64 lv,.sl (x.nm.map ST) (.own a),.sl (x.nd.map NI) (.own b)] (hJ F s r c a b p lim y x 0)
  (.tup [.sl (res.2.nm.map ST) (.own a),.sl (res.2.nd.map NI) (.own b)]) (hJ F s r c a b p lim y res.2 res.1)/\res.2.σ.cnt<=lim
theorem zls{lim:Int}{q:Pt}{n m:Nat}{x:IS}{res:Int×IS}(h:AgR lim q n m x res):res.2.nm=x.nm/\res.2.nd=x.nd:=by
 obtain⟨M,l,r,e,σ',hr,rfl⟩:=h
 simp only
 split<;>exact⟨rfl,rfl⟩
theorem zms(hD:SxdD F s r c a b p)(q:Pt)(n lv:Int)(x:IS){e:Int}(he:(e !=0)=true):
 zAd Tryz.prog 36 [.bptr p 0,embP q,.int .i64 n,.int .i64 lv,.sl (x.nm.map ST) (.own a),.sl (x.nd.map NI) (.own b)] (hJ F s r c a b p lim y x e)
 (.tup [.sl (x.nm.map ST) (.own a),.sl (x.nd.map NI) (.own b)]) (hJ F s r c a b p lim y x e):=by
 unfold zAd hJ bxJ arT arI
 refine eO zlj Tryz.func36 Tryz.results36 fun ok=> ?_
 repeat' (first
  |refine zJ9 ?_ zlj Tryz.f36.ntmps rfl (by decide)
  |skip)<;>simp only[↓zaL,WY,yA,yB,reduceCtorEq,W1,W1P,WS,zlk,sxdP hD,znE,yN,yO,he]
 all_goals first|rfl|exact⟨rfl,rfl⟩|(simp only[zXs,zQK,hD.h1,hD.h2,decide_true,Bool.and_true];done)|trace_state
theorem zmm{lim lv:Int}{q:Pt}(hk:q.kind=1):PatJ lim lv q:=by
 intro F s r c a b p y hD n x res hg hlim hn h
 rw[zSA (by omega),if_pos hk]at h
 obtain⟨-,rfl⟩:=h
 refine⟨?_,hlim⟩
 have b2:(q.kind==2)=((1:Int)==2):=by rw[hk]
 have b3:(q.kind==3)=((1:Int)==3):=by rw[hk]
 have b4:(q.kind==4)=((1:Int)==4):=by rw[hk]
 have b5:(q.kind==5)=((1:Int)==5):=by rw[hk]
 have b6:(q.kind==6)=((1:Int)==6):=by rw[hk]
 have b7:(q.kind==7)=((1:Int)==7):=by rw[hk]
 have b8:(q.kind==8)=((1:Int)==8):=by rw[hk]
 have b9:(q.kind==9)=((1:Int)==9):=by rw[hk]
 unfold zAd hJ bxJ arT arI
 refine eO zlj Tryz.func36 Tryz.results36 fun ok=> ?_
 repeat' (first
  |refine zJ9 ?_ zlj Tryz.f36.ntmps rfl (by decide)
  |skip)<;>simp only[↓zaL,WY,yA,yB,reduceCtorEq,W1,W1P,WS,yK,zlk,sxdP hD,znE,yN,yO,YAO,b2,b3,b4,b5,b6,b7,b8,b9]
 all_goals first|rfl|exact⟨rfl,rfl⟩|(simp only[zXs,zQK,hD.h1,hD.h2,decide_true,Bool.and_true];done)|trace_state
theorem zmp{lim lv:Int}{q:Pt}(hk:q.kind=2):PatJ lim lv q:=by
 intro F s r c a b p y hD n x res hg hlim hn h
 rw[zSA (by omega),if_neg (by omega),if_pos hk]at h
 obtain⟨⟨o1,o2,o3,o4,o5⟩,rfl⟩:=h
 refine⟨?_,hlim⟩
 have b2:(q.kind==2)=((2:Int)==2):=by rw[hk]
 have b3:(q.kind==3)=((2:Int)==3):=by rw[hk]
 have b4:(q.kind==4)=((2:Int)==4):=by rw[hk]
 have b5:(q.kind==5)=((2:Int)==5):=by rw[hk]
 have b6:(q.kind==6)=((2:Int)==6):=by rw[hk]
 have b7:(q.kind==7)=((2:Int)==7):=by rw[hk]
 have b8:(q.kind==8)=((2:Int)==8):=by rw[hk]
 have b9:(q.kind==9)=((2:Int)==9):=by rw[hk]
 unfold zAd hJ bxJ arT arI
 refine eO zlj Tryz.func36 Tryz.results36 fun ok=> ?_
 repeat' (first
  |refine zJ9 ?_ zlj Tryz.f36.ntmps rfl (by decide)
  |skip)<;>simp only[↓zaL,WY,yA,yB,yC,yD,reduceCtorEq,yE,yF,W1,W1P,WS,zlk,zli,sxdP hD,znE,yN,yO,YAO,b2,zCJ,zCI,zAt]
 have n1:List.map ST x.nm++ [AV.str q.name]=List.map ST (x.nm++ [q.name]):=by simp[ST]
 have n2:List.map NI x.nd++ [NI n]=List.map NI (x.nd++ [n]):=by simp
 rw[n1,n2,zXs,zQK]
 all_goals exact⟨⟨by omega,by omega⟩,⟨rfl,rfl⟩,⟨by omega,by omega,rfl,rfl⟩,by simp[hD.h1,hD.h2],rfl,rfl⟩
theorem zmo{lim lv:Int}{q:Pt}(hk:3<=q.kind/\q.kind<=6):PatJ lim lv q:=by
 intro F s r c a b p y hD n x res hg hlim hn h
 rw[zSA (by omega),if_neg (by omega),if_neg (by omega),if_neg (by omega),if_neg (by omega)]at h
 obtain⟨-,h⟩:=h
 have e1:IntKind.wrap .i64 (q.kind-3)=((zM4 q.kind-1).toNat:Int):=by
  have e1:IntKind.i64.min= -9223372036854775808:=by decide
  have e2:IntKind.i64.max=9223372036854775807:=by decide
  rw[wrap_id .i64 _ (by omega) (by omega),zM5 hk];omega
 have hm:(zM4 q.kind-1).toNat<x.σ.L.length:=by
  have:=hg.five
  rw[zM5 hk];omega
 have d:=fun(F:List AObj) (hD:SxdD F s r c a b p)=>(zlt (y:=y) hD hg hlim hn hm h).1
 have hc:=(zlt (y:=y) hD hg hlim hn hm h).2
 obtain⟨nm,nd⟩:=zls h
 refine⟨?_,hc⟩
 generalize (zM4 q.kind-1).toNat=m at*
 obtain⟨e,x2⟩:=res
 simp only at nm nd d⊢
 rw[nm,nd]
 unfold zAd
 unfold hJ bxJ arT arI at*
 have:q.kind=3\/q.kind=4\/q.kind=5\/q.kind=6:=by omega
 rcases this with hk|hk|hk|hk
 ·rw[hk]at e1
  have b2:(q.kind==2)=((3:Int)==2):=by rw[hk]
  have b3:(q.kind==3)=((3:Int)==3):=by rw[hk]
  have b4:(q.kind==4)=((3:Int)==4):=by rw[hk]
  have b5:(q.kind==5)=((3:Int)==5):=by rw[hk]
  have b6:(q.kind==6)=((3:Int)==6):=by rw[hk]
  have b7:(q.kind==7)=((3:Int)==7):=by rw[hk]
  have b8:(q.kind==8)=((3:Int)==8):=by rw[hk]
  have b9:(q.kind==9)=((3:Int)==9):=by rw[hk]
  refine eO zlj Tryz.func36 Tryz.results36 fun ok=> ?_
  repeat' (first
   |((first|apply bG|apply bH);simp only[yP,yQ];refine zIA (d _ (by first|exact hD|exact hD.app _)) (.inl rfl) (fun hb=>znB (by first|exact hD|exact hD.app _) hb) ?_)
   |refine zJ9 ?_ zlj Tryz.f36.ntmps rfl (by decide)
   |skip)<;>simp only[↓zaL,WY,yA,yB,yD,reduceCtorEq,W1,W1P,WS,yK,zlk,sxdP hD,znE,yN,yO,YAO,hk,e1,nm,nd]
  all_goals first|rfl|exact⟨rfl,rfl⟩|(simp only[zXs,zQK,hD.h1,hD.h2,decide_true,Bool.and_true];done)|trace_state
 ·rw[hk]at e1
  have b2:(q.kind==2)=((4:Int)==2):=by rw[hk]
  have b3:(q.kind==3)=((4:Int)==3):=by rw[hk]
  have b4:(q.kind==4)=((4:Int)==4):=by rw[hk]
  have b5:(q.kind==5)=((4:Int)==5):=by rw[hk]
  have b6:(q.kind==6)=((4:Int)==6):=by rw[hk]
  have b7:(q.kind==7)=((4:Int)==7):=by rw[hk]
  have b8:(q.kind==8)=((4:Int)==8):=by rw[hk]
  have b9:(q.kind==9)=((4:Int)==9):=by rw[hk]
  refine eO zlj Tryz.func36 Tryz.results36 fun ok=> ?_
  repeat' (first
   |((first|apply bG|apply bH);simp only[yP,yQ];refine zIA (d _ (by first|exact hD|exact hD.app _)) (.inl rfl) (fun hb=>znB (by first|exact hD|exact hD.app _) hb) ?_)
   |refine zJ9 ?_ zlj Tryz.f36.ntmps rfl (by decide)
   |skip)<;>simp only[↓zaL,WY,yA,yB,yD,reduceCtorEq,W1,W1P,WS,yK,zlk,sxdP hD,znE,yN,yO,YAO,hk,e1,nm,nd]
  all_goals first|rfl|exact⟨rfl,rfl⟩|(simp only[zXs,zQK,hD.h1,hD.h2,decide_true,Bool.and_true];done)|trace_state
 ·rw[hk]at e1
  have b2:(q.kind==2)=((5:Int)==2):=by rw[hk]
  have b3:(q.kind==3)=((5:Int)==3):=by rw[hk]
  have b4:(q.kind==4)=((5:Int)==4):=by rw[hk]
  have b5:(q.kind==5)=((5:Int)==5):=by rw[hk]
  have b6:(q.kind==6)=((5:Int)==6):=by rw[hk]
  have b7:(q.kind==7)=((5:Int)==7):=by rw[hk]
  have b8:(q.kind==8)=((5:Int)==8):=by rw[hk]
  have b9:(q.kind==9)=((5:Int)==9):=by rw[hk]
  refine eO zlj Tryz.func36 Tryz.results36 fun ok=> ?_
  repeat' (first
   |((first|apply bG|apply bH);simp only[yP,yQ];refine zIA (d _ (by first|exact hD|exact hD.app _)) (.inl rfl) (fun hb=>znB (by first|exact hD|exact hD.app _) hb) ?_)
   |refine zJ9 ?_ zlj Tryz.f36.ntmps rfl (by decide)
   |skip)<;>simp only[↓zaL,WY,yA,yB,yD,reduceCtorEq,W1,W1P,WS,yK,zlk,sxdP hD,znE,yN,yO,YAO,hk,e1,nm,nd]
  all_goals first|rfl|exact⟨rfl,rfl⟩|(simp only[zXs,zQK,hD.h1,hD.h2,decide_true,Bool.and_true];done)|trace_state
 ·rw[hk]at e1
  have b2:(q.kind==2)=((6:Int)==2):=by rw[hk]
  have b3:(q.kind==3)=((6:Int)==3):=by rw[hk]
  have b4:(q.kind==4)=((6:Int)==4):=by rw[hk]
  have b5:(q.kind==5)=((6:Int)==5):=by rw[hk]
  have b6:(q.kind==6)=((6:Int)==6):=by rw[hk]
  have b7:(q.kind==7)=((6:Int)==7):=by rw[hk]
  have b8:(q.kind==8)=((6:Int)==8):=by rw[hk]
  have b9:(q.kind==9)=((6:Int)==9):=by rw[hk]
  refine eO zlj Tryz.func36 Tryz.results36 fun ok=> ?_
  repeat' (first
   |((first|apply bG|apply bH);simp only[yP,yQ];refine zIA (d _ (by first|exact hD|exact hD.app _)) (.inl rfl) (fun hb=>znB (by first|exact hD|exact hD.app _) hb) ?_)
   |refine zJ9 ?_ zlj Tryz.f36.ntmps rfl (by decide)
   |skip)<;>simp only[↓zaL,WY,yA,yB,yD,reduceCtorEq,W1,W1P,WS,yK,zlk,sxdP hD,znE,yN,yO,YAO,hk,e1,nm,nd]
  all_goals first|rfl|exact⟨rfl,rfl⟩|(simp only[zXs,zQK,hD.h1,hD.h2,decide_true,Bool.and_true];done)|trace_state
end
end
end Go.Proofs.YtdngjamjccjlmaaGreat
