/- Lemmas: rounds over both stores. No condition. -/
import Derived.Test.YtdngjamjccjlmaaR19
import Derived.Test.YtdngjamjccjlmaaR16
import Derived.Test.YtdngjamjccjlmaaPNc
import Derived.Test.YtdngjamjccjlmaaPBe
set_option linter.unusedSimpArgs false
set_option linter.unusedVariables false
set_option maxHeartbeats 4000000
set_option maxRecDepth 100000
namespace Go.Proofs.Ytdngjamjccjlmaa
open Go Go.Ab
open Nat renaming reduceEqDiff -> yA, reduceAdd -> yB, reduceLT -> yC, reduceLeDiff -> yD, reduceMul -> yE, reducePow -> yF, reduceBEq -> yG
open Int renaming reduceAdd -> yH, reduceLT -> yI, reduceToNat -> yJ, reduceBEq -> yK, reduceBNe -> yL, reduceLE -> yM
section
theorem zgZ{lim:Int}{σ:Sto}(hg:GoodS σ)(hs:StV σ.L.st){x y:Nat}(hx:x<σ.L.length)(hy:y<σ.L.length)(hw:(σ.L.st.tT x).wD+(σ.L.st.tT y).wD<=2000)(hf:σ.L.st.free<=20000)(hl:σ.L.length<=50000)(hc0:0<=σ.cnt)(hc:σ.cnt<=100000)(hrd:σ.rd<=10000000000):
 ∃m res,RunB lim m [(x,y)] σ res/\(EndS σ (5*((σ.L.st.tT x).wD+(σ.L.st.tT y).wD)+σ.L.st.free) ((σ.L.st.tT x).wD+(σ.L.st.tT y).wD) res\/EndL res):=by
 have hlt:Lt2 σ.L.length [(x,y)]:=fun q hq=>by rw[List.mem_singleton]at hq;subst hq;exact⟨hx,hy⟩
 have ew:wL σ.L.st [(x,y)]=(σ.L.st.tT x).wD+(σ.L.st.tT y).wD:=by simp[wL,wP]
 have hq:qL σ.L.st [(x,y)]<=1+56000:=by
  refine zTD (stk:=[(x,y)]) fun q hq=>Nat.le_trans (hg.si.wf.zFb (by rw[Mem.zXR];exact hlt) q hq) ?_
  rw[Mem.zXR];omega
 have hM:5*((σ.L.st.tT x).wD+(σ.L.st.tT y).wD)+σ.L.st.free<=30000:=by omega
 have hmul:(56000+2)*(5*((σ.L.st.tT x).wD+(σ.L.st.tT y).wD)+σ.L.st.free)<=(56000+2)*30000:=Nat.mul_le_mul_left _ hM
 have:=zgX (lim:=lim) (R:=80000000000) (C:=200000) (D:=56000) (K:=100000000000) (by omega) (by omega) (by omega) (by omega) (5*((σ.L.st.tT x).wD+(σ.L.st.tT y).wD)+σ.L.st.free) (zL σ.L.st [(x,y)]) σ [(x,y)] hg hs hlt (by rw[ew];omega) (YAV _) (by rw[ew];omega) hc0 (by rw[ew];omega) (by omega) (by omega)
 rw[ew]at this
 exact this
theorem zdw:∀(k:Nat) (σ:Sto),GoodS σ->GoodS (alk k σ)
 |0,σ,h=>h
 |k+1,σ,h=>((zdw k σ h).mark _).mark _
structure RndI (lim rd:Int) (x:MkS) (w i:Nat):Prop where
 good:GoodS (x.sto rd)
 stv:StV x.L.st
 vj:VJ x.L.st x.Z
 len:x.L.length<=5+4*w
 c0:0<=x.cnt
 cnt:x.cnt<=4*w
 lm:x.cnt<=lim
 rd:rd<=100000*i
theorem zgH{lim rd:Int}{x y z:MkS}{w i n1 n2:Nat}{a b:T}(h:RndI lim rd x w i)(hw:w+(a.size+b.size)<=300)(hi:i<12)(o1:MkOut lim rd a x y n1 0)(o2:MkOut lim rd b y z n2 0):
 ∃m res,RunB lim m [(n1,n2)] (z.sto rd) res/\GoodS res.2.2.2/\res.2.2.2.L.length<=1000000/\res.2.2.2.rd<=900000000000/\
  (res.2.2.1=0->RndI lim (alk res.2.2.2.L.length res.2.2.2).rd ⟨(alk res.2.2.2.L.length res.2.2.2).v,(alk res.2.2.2.L.length res.2.2.2).L,(alk res.2.2.2.L.length res.2.2.2).cnt,z.Z⟩ (w+(a.size+b.size)) (i+1)):=by
 obtain⟨hg,hs,hv,hl,hc0,hc,hlm,hrd⟩:=h
 have l1:=o1.lt rfl
 have l2:=o2.lt rfl
 have w1:=o1.wd rfl
 have w2:=o2.wd rfl
 have ew:=o2.ext.wD (S:=y.L.st) o1.good.si.wf o2.stv (n:=n1) (by rw[Mem.zXR];exact l1)
 rw[<-ew]at w1
 have a1:=o1.lenA;have a2:=o1.lenB;have a3:=o1.cntA;have a4:=o1.cntB
 have b1:=o2.lenA;have b2:=o2.lenB;have b3:=o2.cntA;have b4:=o2.cntB;have b5:=o2.lm
 have hf:=zeL z.L.st
 rw[Mem.zXR]at hf
 obtain⟨m,res,hr,he⟩:=zgZ (lim:=lim) (σ:=z.sto rd) o2.good o2.stv (x:=n1) (y:=n2) (by show n1<z.L.length;omega) l2 (by show(z.L.st.tT n1).wD+(z.L.st.tT n2).wD<=2000;omega) (by show z.L.st.free<=20000;omega) (by show z.L.length<=50000;omega) (by show 0<=z.cnt;omega) (by show z.cnt<=100000;omega) (by show rd<=10000000000;omega)
 have hcl:=zgW (lim:=lim) m o2.good b5 (fun q hq=>by simp only[List.mem_singleton]at hq;subst hq;exact⟨(by show n1<z.L.length;omega),l2⟩) hr
 refine⟨m,res,hr,?_⟩
 rcases he with he|he
 ·have e1:=he.len
  have e2:=he.rd
  have e3:=he.cnt
  have e4:=he.cnt1
  have e5:=he.ext
  change res.2.2.2.L.length<=z.L.length+3*((z.L.st.tT n1).wD+(z.L.st.tT n2).wD)at e1
  change res.2.2.2.rd<=rd+4*((5*((z.L.st.tT n1).wD+(z.L.st.tT n2).wD)+z.L.st.free:Nat):Int)at e2
  change res.2.2.2.cnt<=z.cnt+3*(((z.L.st.tT n1).wD+(z.L.st.tT n2).wD:Nat):Int)at e3
  change z.cnt<=res.2.2.2.cnt at e4
  change Ext z.L.st res.2.2.2.L.st at e5
  refine⟨he.good,by omega,by omega,fun _=>⟨zdw _ _ he.good,by rw[show(⟨_,_,_,z.Z⟩:MkS).L.st=_ from zd0 _ _];exact he.stv,by rw[show(⟨_,_,_,z.Z⟩:MkS).L.st=_ from zd0 _ _];exact o2.vj.ext e5,by simp only[zdx];omega,by simp only[zdv];omega,by simp only[zdv];omega,by simp only[zdv];omega,by simp only[zdy];omega⟩⟩
 ·have e1:=he.len
  have e2:=he.rd
  exact⟨he.good,by omega,by omega,fun e=>absurd (he.e.symm.trans e) (by decide)⟩
end
section
section
variable {F : List AObj} {s r p q m : Nat} {lim rd lvl : Int}
theorem zeD(hD:QuaD F s r p q)(hm:m<F.length)(hmp:m≠p)(hmq:m≠q){t:Ty}{x y:MkS}{n e:Int}(h:zdq s r m lim rd lvl t x y n e)(u:Nat)(S:St)(lim2 cnt2:Int):
 zAd Try.prog 22 [.bptr s 0,emb t,.int .i64 lvl,.mp m] (dH (F.set m (.map (embM x.Z))) s r p q x.v x.L lim x.cnt rd u S lim2 cnt2) (.tup [.int .i64 n,.int .i64 e]) (dH (F.set m (.map (embM y.Z))) s r p q y.v y.L lim y.cnt rd u S lim2 cnt2):=by
 have:=h ((F.set p (bxR q u S.length lim2 cnt2)).set q (arR u S)) (by simpa using hD.hs) (by simpa using hD.hr) (by simpa using hm)
 rw[dH_S,dH_S]
 rw[List.set_comm (i:=q) (j:=m) _ _ (fun h=>hmq h.symm),List.set_comm (i:=p) (j:=m) _ _ (fun h=>hmp h.symm),List.set_comm (i:=q) (j:=m) _ _ (fun h=>hmq h.symm),List.set_comm (i:=p) (j:=m) _ _ (fun h=>hmp h.symm)]at this
 exact this
theorem zeE(hD:QuaD F s r p q)(hm:m<F.length)(hms:m≠s)(hmr:m≠r){t:Ty}{x y:MkS}{n e:Int}(h:zdr p q m lim lvl t x y n e)(v:Nat)(L:Mem)(lim1 cnt1 rd1:Int):
 zAd Try.prog 48 [.bptr p 0,emb t,.int .i64 lvl,.mp m] (dH (F.set m (.map (embM x.Z))) s r p q v L lim1 cnt1 rd1 x.v x.L.st lim x.cnt) (.tup [.int .i64 n,.int .i64 e]) (dH (F.set m (.map (embM y.Z))) s r p q v L lim1 cnt1 rd1 y.v y.L.st lim y.cnt):=by
 have hD':∀X,QuaD (F.set m X) s r p q:=fun X=>⟨by simpa using hD.hs,by simpa using hD.hr,by simpa using hD.hp,by simpa using hD.hq,hD.d1,hD.d2⟩
 have:=h ((F.set s (bxS r v L.length lim1 cnt1 rd1)).set r (arS v L)) (by simpa using hD.hp) (by simpa using hD.hq) (by simpa using hm)
 rw[dH_R (hD' _),dH_R (hD' _)]
 rw[List.set_comm (i:=r) (j:=m) _ _ (fun h=>hmr h.symm),List.set_comm (i:=s) (j:=m) _ _ (fun h=>hms h.symm),List.set_comm (i:=r) (j:=m) _ _ (fun h=>hmr h.symm),List.set_comm (i:=s) (j:=m) _ _ (fun h=>hms h.symm)]at this
 exact this
end
end
section
attribute [local irreducible] zA0 zAA zAa zAi zAj GoIf GoGb zAk GoO GoD GoX GoDX GoG GoDG GoGv zAl Go zAB
section
variable {F : List AObj} {s r v : Nat} {L : Mem} {lim cnt rd : Int}
theorem zds(hs:s<F.length)(hr:r<F.length)(hne:r≠s)(y:Int):zAd Try.prog 45 [.bptr s 0,.int .i64 (-1),.int .i64 y] (hpS F s r v L lim cnt rd) (.tup [.int .i64 0,.int .i64 0,.int .i64 1]) (hpS F s r v L lim cnt rd):=by
 have q1:=zgJ (F:=F) (v:=v) (L:=L) (lim:=lim) (cnt:=cnt) (rd:=rd) hs hr hne (-1) (.inl (by decide))
 have c1:((-1:Int)<0)=True:=by decide
 unfold zAd
 refine zBN zAJ Try.func45 rfl (by decide) (YAL rfl) (by decide) fun ok=> ?_
 rw[Try.results45]
 have h:=YAN
 repeat' (first
  |(with_reducible first|apply bA|apply bB|apply bC|apply bD|apply bE|apply bF)<;>intro h
  |((first|apply bG|apply bH);simp only[AV.norm,AV.zQg,W2,zAK,zAI,yG,isMs,zWF,hpS,bxS,arS,stP hs hr hne,zTh,zTg,AV.bel,zOg,c1,AV.belL];first|refine zIB (q1) (.inl rfl) ?_)
  |refine zKh (id:=7) zAJ (fun _=>trivial) mixed 0 Try.f45.ntmps (by first|(simp;done)|(simp;omega)) rfl (by kernel_rfl) (by decide) ?_
  |refine zKh (id:=31) zAJ (fun _=>trivial) mixed 0 Try.f45.ntmps (by first|(simp;done)|(simp;omega)) rfl (by kernel_rfl) (by decide) ?_
  |skip)<;>simp only[h,↓zaL,↓zHC,WY,reduceIte,yA,yB,yC,yD,reduceCtorEq,yE,yF,W1,WS,zAK,zAI,yG,isMs,zWF,hpS,bxS,arS,stP hs hr hne,zTh,zTg,AV.bel,zOg,c1,AV.belL]
end
end
end Go.Proofs.Ytdngjamjccjlmaa
