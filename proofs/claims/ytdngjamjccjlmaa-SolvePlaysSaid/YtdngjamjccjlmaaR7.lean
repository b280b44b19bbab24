/- The document's store, walked: a new one; two stores in one heap. No condition. -/
import Derived.Test.YtdngjamjccjlmaaR6
import Derived.Test.YtdngjamjccjlmaaPWa
set_option linter.unusedSimpArgs false
set_option linter.unusedVariables false
set_option maxHeartbeats 4000000
set_option maxRecDepth 100000
namespace Go.Proofs.Ytdngjamjccjlmaa
open Go Go.Ab
open Nat renaming reduceEqDiff -> yA, reduceAdd -> yB, reduceLT -> yC, reduceLeDiff -> yD, reduceMul -> yE, reducePow -> yF, reduceBEq -> yG
open Int renaming reduceAdd -> yH, reduceLT -> yI, reduceToNat -> yJ, reduceBEq -> yK, reduceBNe -> yL, reduceLE -> yM
attribute [local irreducible] zA0 zAA zAa zAi zAj GoIf GoGb zAk GoO GoD GoX GoDX GoG GoDG GoGv zAl Go zAB
def CRn:Cfg:= {C with inpl:=fun d=>d==22}
theorem zdo:zAb Try.prog CRn:=C_ok
theorem zdp(t:Nat):CRn.ty t=C.ty t:=rfl
theorem zdn(t:Nat):CRn.inpl t=(t==22):=rfl
theorem zgI(F:List AObj)(n:Int):zAA Try.prog 47 [.int .i64 n] F fun x G=>x= .bptr F.length 0/\G=F++ [bxR (F.length+1) 4 5 (zNK n) 0,arR 4 mem0.st]:=by
 have hb:F.length<=F.length:=YAV _
 have w1:IntKind.wrap .i64 1=1:=by decide
 have w2:IntKind.wrap .i64 2=2:=by decide
 have w3:IntKind.wrap .i64 3=3:=by decide
 have w4:IntKind.wrap .i64 4=4:=by decide
 have w5:IntKind.wrap .i64 5=5:=by decide
 have w6:IntKind.wrap .i64 6=6:=by decide
 refine zBU zdo Try.func47 rfl (by decide) (YAL rfl) (by decide) fun ok=> ?_
 rw[Try.results47]
 have h:=YAN
 repeat' (first
  |(with_reducible first|apply bA|apply bB|apply bC|apply bD|apply bE|apply bF)<;>intro h
  |refine zJ9 ?_ zdo Try.f47.ntmps rfl (by decide)
  |skip)<;>simp only[h,↓zaL,↓zHC,WY,reduceIte,yA,yB,yC,yD,reduceCtorEq,yE,yF,W1,WS,W3,yH,yI,yJ,yK,yL,yM,zdp,zdn,yG,hb,w1,w2,w3,w4,w5,w6,zFY]
 all_goals rfl
def qua(F:List AObj)(s r p q:Nat)(x1 x2 x3 x4:AObj):List AObj:=stF ((F.set p x3).set q x4) s r x1 x2
structure QuaD (F:List AObj) (s r p q:Nat):Prop where
 hs:s<F.length
 hr:r<F.length
 hp:p<F.length
 hq:q<F.length
 d1:s≠r/\s≠p/\s≠q
 d2:r≠p/\r≠q/\p≠q
section
variable {F : List AObj} {s r p q : Nat}
theorem QuaD.app(h:QuaD F s r p q)(J:List AObj):QuaD (F++J) s r p q:=by
 obtain⟨h1,h2,h3,h4,d1,d2⟩:=h
 exact⟨by simp;omega,by simp;omega,by simp;omega,by simp;omega,d1,d2⟩
@[simp] theorem zfN {x1 x2 x3 x4:AObj}:(qua F s r p q x1 x2 x3 x4).length=F.length:=by simp[qua]
theorem zfK(h:QuaD F s r p q)(J:List AObj){x1 x2 x3 x4:AObj}:qua F s r p q x1 x2 x3 x4++J=qua (F++J) s r p q x1 x2 x3 x4:=by
 obtain⟨h1,h2,h3,h4,_⟩:=h
 unfold qua stF
 rw[zCW (F:=F) h3,zCW (by simpa using h4),zCW (by simpa using h1),zCW (by simpa using h2)]
theorem zfM(h:QuaD F s r p q){x1 x2 x3 x4:AObj}:
 (qua F s r p q x1 x2 x3 x4)[s]?=some x1/\(qua F s r p q x1 x2 x3 x4)[r]?=some x2/\(qua F s r p q x1 x2 x3 x4)[p]?=some x3/\(qua F s r p q x1 x2 x3 x4)[q]?=some x4:=by
 obtain⟨h1,h2,h3,h4,⟨a1,a2,a3⟩,b1,b2,b3⟩:=h
 unfold qua stF
 refine⟨?_,?_,?_,?_⟩
 ·rw[zVk (by omega),zVl (by simpa using h1)]
 ·rw[zVl (by simpa using h2)]
 ·rw[zVk (by omega),zVk (by omega),zVk (by omega),zVl h3]
 ·rw[zVk (by omega),zVk (by omega),zVl (by simpa using h4)]
theorem zfQ(h:QuaD F s r p q){G:List AObj}{x1 x2 x3 x4 y:AObj}:
 (qua G s r p q x1 x2 x3 x4).set s y=qua G s r p q y x2 x3 x4/\(qua G s r p q x1 x2 x3 x4).set r y=qua G s r p q x1 y x3 x4/\(qua G s r p q x1 x2 x3 x4).set p y=qua G s r p q x1 x2 y x4/\(qua G s r p q x1 x2 x3 x4).set q y=qua G s r p q x1 x2 x3 y:=by
 obtain⟨h1,h2,h3,h4,⟨a1,a2,a3⟩,b1,b2,b3⟩:=h
 unfold qua
 refine⟨zXI (fun e=>a1 e.symm),zXH,?_,?_⟩
 ·unfold stF
  rw[List.set_comm _ _ b1,List.set_comm _ _ a2,List.set_comm (i:=q) (j:=p) _ _ (fun e=>b3 e.symm),List.set_set]
 ·unfold stF
  rw[List.set_comm _ _ b2,List.set_comm _ _ a3,List.set_set]
theorem zfP{i:Nat}(h1:s≠i)(h2:r≠i)(h3:p≠i)(h4:q≠i){x1 x2 x3 x4:AObj}:(qua F s r p q x1 x2 x3 x4)[i]?=F[i]?:=by
 unfold qua stF
 rw[zVk h2,zVk h1,zVk h4,zVk h3]
theorem zfO{i:Nat}(h1:s≠i)(h2:r≠i)(h3:p≠i)(h4:q≠i){x1 x2 x3 x4 y:AObj}:(qua F s r p q x1 x2 x3 x4).set i y=qua (F.set i y) s r p q x1 x2 x3 x4:=by
 unfold qua stF
 rw[List.set_comm _ _ h2,List.set_comm _ _ h1,List.set_comm _ _ h4,List.set_comm _ _ h3]
theorem quaP(h:QuaD F s r p q):
 (∀x1 x2 x3 x4,(qua F s r p q x1 x2 x3 x4).length=F.length)/\(∀L x1 x2 x3 x4,(qua (F++L) s r p q x1 x2 x3 x4).length=F.length+L.length)/\
 (∀L x1 x2 x3 x4,qua F s r p q x1 x2 x3 x4++L=qua (F++L) s r p q x1 x2 x3 x4)/\(∀L M x1 x2 x3 x4,qua (F++L) s r p q x1 x2 x3 x4++M=qua (F++(L++M)) s r p q x1 x2 x3 x4)/\
 (∀x1 x2 x3 x4,(qua F s r p q x1 x2 x3 x4)[s]?=some x1)/\(∀L x1 x2 x3 x4,(qua (F++L) s r p q x1 x2 x3 x4)[s]?=some x1)/\
 (∀x1 x2 x3 x4,(qua F s r p q x1 x2 x3 x4)[r]?=some x2)/\(∀L x1 x2 x3 x4,(qua (F++L) s r p q x1 x2 x3 x4)[r]?=some x2)/\
 (∀x1 x2 x3 x4,(qua F s r p q x1 x2 x3 x4)[p]?=some x3)/\(∀L x1 x2 x3 x4,(qua (F++L) s r p q x1 x2 x3 x4)[p]?=some x3)/\
 (∀x1 x2 x3 x4,(qua F s r p q x1 x2 x3 x4)[q]?=some x4)/\(∀L x1 x2 x3 x4,(qua (F++L) s r p q x1 x2 x3 x4)[q]?=some x4)/\
 (∀G x1 x2 x3 x4 y,(qua G s r p q x1 x2 x3 x4).set s y=qua G s r p q y x2 x3 x4)/\(∀G x1 x2 x3 x4 y,(qua G s r p q x1 x2 x3 x4).set r y=qua G s r p q x1 y x3 x4)/\
 (∀G x1 x2 x3 x4 y,(qua G s r p q x1 x2 x3 x4).set p y=qua G s r p q x1 x2 y x4)/\(∀G x1 x2 x3 x4 y,(qua G s r p q x1 x2 x3 x4).set q y=qua G s r p q x1 x2 x3 y)/\
 (∀L x1 x2 x3 x4,(qua (F++L) s r p q x1 x2 x3 x4)[F.length]?=L[0]?)/\(∀L j x1 x2 x3 x4,(qua (F++L) s r p q x1 x2 x3 x4)[F.length+j]?=L[j]?)/\
 (∀L x1 x2 x3 x4 y,(qua (F++L) s r p q x1 x2 x3 x4).set F.length y=qua (F++L.set 0 y) s r p q x1 x2 x3 x4)/\(∀L j x1 x2 x3 x4 y,(qua (F++L) s r p q x1 x2 x3 x4).set (F.length+j) y=qua (F++L.set j y) s r p q x1 x2 x3 x4)/\
 (∀x1 x2 x3 x4,(qua F s r p q x1 x2 x3 x4).take F.length=qua F s r p q x1 x2 x3 x4)/\(∀L x1 x2 x3 x4,(qua (F++L) s r p q x1 x2 x3 x4).take F.length=qua F s r p q x1 x2 x3 x4)/\
 (∀x1 x2 x3 x4,((F.length<=(qua F s r p q x1 x2 x3 x4).length)=True))/\(∀L x1 x2 x3 x4,((F.length<=(qua (F++L) s r p q x1 x2 x3 x4).length)=True)):=by
 have h1:=h.hs
 have h2:=h.hr
 have h3:=h.hp
 have h4:=h.hq
 refine⟨fun _ _ _ _=>zfN,fun L _ _ _ _=>by rw[zfN,YAJ],fun J _ _ _ _=>zfK h J,fun J M _ _ _ _=>by rw[zfK (h.app J),List.append_assoc],
  fun _ _ _ _=>(zfM h).1,fun J _ _ _ _=>(zfM (h.app J)).1,fun _ _ _ _=>(zfM h).2.1,fun J _ _ _ _=>(zfM (h.app J)).2.1,fun _ _ _ _=>(zfM h).2.2.1,fun J _ _ _ _=>(zfM (h.app J)).2.2.1,
  fun _ _ _ _=>(zfM h).2.2.2,fun J _ _ _ _=>(zfM (h.app J)).2.2.2,
  fun _ _ _ _ _ _=>(zfQ h).1,fun _ _ _ _ _ _=>(zfQ h).2.1,fun _ _ _ _ _ _=>(zfQ h).2.2.1,fun _ _ _ _ _ _=>(zfQ h).2.2.2,fun J _ _ _ _=> ?_,fun J j _ _ _ _=> ?_,fun J _ _ _ _ y=> ?_,fun J j _ _ _ _ y=> ?_,
  fun _ _ _ _=> ?_,fun J _ _ _ _=> ?_,fun _ _ _ _=>by simp,fun J _ _ _ _=>by simp⟩
 ·rw[zfP (by omega) (by omega) (by omega) (by omega),zCT rfl]
 ·rw[zfP (by omega) (by omega) (by omega) (by omega),zCU rfl]
 ·rw[zfO (by omega) (by omega) (by omega) (by omega),zCX rfl]
 ·rw[zfO (by omega) (by omega) (by omega) (by omega),zCY rfl]
 ·rw[List.take_of_length_le];rw[zfN];exact YAV _
 ·rw[<-zfK h J,List.take_left' zfN]
def dH(F:List AObj)(s r p q v:Nat)(L:Mem)(lim cnt rd:Int)(u:Nat)(S:St)(lim2 cnt2:Int):List AObj:=qua F s r p q (bxS r v L.length lim cnt rd) (arS v L) (bxR q u S.length lim2 cnt2) (arR u S)
theorem dH_S(F:List AObj)(v:Nat)(L:Mem)(lim cnt rd:Int)(u:Nat)(S:St)(lim2 cnt2:Int):dH F s r p q v L lim cnt rd u S lim2 cnt2=hpS ((F.set p (bxR q u S.length lim2 cnt2)).set q (arR u S)) s r v L lim cnt rd:=rfl
theorem dH_R(hD:QuaD F s r p q)(v:Nat)(L:Mem)(lim cnt rd:Int)(u:Nat)(S:St)(lim2 cnt2:Int):dH F s r p q v L lim cnt rd u S lim2 cnt2=hpR ((F.set s (bxS r v L.length lim cnt rd)).set r (arS v L)) p q u S lim2 cnt2:=by
 obtain⟨_,_,_,_,⟨a1,a2,a3⟩,b1,b2,b3⟩:=hD
 unfold dH hpR qua stF
 rw[List.set_comm (i:=q) (j:=s) _ _ (fun e=>a3 e.symm),List.set_comm (i:=p) (j:=s) _ _ (fun e=>a2 e.symm),List.set_comm (i:=q) (j:=r) _ _ (fun e=>b2 e.symm),List.set_comm (i:=p) (j:=r) _ _ (fun e=>b1 e.symm)]
theorem dS{f:Nat}{args:List AV}{res:AV}{v v':Nat}{L L':Mem}{lim cnt rd lim' cnt' rd':Int}(h:∀G:List AObj,s<G.length->r<G.length->zAd Try.prog f args (hpS G s r v L lim cnt rd) res (hpS G s r v' L' lim' cnt' rd'))
 (hD:QuaD F s r p q) (u:Nat) (S:St) (lim2 cnt2:Int):zAd Try.prog f args (dH F s r p q v L lim cnt rd u S lim2 cnt2) res (dH F s r p q v' L' lim' cnt' rd' u S lim2 cnt2):=
 h _ (by simpa using hD.hs) (by simpa using hD.hr)
theorem dR{f:Nat}{args:List AV}{res:AV}{u u':Nat}{S S':St}{lim2 cnt2 lim' cnt':Int}(h:∀G:List AObj,p<G.length->q<G.length->zAd Try.prog f args (hpR G p q u S lim2 cnt2) res (hpR G p q u' S' lim' cnt'))
 (hD:QuaD F s r p q) (v:Nat) (L:Mem) (lim cnt rd:Int):zAd Try.prog f args (dH F s r p q v L lim cnt rd u S lim2 cnt2) res (dH F s r p q v L lim cnt rd u' S' lim' cnt'):=by
 rw[dH_R hD,dH_R hD]
 exact h _ (by simpa using hD.hp) (by simpa using hD.hq)
theorem zfL(hD:QuaD F s r p q){b:Nat}{x1 x2 x3 x4 y1 y2 y3 y4:AObj}(h1:x1.bel b=true->y1.bel b=true)(h2:y2.bel b=true)(h3:x3.bel b=true->y3.bel b=true)(h4:y4.bel b=true)
 (hb:∀x∈(qua F s r p q x1 x2 x3 x4).take b,x.bel b=true):∀x∈(qua F s r p q y1 y2 y3 y4).take b,x.bel b=true:=by
 have hs:=hD.hs
 have hr:=hD.hr
 have hp:=hD.hp
 have hq:=hD.hq
 have k1:=zXA (F:=(F.set p x3).set q x4) (s:=s) (r:=r) (by simpa using hs) (by simpa using hr) (fun e=>hD.d1.1 e.symm) (fun _ h=>h1 h) h2 hb
 have e1:∀y3 y4,qua F s r p q y1 y2 y3 y4=stF ((F.set s y1).set r y2) p q y3 y4:=fun y3 y4=>by
  obtain⟨_,_,_,_,⟨a1,a2,a3⟩,b1,b2,b3⟩:=hD
  unfold qua stF
  rw[List.set_comm (i:=q) (j:=s) _ _ (fun e=>a3 e.symm),List.set_comm (i:=p) (j:=s) _ _ (fun e=>a2 e.symm),List.set_comm (i:=q) (j:=r) _ _ (fun e=>b2 e.symm),List.set_comm (i:=p) (j:=r) _ _ (fun e=>b1 e.symm)]
 change∀x∈(qua F s r p q y1 y2 x3 x4).take b,x.bel b=true at k1
 rw[e1]at k1⊢
 exact zXA (by simpa using hp) (by simpa using hq) (fun e=>hD.d2.2.2 e.symm) (fun _ h=>h3 h) h4 k1
theorem dB(hD:QuaD F s r p q){b v v' v2 v2' u u' u2 u2' n n' m m':Nat}{L L':Mem}{S S':St}{lim cnt rd lim2 cnt2 lim' cnt' rd' lim2' cnt2':Int}(hb:∀x∈(qua F s r p q (bxS r v n lim cnt rd) (arS v2 L) (bxR q u m lim2 cnt2) (arR u2 S)).take b,x.bel b=true):
 ∀x∈(qua F s r p q (bxS r v' n' lim' cnt' rd') (arS v2' L') (bxR q u' m' lim2' cnt2') (arR u2' S')).take b,x.bel b=true:=
 zfL hD (fun h=>zD1 h) (zCa _ _ _) (fun h=>zeB h) (zd4 _ _ _) hb
end
end Go.Proofs.Ytdngjamjccjlmaa
