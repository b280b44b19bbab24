/- Walks: a graph of nodes with kids: same. No condition. -/
import Derived.Test.YtmpegnogdgbleaaUW
set_option linter.unusedSimpArgs false
set_option linter.unusedVariables false
set_option maxHeartbeats 4000000
set_option maxRecDepth 100000
namespace Go.Proofs.Ytmpegnogdgbleaa
open Go Go.Ab
open Nat renaming reduceEqDiff -> yA, reduceAdd -> yB, reduceLT -> yC, reduceLeDiff -> yD, reduceMul -> yE, reducePow -> yF, reduceBEq -> yG
open Int renaming reduceAdd -> yH, reduceLT -> yI, reduceToNat -> yJ, reduceBEq -> yK, reduceBNe -> yL, reduceLE -> yM
open AV renaming belL -> yO, bel -> yN, normL -> yQ, norm -> yP
open AObj renaming bel -> yR
attribute [local irreducible] zA0 zAA zAa zAi zAj GoIf GoGb zAk GoO GoD GoX GoDX GoG GoDG GoGv zAl Go zAB
def prK(p:Nat×Nat):AV:= .agg [.int .i64 p.1,.int .i64 p.2]
theorem zj6(m:Nat):∀l:List (Nat×Nat),AV.belL m (l.map prK)=true
 | []=>rfl
 |p::l=>by simp only[List.map_cons,yO,zj6 m l,prK,yN,Bool.and_self]
theorem zj5(l:List (Nat×Nat))(a c:Nat):List.map prK l++ [AV.agg [.int .i64 a,.int .i64 c]]=List.map prK (l++ [(a,c)]):=by simp[prK]
def CZT:Cfg:= {C with inpl:=fun d=>d==16||d==134,zfr:=some (0,0),zld:=[(36,1)]}
theorem zhc:zAb Try.prog CZT:=C_ok
theorem zhd(t:Nat):CZT.ty t=C.ty t:=rfl
theorem zhb(t:Nat):CZT.inpl t=(t==16||t==134):=rfl
theorem zlZ(s:AState):ZLd CZT s=∃r0,s.env 0= .bptr r0 0/\LdOK r0 0 (s.env 36) 1:=by simp[ZLd,CZT]
theorem zlP{F:List AObj}{g q c a b d n:Nat}{e:Nat->AV}{l:List (Nat×AV)}{A:AObj}{B:List AObj}{x1 x2 x3 x4 x5 x6:AObj}(hD:SxdD F g q c a b d)(h:∀p∈l,e p.1=p.2\/(e p.1).norm=p.2)(h1:∀p∈l,p.2.bel (F.length+1)=true)(hA:A.bel (F.length+1)=true):
 Weak (FS e (sxd (F++A::B) g q c a b d x1 x2 x3 x4 x5 x6) F.length n) (FS (envL l) (sxd (F++ [A]) g q c a b d x1 x2 x3 x4 x5 x6) F.length n):=by
 have el:(sxd (F++ [A]) g q c a b d x1 x2 x3 x4 x5 x6).length=F.length+1:=by simp
 refine zaq ?_ (by rw[el];omega) h (by rw[el];exact h1) (by
  rw[el,<-zXy hD,List.drop_left' zV4]
  intro x hx;rw[List.mem_singleton]at hx;rw[hx];exact hA)
 rw[zV4]
 have:F++A::B=(F++ [A])++B:=by simp
 rw[this,<-zXy (hD.app [A]) B,List.take_left' zV4]
structure SaS where
 ver:Nat
 ps:List (Nat×Nat)
 stk:List (Nat×Nat)
 f:Nat
 N:List Nd
structure SaI (len:Nat) (R:Bool×List Nd) (x:SaS):Prop where
 gr:Gr x.N
 ar:Ar x.N
 ln:x.N.length=len
 lt:∀p∈x.stk,p.1<len/\p.2<len
 fu:3*rts x.N+x.stk.length<=x.f
 fb:x.f<=4000000
 es:x.ps.take x.stk.length=x.stk.reverse
 run:zkQ x.f x.N x.stk=R
theorem zhk{N:List Nd}(a:Ar N){x y:Nat}(h:knd N x=knd N y):(kds N x=[]/\kds N y=[])\/(∃i j,kds N x=[i]/\kds N y=[j])\/∃i j k l,kds N x=[i,j]/\kds N y=[k,l]:=by
 have h1:=a x
 have h2:=a y
 have h3:=zhj (knd N x)
 rw[<-h]at h2
 generalize kds N x=L at*
 generalize kds N y=M at*
 generalize ar (knd N x)=m at*
 match m,h3 with
 |0,_=>exact .inl ⟨List.eq_nil_of_length_eq_zero h1,List.eq_nil_of_length_eq_zero h2⟩
 |1,_=>
  obtain⟨i,rfl⟩:=List.length_eq_one_iff.1 h1
  obtain⟨j,rfl⟩:=List.length_eq_one_iff.1 h2
  exact .inr (.inl ⟨i,j,rfl,rfl⟩)
 |2,_=>
  match L,M,h1,h2 with
  | [i,j],[k,l],_,_=>exact .inr (.inr ⟨i,j,k,l,rfl,rfl⟩)
 |m+3,h=>omega
theorem zkM{N:List Nd}(g:Gr N){n:Nat}(hn:n<N.length):(∃d,Rt N d n (zkJ N n).2)/\Sm N (zkJ N n).1:=zkK g hn
section
variable {F : List AObj} {g q c a b d : Nat} {x3 x6 : AObj}
theorem zil(hD:SxdD F g q c a b d)(v:Nat){N0:List Nd}(A B:List (Int×Nat))(g0:Gr N0)(a0:Ar N0){x0 y0:Nat}(hx0:x0<N0.length)(hy0:y0<N0.length)(hlen:N0.length<=1000000):
 zAd Try.prog 58 [.bptr g 0,.int .i64 x0,.int .i64 y0] (hpK F g q c a b d v N0 A B x3 x6) (.bool (zkQ (3*rts N0+1) N0 [(x0,y0)]).1) (hpK F g q c a b d v (zkQ (3*rts N0+1) N0 [(x0,y0)]).2 A B x3 x6):=by
 have hP:=sxdP hD
 have hrts:rts N0<=N0.length:=by
  unfold rts
  refine Nat.le_trans (List.length_filter_le _ _) ?_
  simp
 have hlR:=(zkS (3*rts N0+1) (td:=[(x0,y0)]) g0 a0 (by simp[hx0,hy0]) (by simp)).len
 generalize hR:zkQ (3*rts N0+1) N0 [(x0,y0)]=R at*
 rw[hpK,hpK,hlR]
 unfold zAd
 refine eD zhc Try.func58 Try.results58 fun ok=> ?_
 have h:=YAN
 repeat' (first
  |(with_reducible first|apply bA|apply bB|apply bC|apply bD|apply bE|apply bF)<;>intro h
  |refine zif (id:=5) zhc mixed [] 0 Try.f58.ntmps (by first|(simp;done)|(simp;omega)) rfl (by kernel_rfl) (by decide) ?_
  |refine zif (id:=11) zhc mixed [] 0 Try.f58.ntmps (by first|(simp;done)|(simp;omega)) rfl (by kernel_rfl) (by decide) ?_
  |skip)<;>simp only[h,↓zaL,↓zHC,WY,reduceIte,yA,yB,yC,yD,reduceCtorEq,yE,yF,W1,W1B,WS,zhd,zhb,yG,Bool.or_false,Bool.false_or,Bool.true_or,Bool.or_true,isMs,zWF,hP,yO,yN,zTh,zTg]
 refine zCN [7,0] ?_
 simp only[List.map_cons,List.map_nil,↓zaL,↓zHC,WY,reduceIte,yA,yB,yC,yD,reduceCtorEq,yE,yF,W1,W1B,WS]
 refine zJ1 1 (fun s:SaS=> [(7,.ms F.length s.ver s.stk.length)]) (fun s=>sxd (F++ [.arr s.ver 2 (s.ps.map prK)]) g q c a b d (.box [.ms q v N0.length,.mp a,.mp b]) (.arr v 3 (s.N.map embK)) x3 (.map (embM (mz A))) (.map (embM (mz B))) x6) (SaI N0.length R) (fun s=>s.f) zhc ⟨0,[(x0,y0)],[(x0,y0)],3*rts N0+1,N0⟩ rfl rfl ⟨g0,a0,rfl,by simp[hx0,hy0],by simp,by simp only;omega,rfl,hR⟩ (by decide) ?_
 rintro⟨ver,ps,stk,f,N⟩ ⟨hg,ha,hl,hlt,hfu,hfb,hes,hrun⟩
 simp only at hg ha hl hlt hfu hfb hes hrun
 simp only[List.drop_succ_cons,List.drop_zero,List.cons_append,List.nil_append]
 cases stk with
 |nil=>
  have e:R=(true,N):=by rw[<-hrun];cases f<;>rfl
  subst e
  have c0:((0:Int)<((0:Nat):Int))=False:=by simp
  simp only[List.length_nil]
  have h:=YAN
  repeat' (first
   |(with_reducible first|apply bA|apply bB|apply bC|apply bD|apply bE|apply bF)<;>intro h
   |refine zif (id:=5) zhc mixed [] 0 Try.f58.ntmps (by first|(simp;done)|(simp;omega)) rfl (by kernel_rfl) (by decide) ?_
   |refine zif (id:=11) zhc mixed [] 0 Try.f58.ntmps (by first|(simp;done)|(simp;omega)) rfl (by kernel_rfl) (by decide) ?_
   |skip)<;>simp only[h,↓zaL,↓zHC,WY,reduceIte,yA,yB,yC,yD,reduceCtorEq,yE,yF,W1,W1B,WS,zhd,zhb,yG,Bool.or_false,Bool.false_or,Bool.true_or,Bool.or_true,isMs,zWF,hP,c0,yO,yN,Int.lt_irrefl,zTh,zTg]
 |cons p stk=>
  obtain⟨p1,p2⟩:=p
  cases f with
  |zero=>simp only[List.length_cons]at hfu;omega
  |succ f=>
  obtain⟨hp1,hp2⟩:=hlt _ YAU
  have hlt':∀p∈stk,p.1<N0.length/\p.2<N0.length:=fun q hq=>hlt q (YAT _ hq)
  simp only at hp1 hp2
  simp only[List.length_cons]at hfu
  have hne':stk.length<ps.length:=by
   have:=congrArg List.length hes
   simp only[List.length_take,List.length_reverse,List.length_cons]at this
   omega
  have hget:(ps.map prK).getD stk.length .any=prK (p1,p2):=by
   have:=congrArg (fun l=>l[stk.length]?) hes
   simp only[List.length_cons]at this
   rw[List.getElem?_take_of_lt (by omega)]at this
   rw[YAF,List.getElem?_map,this]
   simp
  have hes':ps.take stk.length=stk.reverse:=by
   have:=congrArg (List.take stk.length) hes
   rw[List.take_take]at this
   rw[show min stk.length (((p1,p2)::stk).length)=stk.length by simp]at this
   rw[this];simp
  have hA:∀v l,(AObj.arr v 2 (List.map prK l)).bel (F.length+1)=true:=fun v l=>by simp only[yR,zj6]
  have w1:IntKind.wrap .i64 (((stk.length+1:Nat):Int)-1)=(stk.length:Int):=by rw[zbT (by omega) (by omega)];omega
  have c0:((0:Int)<((stk.length+1:Nat):Int))=True:=by simp only[YAb,iff_true];omega
  have c2:((stk.length:Int)<=((stk.length+1:Nat):Int))=True:=by simp only[YAb,iff_true];omega
  have hgl:=hD.hs
  have f0:(F.length=g)=False:=by simp only[YAb,iff_false];omega
  have f1:∀k,(F.length+k=g)=False:=fun k=>by simp only[YAb,iff_false];omega
  have hgF:g<F.length+1:=by omega
  simp only[List.length_cons]
  rw[zkQ]at hrun
  obtain⟨⟨d1,e1⟩,s1⟩:=zkM hg (n:=p1) (by omega)
  have q1:=fun F hD=>zjJ (F:=F) (g:=g) (q:=q) (c:=c) (a:=a) (b:=b) (d:=d) (x3:=x3) (x6:=x6) hD v A B hg p1 (by omega)
  generalize zkJ N p1=r1 at e1 s1 hrun q1
  obtain⟨N1,x⟩:=r1
  simp only at e1 s1 hrun q1
  have g1:=s1.gr hg
  have h1l:N1.length=N0.length:=by rw[s1.len];exact hl
  obtain⟨⟨d2,e2⟩,s2⟩:=zkM g1 (n:=p2) (by omega)
  have q2:=fun F hD=>zjJ (F:=F) (g:=g) (q:=q) (c:=c) (a:=a) (b:=b) (d:=d) (x3:=x3) (x6:=x6) hD v A B g1 p2 (by omega)
  generalize zkJ N1 p2=r2 at e2 s2 hrun q2
  obtain⟨N2,y⟩:=r2
  simp only at e2 s2 hrun q2
  have s:=s1.trans s2
  have g2:=s2.gr g1
  have h2l:N2.length=N0.length:=by rw[s2.len];exact h1l
  have hx:x<N2.length:=by rw[s.len];exact hg.zkO e1 (by omega)
  have hy:y<N2.length:=by rw[s2.len];exact g1.zkO e2 (by omega)
  have hxn:x<N0.length:=by rw[<-h2l];exact hx
  have hyn:y<N0.length:=by rw[<-h2l];exact hy
  have lx:lnk N2 x=x:=(s.lk x (by rw[<-s.len];exact hx)).2 e1.root
  have ly:lnk N2 y=y:=(s2.lk y (by rw[<-s2.len];exact hy)).2 e2.root
  have a2:Ar N2:=fun n=>by rw[s.ks,s.kd];exact ha n
  have hrt:rts N2=rts N:=s.rts
  simp only[hpK,hl,h1l,h2l]at q1 q2
  clear hR hx0 hy0 e1 e2 s1 s2 g1
  by_cases hxy:x=y
  ·rw[if_pos hxy]at hrun
   have b0:((x:Int)==(y:Int))=true:=by rw[hxy];exact beq_self_eq_true _
   have hxs:=hx
   have hys:=hy
   have h:=YAN
   repeat' (first
    |(with_reducible first|apply bA|apply bB|apply bC|apply bD|apply bE|apply bF)<;>intro h
    |((first|apply bG|apply bH);simp only[yP,yQ,W2,W2B,W3,yH,yI,yJ,yK,yL,yM,zhd,zhb,zlZ,exB,exB0,zjO,zjP,f0,f1,yG,Bool.or_false,Bool.false_or,Bool.true_or,Bool.or_true,isMs,zWF,hP,prK,hx,hy,hxn,hyn,hxs,hys,zjY hx,zjY hy,w1,c0,c2,hget,hne',YAK,h2l,implies_true,yN,yO,zTh,zTg,b0];first|refine zIl rfl (zfrI rfl rfl (zik (hD.app _))) (q1 _ (hD.app _)) (.inl rfl) (fun hb=>krB (hD.app _) hb) ?_|refine zIl rfl (zfrI rfl rfl (zik hD)) (q1 _ hD) (.inl rfl) (fun hb=>krB hD hb) ?_|refine zIl rfl (zfrI rfl rfl (zik (hD.app _))) (q2 _ (hD.app _)) (.inl rfl) (fun hb=>krB (hD.app _) hb) ?_|refine zIl rfl (zfrI rfl rfl (zik hD)) (q2 _ hD) (.inl rfl) (fun hb=>krB hD hb) ?_)
    |refine zif (id:=5) zhc mixed [] 0 Try.f58.ntmps (by first|(simp;done)|(simp;omega)) rfl (by kernel_rfl) (by decide) ?_
    |refine zif (id:=11) zhc mixed [] 0 Try.f58.ntmps (by first|(simp;done)|(simp;omega)) rfl (by kernel_rfl) (by decide) ?_
    |refine zJ9 ?_ zhc Try.f58.ntmps rfl (by decide)
    |skip)<;>simp only[h,↓zaL,↓zHC,WY,reduceIte,yA,yB,yC,yD,reduceCtorEq,yE,yF,W1,W1B,WS,W3,yH,yI,yJ,yK,yL,yM,zhd,zhb,zlZ,exB,exB0,zjO,zjP,f0,f1,yG,Bool.or_false,Bool.false_or,Bool.true_or,Bool.or_true,isMs,zWF,hP,prK,hx,hy,hxn,hyn,hxs,hys,zjY hx,zjY hy,w1,c0,c2,hget,hne',YAK,h2l,implies_true,yN,yO,zTh,zTg,b0,zFY]
   refine⟨⟨ver,ps,stk,f,N2⟩,⟨g2,a2,h2l,hlt',by simp only;omega,by simp only;omega,hes',hrun⟩,Nat.lt_succ_self f,zlP hD ?_ ?_ (hA _ _)⟩
   ·simp only[WK,↓zaL,↓zHC,yA,reduceIte,yN,yO,yR,yP,yQ,yB,yC]
   ·simp only[WK,↓zaL,↓zHC,yA,reduceIte,yN,yO,yR,yP,yQ,yB,yC]
    exact hgF
  rw[if_neg hxy]at hrun
  have b0:((x:Int)==(y:Int))=false:=by rw[YAZ];omega
  have jx:=zkP hx hxy lx (y:=y)
  have jy:=zkP hy (Ne.symm hxy) ly (y:=x)
  have hset1:=zjZ (N:=N2) (n:=x) y
  have hset2:=zjZ (N:=N2) (n:=y) x
  have gx:=g2.join hx hy hxy lx ly
  have gy:=g2.join hy hx (Ne.symm hxy) ly lx
  by_cases hkx:knd N2 x=0
  ·rw[if_pos hkx]at hrun
   have b1:(knd N2 x==0)=true:=by rw[hkx];rfl
   have hxs:=hx
   have hys:=hy
   have h:=YAN
   repeat' (first
    |(with_reducible first|apply bA|apply bB|apply bC|apply bD|apply bE|apply bF)<;>intro h
    |((first|apply bG|apply bH);simp only[yP,yQ,W2,W2B,W3,yH,yI,yJ,yK,yL,yM,zhd,zhb,zlZ,exB,exB0,zjO,zjP,f0,f1,yG,Bool.or_false,Bool.false_or,Bool.true_or,Bool.or_true,isMs,zWF,hP,prK,hx,hy,hxn,hyn,hxs,hys,zjY hx,zjY hy,w1,c0,c2,hget,hne',YAK,h2l,implies_true,yN,yO,zTh,zTg,b0,b1,hset1];first|refine zIl rfl (zfrI rfl rfl (zik (hD.app _))) (q1 _ (hD.app _)) (.inl rfl) (fun hb=>krB (hD.app _) hb) ?_|refine zIl rfl (zfrI rfl rfl (zik hD)) (q1 _ hD) (.inl rfl) (fun hb=>krB hD hb) ?_|refine zIl rfl (zfrI rfl rfl (zik (hD.app _))) (q2 _ (hD.app _)) (.inl rfl) (fun hb=>krB (hD.app _) hb) ?_|refine zIl rfl (zfrI rfl rfl (zik hD)) (q2 _ hD) (.inl rfl) (fun hb=>krB hD hb) ?_)
    |refine zif (id:=5) zhc mixed [] 0 Try.f58.ntmps (by first|(simp;done)|(simp;omega)) rfl (by kernel_rfl) (by decide) ?_
    |refine zif (id:=11) zhc mixed [] 0 Try.f58.ntmps (by first|(simp;done)|(simp;omega)) rfl (by kernel_rfl) (by decide) ?_
    |refine zJ9 ?_ zhc Try.f58.ntmps rfl (by decide)
    |skip)<;>simp only[h,↓zaL,↓zHC,WY,reduceIte,yA,yB,yC,yD,reduceCtorEq,yE,yF,W1,W1B,WS,W3,yH,yI,yJ,yK,yL,yM,zhd,zhb,zlZ,exB,exB0,zjO,zjP,f0,f1,yG,Bool.or_false,Bool.false_or,Bool.true_or,Bool.or_true,isMs,zWF,hP,prK,hx,hy,hxn,hyn,hxs,hys,zjY hx,zjY hy,w1,c0,c2,hget,hne',YAK,h2l,implies_true,yN,yO,zTh,zTg,b0,b1,hset1,zFY]
   refine⟨⟨ver,ps,stk,f,setL N2 x y⟩,⟨gx,fun n=>by rw[zi2 hx,zi6 hx];exact a2 n,by simp only[zkW];exact h2l,hlt',by simp only;omega,by simp only;omega,hes',hrun⟩,Nat.lt_succ_self f,zlP hD ?_ ?_ (hA _ _)⟩
   ·simp only[WK,↓zaL,↓zHC,yA,reduceIte,yN,yO,yR,yP,yQ,yB,yC]
   ·simp only[WK,↓zaL,↓zHC,yA,reduceIte,yN,yO,yR,yP,yQ,yB,yC]
    exact hgF
  rw[if_neg hkx]at hrun
  have b1:(knd N2 x==0)=false:=by rw[YAZ];exact hkx
  by_cases hky:knd N2 y=0
  ·rw[if_pos hky]at hrun
   have b2:(knd N2 y==0)=true:=by rw[hky];rfl
   have hxs:=hx
   have hys:=hy
   have h:=YAN
   repeat' (first
    |(with_reducible first|apply bA|apply bB|apply bC|apply bD|apply bE|apply bF)<;>intro h
    |((first|apply bG|apply bH);simp only[yP,yQ,W2,W2B,W3,yH,yI,yJ,yK,yL,yM,zhd,zhb,zlZ,exB,exB0,zjO,zjP,f0,f1,yG,Bool.or_false,Bool.false_or,Bool.true_or,Bool.or_true,isMs,zWF,hP,prK,hx,hy,hxn,hyn,hxs,hys,zjY hx,zjY hy,w1,c0,c2,hget,hne',YAK,h2l,implies_true,yN,yO,zTh,zTg,b0,b1,b2,hset2];first|refine zIl rfl (zfrI rfl rfl (zik (hD.app _))) (q1 _ (hD.app _)) (.inl rfl) (fun hb=>krB (hD.app _) hb) ?_|refine zIl rfl (zfrI rfl rfl (zik hD)) (q1 _ hD) (.inl rfl) (fun hb=>krB hD hb) ?_|refine zIl rfl (zfrI rfl rfl (zik (hD.app _))) (q2 _ (hD.app _)) (.inl rfl) (fun hb=>krB (hD.app _) hb) ?_|refine zIl rfl (zfrI rfl rfl (zik hD)) (q2 _ hD) (.inl rfl) (fun hb=>krB hD hb) ?_)
    |refine zif (id:=5) zhc mixed [] 0 Try.f58.ntmps (by first|(simp;done)|(simp;omega)) rfl (by kernel_rfl) (by decide) ?_
    |refine zif (id:=11) zhc mixed [] 0 Try.f58.ntmps (by first|(simp;done)|(simp;omega)) rfl (by kernel_rfl) (by decide) ?_
    |refine zJ9 ?_ zhc Try.f58.ntmps rfl (by decide)
    |skip)<;>simp only[h,↓zaL,↓zHC,WY,reduceIte,yA,yB,yC,yD,reduceCtorEq,yE,yF,W1,W1B,WS,W3,yH,yI,yJ,yK,yL,yM,zhd,zhb,zlZ,exB,exB0,zjO,zjP,f0,f1,yG,Bool.or_false,Bool.false_or,Bool.true_or,Bool.or_true,isMs,zWF,hP,prK,hx,hy,hxn,hyn,hxs,hys,zjY hx,zjY hy,w1,c0,c2,hget,hne',YAK,h2l,implies_true,yN,yO,zTh,zTg,b0,b1,b2,hset2,zFY]
   refine⟨⟨ver,ps,stk,f,setL N2 y x⟩,⟨gy,fun n=>by rw[zi2 hy,zi6 hy];exact a2 n,by simp only[zkW];exact h2l,hlt',by simp only;omega,by simp only;omega,hes',hrun⟩,Nat.lt_succ_self f,zlP hD ?_ ?_ (hA _ _)⟩
   ·simp only[WK,↓zaL,↓zHC,yA,reduceIte,yN,yO,yR,yP,yQ,yB,yC]
   ·simp only[WK,↓zaL,↓zHC,yA,reduceIte,yN,yO,yR,yP,yQ,yB,yC]
    exact hgF
  rw[if_neg hky]at hrun
  have b2:(knd N2 y==0)=false:=by rw[YAZ];exact hky
  by_cases hkk:knd N2 x=knd N2 y
  ·rw[if_neg (by simp[hkk])]at hrun
   have b3:(knd N2 x !=knd N2 y)=false:=by rw[bne_eq_false_iff_eq];exact hkk
   have hxs:x<(setL N2 x y).length:=by rw[zkW];exact hx
   have hys:y<(setL N2 x y).length:=by rw[zkW];exact hy
   have mx:=zjY hxs
   have my:=zjY hys
   rw[zi2 hx]at mx my
   have ax:Ar (setL N2 x y):=fun n=>by rw[zi2 hx,zi6 hx];exact a2 n
   have v0:IntKind.wrap .i64 (1-1)=0:=by decide
   have u0:((0:Int)<=0)=True:=by simp
   have htk:List.take stk.length (List.map prK ps)=List.map prK stk.reverse:=by rw[<-List.map_take,hes']
   have m1:(stk.length+1<=9223372036854775807)=True:=by simp only[YAb,iff_true];omega
   have m2:((stk.length+1)*16<=140737488355328)=True:=by simp only[YAb,iff_true];omega
   have hle:(stk.length<=ps.length)=True:=by simp only[YAb,iff_true];omega
   have kx:=fun k hk=>g2.kd x hx k hk
   have ky:=fun k hk=>g2.kd y hy k hk
   rcases zhk a2 hkk with ⟨k1,k2⟩|⟨i,j,k1,k2⟩|⟨i,j,k,l,k1,k2⟩
   ·rw[k1]at mx kx hrun hset1
    rw[k2]at my ky hrun
    simp only[List.map_nil]at mx my hset1
    have hset2:(List.map embK N2).set x (zTS (emb (.mk (knd N2 x) (lnk N2 x:Nat) [])) [.int .i64 (knd N2 x),.int .i64 y,.sl [] .no])=List.map embK (setL N2 x y):=hset1
    have h:=YAN
    repeat' (first
     |(with_reducible first|apply bA|apply bB|apply bC|apply bD|apply bE|apply bF)<;>intro h
     |((first|apply bG|apply bH);simp only[yP,yQ,W2,W2B,W3,yH,yI,yJ,yK,yL,yM,zhd,zhb,zlZ,exB,exB0,zjO,zjP,f0,f1,yG,Bool.or_false,Bool.false_or,Bool.true_or,Bool.or_true,isMs,zWF,hP,prK,hx,hy,hxn,hyn,hxs,hys,zjY hx,zjY hy,w1,c0,c2,hget,hne',YAK,h2l,implies_true,yN,yO,zTh,zTg,b0,b1,b2,b3,hset2,zGy,mx,my,k1,k2,List.map_nil];first|refine zIl rfl (zfrI rfl rfl (zik (hD.app _))) (q1 _ (hD.app _)) (.inl rfl) (fun hb=>krB (hD.app _) hb) ?_|refine zIl rfl (zfrI rfl rfl (zik hD)) (q1 _ hD) (.inl rfl) (fun hb=>krB hD hb) ?_|refine zIl rfl (zfrI rfl rfl (zik (hD.app _))) (q2 _ (hD.app _)) (.inl rfl) (fun hb=>krB (hD.app _) hb) ?_|refine zIl rfl (zfrI rfl rfl (zik hD)) (q2 _ hD) (.inl rfl) (fun hb=>krB hD hb) ?_)
     |refine zif (id:=5) zhc mixed [] 0 Try.f58.ntmps (by first|(simp;done)|(simp;omega)) rfl (by kernel_rfl) (by decide) ?_
     |refine zif (id:=11) zhc mixed [] 0 Try.f58.ntmps (by first|(simp;done)|(simp;omega)) rfl (by kernel_rfl) (by decide) ?_
     |refine zJ9 ?_ zhc Try.f58.ntmps rfl (by decide)
     |skip)<;>simp only[h,↓zaL,↓zHC,WY,reduceIte,yA,yB,yC,yD,reduceCtorEq,yE,yF,W1,W1B,WS,W3,yH,yI,yJ,yK,yL,yM,zhd,zhb,zlZ,exB,exB0,zjO,zjP,f0,f1,yG,Bool.or_false,Bool.false_or,Bool.true_or,Bool.or_true,isMs,zWF,hP,prK,hx,hy,hxn,hyn,hxs,hys,zjY hx,zjY hy,w1,c0,c2,hget,hne',YAK,h2l,implies_true,yN,yO,zTh,zTg,b0,b1,b2,b3,hset2,zGy,mx,my,k1,k2,List.map_nil,zFY]
    refine⟨⟨ver,ps,stk,f,setL N2 x y⟩,⟨gx,ax,by simp only[zkW];exact h2l,hlt',by simp only;omega,by simp only;omega,hes',hrun⟩,Nat.lt_succ_self f,zlP hD ?_ ?_ (hA _ _)⟩
    ·simp only[WK,↓zaL,↓zHC,yA,reduceIte,yN,yO,yR,yP,yQ,yB,yC]
    ·simp only[WK,↓zaL,↓zHC,yA,reduceIte,yN,yO,yR,yP,yQ,yB,yC]
     exact hgF
   ·rw[k1]at mx kx hrun hset1
    rw[k2]at my ky hrun
    simp only[List.map_cons,List.map_nil,natA]at mx my hset1
    have h:=YAN
    repeat' (first
     |(with_reducible first|apply bA|apply bB|apply bC|apply bD|apply bE|apply bF)<;>intro h
     |((first|apply bG|apply bH);simp only[yP,yQ,W2,W2B,W3,yH,yI,yJ,yK,yL,yM,zhd,zhb,zlZ,exB,exB0,zjO,zjP,f0,f1,yG,Bool.or_false,Bool.false_or,Bool.true_or,Bool.or_true,isMs,zWF,hP,prK,hx,hy,hxn,hyn,hxs,hys,zjY hx,zjY hy,w1,c0,c2,hget,hne',YAK,h2l,implies_true,yN,yO,zTh,zTg,b0,b1,b2,b3,hset1,mx,my,k1,k2,List.map_cons,List.map_nil,natA,hle,List.length_reverse,u0,v0,m1,m2,htk,zj5];first|refine zIl rfl (zfrI rfl rfl (zik (hD.app _))) (q1 _ (hD.app _)) (.inl rfl) (fun hb=>krB (hD.app _) hb) ?_|refine zIl rfl (zfrI rfl rfl (zik hD)) (q1 _ hD) (.inl rfl) (fun hb=>krB hD hb) ?_|refine zIl rfl (zfrI rfl rfl (zik (hD.app _))) (q2 _ (hD.app _)) (.inl rfl) (fun hb=>krB (hD.app _) hb) ?_|refine zIl rfl (zfrI rfl rfl (zik hD)) (q2 _ hD) (.inl rfl) (fun hb=>krB hD hb) ?_)
     |refine zif (id:=5) zhc mixed [] 0 Try.f58.ntmps (by first|(simp;done)|(simp;omega)) rfl (by kernel_rfl) (by decide) ?_
     |refine zif (id:=11) zhc mixed [] 0 Try.f58.ntmps (by first|(simp;done)|(simp;omega)) rfl (by kernel_rfl) (by decide) ?_
     |refine zJ9 ?_ zhc Try.f58.ntmps rfl (by decide)
     |skip)<;>simp only[h,↓zaL,↓zHC,WY,reduceIte,yA,yB,yC,yD,reduceCtorEq,yE,yF,W1,W1B,WS,W3,yH,yI,yJ,yK,yL,yM,zhd,zhb,zlZ,exB,exB0,zjO,zjP,f0,f1,yG,Bool.or_false,Bool.false_or,Bool.true_or,Bool.or_true,isMs,zWF,hP,prK,hx,hy,hxn,hyn,hxs,hys,zjY hx,zjY hy,w1,c0,c2,hget,hne',YAK,h2l,implies_true,yN,yO,zTh,zTg,b0,b1,b2,b3,hset1,mx,my,k1,k2,List.map_cons,List.map_nil,natA,hle,List.length_reverse,u0,v0,m1,m2,htk,zj5,zFY]
    refine⟨⟨ver+1,stk.reverse++ [(i,j)],(i,j)::stk,f,setL N2 x y⟩,⟨gx,ax,by simp only[zkW];exact h2l,?_,by simp only[List.length_cons];omega,by simp only;omega,?_,hrun⟩,Nat.lt_succ_self f,zlP hD ?_ ?_ (hA _ _)⟩
    ·intro p hp
     rcases List.mem_cons.1 hp with rfl|hp
     ·exact⟨by rw[<-h2l];exact kx i (by simp),by rw[<-h2l];exact ky j (by simp)⟩
     ·exact hlt' p hp
    ·rw[List.take_of_length_le]<;>simp
    ·simp only[WK,↓zaL,↓zHC,yA,reduceIte,yN,yO,yR,yP,yQ,yB,yC]
    ·simp only[WK,↓zaL,↓zHC,yA,reduceIte,yN,yO,yR,yP,yQ,yB,yC]
     exact hgF
   ·rw[k1]at mx kx hrun hset1
    rw[k2]at my ky hrun
    simp only[List.map_cons,List.map_nil,natA]at mx my hset1
    have m3:(stk.length+1+1<=9223372036854775807)=True:=by simp only[YAb,iff_true];omega
    have m4:((stk.length+1+1)*16<=140737488355328)=True:=by simp only[YAb,iff_true];omega
    have htk2:List.take (stk.length+1) (List.map prK (stk.reverse++ [(i,k)]))=List.map prK (stk.reverse++ [(i,k)]):=by rw[List.take_of_length_le];simp
    have h:=YAN
    repeat' (first
     |(with_reducible first|apply bA|apply bB|apply bC|apply bD|apply bE|apply bF)<;>intro h
     |((first|apply bG|apply bH);simp only[yP,yQ,W2,W2B,W3,yH,yI,yJ,yK,yL,yM,zhd,zhb,zlZ,exB,exB0,zjO,zjP,f0,f1,yG,Bool.or_false,Bool.false_or,Bool.true_or,Bool.or_true,isMs,zWF,hP,prK,hx,hy,hxn,hyn,hxs,hys,zjY hx,zjY hy,w1,c0,c2,hget,hne',YAK,h2l,implies_true,yN,yO,zTh,zTg,b0,b1,b2,b3,hset1,mx,my,k1,k2,List.map_cons,List.map_nil,natA,hle,List.length_reverse,u0,v0,m1,m2,m3,m4,htk,htk2,zj5];first|refine zIl rfl (zfrI rfl rfl (zik (hD.app _))) (q1 _ (hD.app _)) (.inl rfl) (fun hb=>krB (hD.app _) hb) ?_|refine zIl rfl (zfrI rfl rfl (zik hD)) (q1 _ hD) (.inl rfl) (fun hb=>krB hD hb) ?_|refine zIl rfl (zfrI rfl rfl (zik (hD.app _))) (q2 _ (hD.app _)) (.inl rfl) (fun hb=>krB (hD.app _) hb) ?_|refine zIl rfl (zfrI rfl rfl (zik hD)) (q2 _ hD) (.inl rfl) (fun hb=>krB hD hb) ?_)
     |refine zif (id:=5) zhc mixed [] 0 Try.f58.ntmps (by first|(simp;done)|(simp;omega)) rfl (by kernel_rfl) (by decide) ?_
     |refine zif (id:=11) zhc mixed [] 0 Try.f58.ntmps (by first|(simp;done)|(simp;omega)) rfl (by kernel_rfl) (by decide) ?_
     |refine zJ9 ?_ zhc Try.f58.ntmps rfl (by decide)
     |skip)<;>simp only[h,↓zaL,↓zHC,WY,reduceIte,yA,yB,yC,yD,reduceCtorEq,yE,yF,W1,W1B,WS,W3,yH,yI,yJ,yK,yL,yM,zhd,zhb,zlZ,exB,exB0,zjO,zjP,f0,f1,yG,Bool.or_false,Bool.false_or,Bool.true_or,Bool.or_true,isMs,zWF,hP,prK,hx,hy,hxn,hyn,hxs,hys,zjY hx,zjY hy,w1,c0,c2,hget,hne',YAK,h2l,implies_true,yN,yO,zTh,zTg,b0,b1,b2,b3,hset1,mx,my,k1,k2,List.map_cons,List.map_nil,natA,hle,List.length_reverse,u0,v0,m1,m2,m3,m4,htk,htk2,zj5,zFY]
    refine⟨⟨ver+1+1,stk.reverse++ [(i,k),(j,l)],(j,l)::(i,k)::stk,f,setL N2 x y⟩,⟨gx,ax,by simp only[zkW];exact h2l,?_,by simp only[List.length_cons];omega,by simp only;omega,?_,hrun⟩,Nat.lt_succ_self f,zlP hD ?_ ?_ (hA _ _)⟩
    ·intro p hp
     rcases List.mem_cons.1 hp with rfl|hp
     ·exact⟨by rw[<-h2l];exact kx j (by simp),by rw[<-h2l];exact ky l (by simp)⟩
     rcases List.mem_cons.1 hp with rfl|hp
     ·exact⟨by rw[<-h2l];exact kx i (by simp),by rw[<-h2l];exact ky k (by simp)⟩
     ·exact hlt' p hp
    ·rw[List.take_of_length_le]<;>simp
    ·simp only[WK,↓zaL,↓zHC,yA,reduceIte,yN,yO,yR,yP,yQ,yB,yC]
    ·simp only[WK,↓zaL,↓zHC,yA,reduceIte,yN,yO,yR,yP,yQ,yB,yC]
     exact hgF
  ·rw[if_pos hkk]at hrun
   subst hrun
   have b3:(knd N2 x !=knd N2 y)=true:=by rw[bne_iff_ne];exact hkk
   have hxs:=hx
   have hys:=hy
   have h:=YAN
   repeat' (first
    |(with_reducible first|apply bA|apply bB|apply bC|apply bD|apply bE|apply bF)<;>intro h
    |((first|apply bG|apply bH);simp only[yP,yQ,W2,W2B,W3,yH,yI,yJ,yK,yL,yM,zhd,zhb,zlZ,exB,exB0,zjO,zjP,f0,f1,yG,Bool.or_false,Bool.false_or,Bool.true_or,Bool.or_true,isMs,zWF,hP,prK,hx,hy,hxn,hyn,hxs,hys,zjY hx,zjY hy,w1,c0,c2,hget,hne',YAK,h2l,implies_true,yN,yO,zTh,zTg,b0,b1,b2,b3];first|refine zIl rfl (zfrI rfl rfl (zik (hD.app _))) (q1 _ (hD.app _)) (.inl rfl) (fun hb=>krB (hD.app _) hb) ?_|refine zIl rfl (zfrI rfl rfl (zik hD)) (q1 _ hD) (.inl rfl) (fun hb=>krB hD hb) ?_|refine zIl rfl (zfrI rfl rfl (zik (hD.app _))) (q2 _ (hD.app _)) (.inl rfl) (fun hb=>krB (hD.app _) hb) ?_|refine zIl rfl (zfrI rfl rfl (zik hD)) (q2 _ hD) (.inl rfl) (fun hb=>krB hD hb) ?_)
    |refine zif (id:=5) zhc mixed [] 0 Try.f58.ntmps (by first|(simp;done)|(simp;omega)) rfl (by kernel_rfl) (by decide) ?_
    |refine zif (id:=11) zhc mixed [] 0 Try.f58.ntmps (by first|(simp;done)|(simp;omega)) rfl (by kernel_rfl) (by decide) ?_
    |refine zJ9 ?_ zhc Try.f58.ntmps rfl (by decide)
    |skip)<;>simp only[h,↓zaL,↓zHC,WY,reduceIte,yA,yB,yC,yD,reduceCtorEq,yE,yF,W1,W1B,WS,W3,yH,yI,yJ,yK,yL,yM,zhd,zhb,zlZ,exB,exB0,zjO,zjP,f0,f1,yG,Bool.or_false,Bool.false_or,Bool.true_or,Bool.or_true,isMs,zWF,hP,prK,hx,hy,hxn,hyn,hxs,hys,zjY hx,zjY hy,w1,c0,c2,hget,hne',YAK,h2l,implies_true,yN,yO,zTh,zTg,b0,b1,b2,b3,zFY]
end
end Go.Proofs.Ytmpegnogdgbleaa
