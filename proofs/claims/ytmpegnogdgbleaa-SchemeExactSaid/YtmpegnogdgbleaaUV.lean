/- Walks: a graph of nodes with kids: make, root. No condition. -/
import Derived.Test.YtmpegnogdgbleaaE7
import Derived.Test.YtmpegnogdgbleaaPUb
set_option linter.unusedSimpArgs false
set_option linter.unusedVariables false
set_option maxHeartbeats 4000000
set_option maxRecDepth 100000
namespace Go.Proofs.Ytmpegnogdgbleaa
open Go Go.Ab
open Nat renaming reduceEqDiff -> yA, reduceAdd -> yB, reduceLT -> yC, reduceLeDiff -> yD, reduceMul -> yE, reducePow -> yF, reduceBEq -> yG
open AV renaming belL -> yO, bel -> yN, normL -> yQ, norm -> yP
open AObj renaming bel -> yR
attribute [local irreducible] zA0 zAA zAa zAi zAj GoIf GoGb zAk GoO GoD GoX GoDX GoG GoDG GoGv zAl Go zAB
def natA(j:Nat):AV:= .int .i64 j
def embK(p:Nd):AV:= .agg [.int .i64 p.1,.int .i64 p.2.1,.sl (p.2.2.map natA) .no]
theorem zjg(m:Nat):∀l:List Nat,AV.belL m (l.map natA)=true
 | []=>rfl
 |k::l=>by simp only[List.map_cons,yO,zjg m l,natA,yN,Bool.and_self]
theorem ziL(m:Nat)(p:Nd):(embK p).bel m=true:=by simp only[embK,yN,yO,zjg,Bool.and_self]
theorem zjX(m:Nat):∀N:List Nd,AV.belL m (N.map embK)=true
 | []=>rfl
 |p::N=>by simp only[List.map_cons,yO,ziL,zjX m N,Bool.and_self]
theorem zjY{N:List Nd}{n:Nat}(h:n<N.length):(N.map embK).getD n .any= .agg [.int .i64 (knd N n),.int .i64 (lnk N n:Nat),.sl ((kds N n).map natA) .no]:=by
 simp only[YAF,List.getElem?_map,YAI h,Option.map_some,Option.getD_some,knd,lnk,kds]
 rfl
theorem zjZ{N:List Nd}{n:Nat}(m:Nat):(N.map embK).set n (.agg [.int .i64 (knd N n),.int .i64 m,.sl ((kds N n).map natA) .no])=(setL N n m).map embK:=by
 rw[setL,List.map_set];rfl
def mz(A:List (Int×Nat)):List (Int×Int):=A.map fun p=>(p.1,(p.2:Int))
theorem zje(A:List (Int×Nat))(n:Int):mget (mz A) n=(zjU A n).map fun i:Nat=>(i:Int):=by
 induction A with
 |nil=>rfl
 |cons p A ih=>
  simp only[mz,List.map_cons,mget,zjU]
  split
  ·rfl
  ·exact ih
def hpK(F:List AObj)(g q c a b d v:Nat)(N:List Nd)(A B:List (Int×Nat))(x3 x6:AObj):List AObj:=
 sxd F g q c a b d (.box [.ms q v N.length,.mp a,.mp b]) (.arr v 3 (N.map embK)) x3 (.map (embM (mz A))) (.map (embM (mz B))) x6
section
variable {F : List AObj} {g q c a b d : Nat} {x3 x6 : AObj}
theorem krB{bb v v' v1 v2 n n' z:Nat}{es:List AV}{M1 M2:List (AV×AV)}{N':List Nd}{A' B':List (Int×Int)}(h:SxdD F g q c a b d)
 (hb:∀x∈(sxd F g q c a b d (.box [.ms q v n,.mp a,.mp b]) (.arr v1 z es) x3 (.map M1) (.map M2) x6).take bb,x.bel bb=true):∀x∈(sxd F g q c a b d (.box [.ms q v' n',.mp a,.mp b]) (.arr v2 3 (N'.map embK)) x3 (.map (embM A')) (.map (embM B')) x6).take bb,x.bel bb=true:=
 zXz h (fun h=>by simpa only[yR,yO,yN]using h) (by simp only[yR,zjX]) (zGW _ _) (zGW _ _) id hb
theorem zi4(hD:SxdD F g q c a b d)(k:Int)(ks:List Nat)(v:Nat)(N:List Nd)(A B:List (Int×Nat))(hN:N.length<=1000000):
 zAd Try.prog 71 [.bptr g 0,.int .i64 k,.sl (ks.map natA) .no] (hpK F g q c a b d v N A B x3 x6) (.int .i64 N.length) (hpK F g q c a b d (v+1) (addN N k ks) A B x3 x6):=by
 have hP:=sxdP hD
 have w1:IntKind.wrap .i64 (((N.length+1:Nat):Int)-1)=(N.length:Int):=by rw[zbT (by omega) (by omega)];omega
 have r1:(N.length+1<=9223372036854775807)=True:=by simp only[YAb,iff_true];omega
 have r2:((N.length+1)*40<=140737488355328)=True:=by simp only[YAb,iff_true];omega
 have htk:(List.map embK N).take N.length=List.map embK N:=by rw[List.take_of_length_le (by simp)]
 have happ:List.map embK N++ [.agg [.int .i64 k,.int .i64 N.length,.sl (ks.map natA) .no]]=List.map embK (addN N k ks):=by simp[embK,addN]
 have hb:=zjg
 unfold zAd
 refine eD zhK Try.func71 Try.results71 fun ok=> ?_
 have h:=YAN
 repeat' (first
  |(with_reducible first|apply bA|apply bB|apply bC|apply bD|apply bE|apply bF)<;>intro h
  |refine drA zhK 1 0 ?_
  |skip)<;>simp only[h,↓zaL,↓zHC,WY,reduceIte,yA,yB,yC,yD,reduceCtorEq,yE,yF,W1,W1B,WS,zhL,zhJ,yG,hpK,hP,w1,r1,r2,htk,happ,zhf,zjg,YAK,yO,yN,implies_true,zTh,zTg]
 all_goals first|exact fun _=>decide_eq_true hD.hr|trace_state
theorem zjJ(hD:SxdD F g q c a b d)(v:Nat){N0:List Nd}(A B:List (Int×Nat))(g0:Gr N0)(n0:Nat)(hn0:n0<N0.length):
 zAd Try.prog 60 [.bptr g 0,.int .i64 n0] (hpK F g q c a b d v N0 A B x3 x6) (.int .i64 (zkJ N0 n0).2) (hpK F g q c a b d v (zkJ N0 n0).1 A B x3 x6):=by
 have hP:=sxdP hD
 obtain⟨d0,r0,h0⟩:=g0.rt n0 hn0
 have hd:dep N0 n0=d0:=by
  have e:∃d r,Rt N0 d n0 r:=⟨d0,r0,h0⟩
  rw[dep,dif_pos e]
  obtain⟨r',h'⟩:=e.choose_spec
  exact(h'.one h0).1
 rw[zkJ,hd]
 generalize hR:zUD d0 N0 n0=R
 unfold zAd
 refine eD C_ok Try.func60 Try.results60 fun ok=> ?_
 have h:=YAN
 repeat' (first
  |(with_reducible first|apply bA|apply bB|apply bC|apply bD|apply bE|apply bF)<;>intro h
  |refine drA C_ok 2 0 ?_
  |skip)<;>simp only[h,↓zaL,↓zHC,WY,reduceIte,yA,yB,yC,yD,reduceCtorEq,yE,yF,W1,W1B,WS,hpK,hP,yO,yN,zTh,zTg]
 refine zCN [1,0] ?_
 simp only[List.map_cons,List.map_nil,↓zaL,↓zHC,WY,reduceIte,yA,yB,yC,yD,reduceCtorEq,yE,yF,W1,W1B,WS]
 refine zJ1 1 (fun s:List Nd×Nat×Nat=> [(1,.int .i64 s.2.1)]) (fun s=>hpK F g q c a b d v s.1 A B x3 x6) (fun s=>Gr s.1/\s.2.1<s.1.length/\(∃e r,Rt s.1 e s.2.1 r/\e<=s.2.2)/\zUD s.2.2 s.1 s.2.1=R) (fun s=>s.2.2) C_ok (N0,n0,d0) rfl rfl ⟨g0,hn0,⟨d0,r0,h0,YAV _⟩,hR⟩ (by decide) ?_
 rintro⟨N,n,f⟩ ⟨hg,hn,⟨e,r,hr,hef⟩,hF⟩
 simp only at hg hn hr hef hF
 simp only[List.drop_succ_cons,List.drop_zero,List.cons_append,List.nil_append]
 by_cases hl:lnk N n=n
 ·have e1:R=(N,n):=by
   rw[<-hF]
   cases f with
   |zero=>rfl
   |succ f=>rw[zUD,if_pos hl]
  subst e1
  have b0:((lnk N n:Int) !=(n:Int))=false:=by rw[hl];exact YAO _
  have h:=YAN
  repeat' (first
   |(with_reducible first|apply bA|apply bB|apply bC|apply bD|apply bE|apply bF)<;>intro h
   |refine drA C_ok 2 0 ?_
   |skip)<;>simp only[h,↓zaL,↓zHC,WY,reduceIte,yA,yB,yC,yD,reduceCtorEq,yE,yF,W1,W1B,WS,hpK,hP,hn,zjY hn,b0,YAK,yO,yN,zTh,zTg]
 ·have b0:((lnk N n:Int) !=(n:Int))=true:=by rw[bne_iff_ne];omega
  have hm:=hg.ln n hn
  have hm2:=hg.ln _ hm
  have hset:=zjZ (N:=N) (n:=n) (lnk N (lnk N n))
  have hn':n<(setL N n (lnk N (lnk N n))).length:=by rw[zkW];exact hn
  have hgl:lnk (setL N n (lnk N (lnk N n))) n=lnk N (lnk N n):=by rw[zjR hn,if_pos rfl]
  cases f with
  |zero=>
   obtain rfl:e=0:=by omega
   cases hr with
   |here h=>exact absurd h hl
  |succ f=>
   rw[zUD,if_neg hl]at hF
   have sm:=Sm.halve hg hn
   have h:=YAN
   repeat' (first
    |(with_reducible first|apply bA|apply bB|apply bC|apply bD|apply bE|apply bF)<;>intro h
    |refine drA C_ok 2 0 ?_
    |skip)<;>simp only[h,↓zaL,↓zHC,WY,reduceIte,yA,yB,yC,yD,reduceCtorEq,yE,yF,W1,W1B,WS,hpK,hP,hn,hm,hn',zjY hn,zjY hm,zjY hn',hgl,hset,b0,YAK,yO,yN,zTh,zTg]
   refine⟨(setL N n (lnk N (lnk N n)),lnk N (lnk N n),f),⟨sm.gr hg,by rw[sm.len];exact hm2,?_,hF⟩,Nat.lt_succ_self f,zap ?_ ?_⟩
   ·cases hr with
    |here h1=>exact absurd h1 hl
    |step h1 h2=>
     cases h2 with
     |here h3=>
      obtain⟨e',he,k⟩:=sm.rt _ _ _ (Rt.here h3)
      exact⟨e',_,by rw[h3]at k⊢;exact k,Nat.le_trans he (YAX _)⟩
     |step h3 h4=>
      obtain⟨e',he,k⟩:=sm.rt _ _ _ h4
      exact⟨e',_,k,by simp only;omega⟩
   ·simp only[hpK,hset,zkW]
   ·simp only[WK,↓zaL,↓zHC,yA,reduceIte,yN,yO,yR,yP,yQ,yB,yC]
end
end Go.Proofs.Ytmpegnogdgbleaa
