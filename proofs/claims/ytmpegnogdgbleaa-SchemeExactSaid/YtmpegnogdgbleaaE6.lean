/- Walks: a graph of nodes without kids. No condition. -/
import Derived.Test.YtmpegnogdgbleaaPEb
import Derived.Test.YtmpegnogdgbleaaPAe
set_option linter.unusedSimpArgs false
set_option linter.unusedVariables false
set_option maxHeartbeats 4000000
set_option maxRecDepth 100000
namespace Go.Proofs.Ytmpegnogdgbleaa
open Go Go.Ab
open Nat renaming reduceEqDiff -> yA, reduceAdd -> yB, reduceLT -> yC, reduceLeDiff -> yD, reduceMul -> yE, reducePow -> yF, reduceBEq -> yG
open Int renaming reduceAdd -> yH, reduceLT -> yI, reduceToNat -> yJ, reduceBEq -> yK, reduceBNe -> yL, reduceLE -> yM
open AV renaming belL -> yO, bel -> yN
open AObj renaming bel -> yR
attribute [local irreducible] zA0 zAA zAa zAi zAj GoIf GoGb zAk GoO GoD GoX GoDX GoG GoDG GoGv zAl Go zAB
abbrev GN:=Int×Int
def embG(p:GN):AV:=emb (.mk p.1 p.2 [])
theorem ziK(p:GN):cellsOf (embG p)=[.int .i64 p.1,.int .i64 p.2,.sl [] .no]:=by rw[embG,zGy];rfl
theorem ziJ(m:Nat)(p:GN):(embG p).bel m=true:=zGx _ _
theorem zjW(m:Nat):∀N:List GN,AV.belL m (N.map embG)=true
 | []=>rfl
 |p::N=>by simp only[List.map_cons,yO,ziJ,zjW m N,Bool.and_self]
def hpG(F:List AObj)(g q c a b d v:Nat)(N:List GN)(A B:List (Int×Int))(x3 x6:AObj):List AObj:=
 sxd F g q c a b d (.box [.ms q v N.length,.mp a,.mp b]) (.arr v 3 (N.map embG)) x3 (.map (embM A)) (.map (embM B)) x6
section
variable {F : List AObj} {g q c a b d : Nat} {x3 x6 : AObj}
theorem grB{bb v v' v1 n z:Nat}{es:List AV}{M1 M2:List (AV×AV)}{N':List GN}{A' B':List (Int×Int)}(h:SxdD F g q c a b d)
 (hb:∀x∈(sxd F g q c a b d (.box [.ms q v n,.mp a,.mp b]) (.arr v1 z es) x3 (.map M1) (.map M2) x6).take bb,x.bel bb=true):∀x∈(hpG F g q c a b d v' N' A' B' x3 x6).take bb,x.bel bb=true:=
 zXz h (fun h=>by simpa only[yR,yO,yN]using h) (by simp only[yR,zjW]) (zGW _ _) (zGW _ _) id hb
theorem zik{x y:AV}{t:List AV}{v1 z1 v2 z2:Nat}{es1 es2:List AV}{M1 M2 M3 M4:List (AV×AV)}(h:SxdD F g q c a b d):
 zAE (sxd F g q c a b d (.box (x::t)) (.arr v1 z1 es1) x3 (.map M1) (.map M2) x6) (sxd F g q c a b d (.box (y::t)) (.arr v2 z2 es2) x3 (.map M3) (.map M4) x6) g 0:=
 zkc h rfl fun q hq=>by
  cases q with
  |zero=>exact absurd rfl hq
  |succ q=>rfl
def CG1:Cfg:= {C with inpl:=fun d=>d==21}
theorem zhK:zAb Try.prog CG1:=C_ok
theorem zhL(t:Nat):CG1.ty t=C.ty t:=rfl
theorem zhJ(t:Nat):CG1.inpl t=(t==21):=rfl
theorem zid(hD:SxdD F g q c a b d)(k:Int)(v:Nat)(N:List GN)(A B:List (Int×Int))(hN:N.length<=1000):
 zAd Try.prog 71 [.bptr g 0,.int .i64 k,.sl [] .no] (hpG F g q c a b d v N A B x3 x6) (.int .i64 N.length) (hpG F g q c a b d (v+1) (N++ [(k,(N.length:Int))]) A B x3 x6):=by
 have hP:=sxdP hD
 have w1:IntKind.wrap .i64 (((N.length+1:Nat):Int)-1)=(N.length:Int):=by rw[zbT (by omega) (by omega)];omega
 have r1:(N.length+1<=9223372036854775807)=True:=by simp only[YAb,iff_true];omega
 have r2:((N.length+1)*40<=140737488355328)=True:=by simp only[YAb,iff_true];omega
 have htk:(List.map embG N).take N.length=List.map embG N:=by rw[List.take_of_length_le (by simp)]
 have happ:List.map embG N++ [emb (.mk k N.length [])]=List.map embG (N++ [(k,(N.length:Int))]):=by simp[embG]
 unfold zAd
 refine eD zhK Try.func71 Try.results71 fun ok=> ?_
 have h:=YAN
 repeat' (first
  |(with_reducible first|apply bA|apply bB|apply bC|apply bD|apply bE|apply bF)<;>intro h
  |refine drA zhK 1 0 ?_
  |skip)<;>simp only[h,↓zaL,↓zHC,WY,reduceIte,yA,yB,yC,yD,reduceCtorEq,yE,yF,W1,W1B,WS,zhL,zhJ,yG,hpG,hP,w1,r1,r2,htk,happ,YAK,yO,yN,implies_true,zTh,zTg]
 all_goals exact⟨fun _=>zGx _ _,fun _=>decide_eq_true hD.hr⟩
theorem zim(hD:SxdD F g q c a b d)(v:Nat)(N:List GN)(A B:List (Int×Int))(n:Nat)(hn:n<N.length)(hl:(N.getD n (0,0)).2=n):
 zAd Try.prog 60 [.bptr g 0,.int .i64 n] (hpG F g q c a b d v N A B x3 x6) (.int .i64 n) (hpG F g q c a b d v N A B x3 x6):=by
 have hP:=sxdP hD
 have hg:(N.map embG).getD n .any=embG (N.getD n (0,0)):=by simp[hn]
 have hne:((N.getD n (0,0)).2 !=(n:Int))=false:=by rw[bne_eq_false_iff_eq];exact hl
 generalize N.getD n (0,0)=p at*
 unfold zAd
 refine eD C_ok Try.func60 Try.results60 fun ok=> ?_
 have h:=YAN
 repeat' (first
  |(with_reducible first|apply bA|apply bB|apply bC|apply bD|apply bE|apply bF)<;>intro h
  |refine drA C_ok 2 0 ?_
  |refine zJ9 ?_ C_ok Try.f60.ntmps rfl (by decide)
  |skip)<;>simp only[h,↓zaL,↓zHC,WY,reduceIte,yA,yB,yC,yD,reduceCtorEq,yE,yF,W1,W1B,WS,W3,yH,yI,yJ,yK,yL,yM,hpG,hP,hn,hg,hne,ziK,YAK,yO,yN,zTh,zTg,zFY]
 all_goals rfl
theorem zin(hD:SxdD F g q c a b d)(v:Nat)(N:List GN)(A B:List (Int×Int))(n m:Nat)(hn:n<N.length)(hm:m<N.length)(hnm:m≠n)(hl:(N.getD n (0,0)).2=m)(hl2:(N.getD m (0,0)).2=m):
 zAd Try.prog 60 [.bptr g 0,.int .i64 n] (hpG F g q c a b d v N A B x3 x6) (.int .i64 m) (hpG F g q c a b d v N A B x3 x6):=by
 have hP:=sxdP hD
 have hg:(N.map embG).getD n .any=embG (N.getD n (0,0)):=by simp[hn]
 have hg2:(N.map embG).getD m .any=embG (N.getD m (0,0)):=by simp[hm]
 have hne:((m:Int) !=(n:Int))=true:=by rw[bne_iff_ne];omega
 have hset:(N.map embG).set n (embG ((N.getD n (0,0)).1,(m:Int)))=N.map embG:=by
  apply List.ext_getElem (by simp)
  intro i h1 h2
  rw[List.getElem_set]
  split
  ·rename_i e;subst e
   have h3:n<N.length:=hn
   simp only[List.getElem_map]
   congr 1
   rw[<-hl]
   simp[YAF,YAI h3]
  ·rfl
 have hre:∀p:GN,∀x:Int,zTS (embG p) [.int .i64 p.1,.int .i64 x,.sl [] .no]=embG (p.1,x):=fun p x=>rfl
 have hmk:∀x y:Int,emb (.mk x y [])=embG (x,y):=fun _ _=>rfl
 generalize N.getD n (0,0)=p at*
 generalize N.getD m (0,0)=p2 at*
 unfold zAd
 refine eD C_ok Try.func60 Try.results60 fun ok=> ?_
 have h:=YAN
 repeat' (first
  |(with_reducible first|apply bA|apply bB|apply bC|apply bD|apply bE|apply bF)<;>intro h
  |refine drA C_ok 2 0 ?_
  |refine zJ9 ?_ C_ok Try.f60.ntmps rfl (by decide)
  |skip)<;>simp only[h,↓zaL,↓zHC,WY,reduceIte,yA,yB,yC,yD,reduceCtorEq,yE,yF,W1,W1B,WS,W3,yH,yI,yJ,yK,yL,yM,hpG,hP,hn,hm,hg,hg2,hl,hl2,hne,YAO,hre,hset,ziK,YAK,yO,yN,zTh,zTg,zFY]
 all_goals rfl
end
end Go.Proofs.Ytmpegnogdgbleaa
