/- Lemmas: variables that are to be found, walked, second part. No condition. -/
import Derived.Test.YtmpegnogdgbleaaPVc
import Derived.Test.YtmpegnogdgbleaaPAg
import Derived.Test.YtmpegnogdgbleaaPAe
set_option linter.unusedSimpArgs false
set_option linter.unusedVariables false
set_option maxHeartbeats 4000000
set_option maxRecDepth 100000
namespace Go.Proofs.Ytmpegnogdgbleaa
open Go Go.Ab
open Nat renaming reduceEqDiff -> yA, reduceAdd -> yB, reduceLT -> yC, reduceLeDiff -> yD, reduceMul -> yE, reducePow -> yF, reduceBEq -> yG
open Int renaming reduceAdd -> yH, reduceLT -> yI, reduceToNat -> yJ, reduceBEq -> yK, reduceBNe -> yL, reduceLE -> yM
open AV renaming bel -> yN, normL -> yQ, norm -> yP, belL -> yO
open AObj renaming bel -> yR
attribute [local irreducible] zA0 zAA zAa zAi zAj GoIf GoGb zAk GoO GoD GoX GoDX GoG GoDG GoGv zAl Go zAB
section
theorem zqr(p:BT)(R:List BT):bdR (p::R)=bdR R++ [(p.1,p.2.ty)]:=by simp[bdR,bdL]
theorem zs9{p q v:Nat}{R:List BT}(hne:q≠p)(hw:WfV R)(hl:R.length<=1000000)(t:T){obj:Nat->Option AObj}(h:obj p=some (ubx q v R.length)/\obj q=some (uar v R)):
 zA5 Try.prog 62 [.bptr p 0,emb t.ty] (emb (wkV R t).ty) obj:=
 qcalls_st (fun F hs hr=>zs8 (F:=F) hs hr hne hw hl t) h.1 h.2 rfl rfl
def CUB:Cfg:= {C with rdr:=fun f=>f==62,inpl:=fun d=>d==50,zwr:=fun f=>f==48}
theorem zqY:zAb Try.prog CUB:=C_ok
theorem zqZ(t:Nat):CUB.ty t=C.ty t:=rfl
theorem zqX(t:Nat):CUB.inpl t=(t==50):=rfl
section
variable {F : List AObj} {p q v : Nat} {R : List BT}
theorem zsx(hs:p<F.length)(hr:q<F.length)(hne:q≠p)(hw:WfV R)(hl:R.length<=1000000){ta tb:T}{v:Nat}(hb:wkV R tb= .dyn):
 zAd Try.prog 48 [.bptr p 0,emb ta.ty,emb tb.ty] (hpU F p q v R) (.bool true) (hpU F p q v R):=by
 have hl1:=zqt R
 have b2:(R.length+1<=9223372036854775807)=True:=by simp only[YAb,iff_true];omega
 have b3:((R.length+1)*48<=140737488355328)=True:=by simp only[YAb,iff_true];omega
 have tk:(List.map embB (bdR R)).take R.length=List.map embB (bdR R):=List.take_of_length_le (by simp[hl1])
 unfold zAd
 refine eD zqY Try.func48 Try.results48 fun ok=> ?_
 have h:=YAN
 repeat' (first
  |(with_reducible first|apply bA|apply bB|apply bC|apply bD|apply bE|apply bF)<;>intro h
  |((first|apply bG|apply bH);simp only[yP,yQ,W2,W2B,W3,yH,yI,yJ,yK,yL,yM,zqZ,zqX,yG,hpU,ubx,uar,stP hs hr hne,zTh,zTg,yN,zGy,zG6,zGx,implies_true,T.ty,List.map_cons,List.map_nil,beq_self_eq_true,zqr,List.map_append,hl1,b2,b3,tk,YAK,zGI,hb];first|refine zIk rfl (zs9 (v:=v) hne hw hl ta (by simp[zIP,stP hs hr hne,ubx,uar])) (.inl rfl) ?_|refine zIk rfl (zs9 (v:=v) hne hw hl tb (by simp[zIP,stP hs hr hne,ubx,uar])) (.inl rfl) ?_)
  |refine drA zqY 1 0 ?_
  |refine drA zqY 10 0 ?_
  |refine drA zqY 19 0 ?_
  |refine zJ9 ?_ zqY Try.f48.ntmps rfl (by decide)
  |skip)<;>simp only[h,↓zaL,↓zHC,WY,reduceIte,yA,yB,yC,yD,reduceCtorEq,yE,yF,W1,W1B,WS,W3,yH,yI,yJ,yK,yL,yM,zqZ,zqX,yG,hpU,ubx,uar,stP hs hr hne,zTh,zTg,yN,zGy,zG6,zGx,implies_true,T.ty,List.map_cons,List.map_nil,beq_self_eq_true,zqr,List.map_append,hl1,b2,b3,tk,YAK,zGI,hb,zFY]
 all_goals rfl
theorem zsy(hs:p<F.length)(hr:q<F.length)(hne:q≠p)(hw:WfV R)(hl:R.length<=1000000){ta tb x:T}{v:Nat}(ha:wkV R ta=x)(hb:wkV R tb=x)(h0:x.kdV=[])(h5:x≠ .dyn):
 zAd Try.prog 48 [.bptr p 0,emb ta.ty,emb tb.ty] (hpU F p q v R) (.bool true) (hpU F p q v R):=by
 have h5':(x.ty.kind==5)=false:=by
  cases x with
  |dyn=>exact absurd rfl h5
  |base k=>have:=k.isLt;simp only[T.ty,Ty.kind];rw[YAZ];omega
  |_=>rfl
 have hlf:zM3 x.ty x.ty=true:=by
  cases x<;>first|rfl|(simp[T.kdV]at h0;done)|simp[zM3,T.ty,Ty.kids,Ty.kind,Ty.num]
 have hl1:=zqt R
 have b2:(R.length+1<=9223372036854775807)=True:=by simp only[YAb,iff_true];omega
 have b3:((R.length+1)*48<=140737488355328)=True:=by simp only[YAb,iff_true];omega
 have tk:(List.map embB (bdR R)).take R.length=List.map embB (bdR R):=List.take_of_length_le (by simp[hl1])
 unfold zAd
 refine eD zqY Try.func48 Try.results48 fun ok=> ?_
 have h:=YAN
 repeat' (first
  |(with_reducible first|apply bA|apply bB|apply bC|apply bD|apply bE|apply bF)<;>intro h
  |((first|apply bG|apply bH);simp only[yP,yQ,W2,W2B,W3,yH,yI,yJ,yK,yL,yM,zqZ,zqX,yG,hpU,ubx,uar,stP hs hr hne,zTh,zTg,yN,zGy,zG6,zGx,implies_true,T.ty,List.map_cons,List.map_nil,beq_self_eq_true,zqr,List.map_append,hl1,b2,b3,tk,YAK,zGI,ha,hb,h5',hlf];first|refine zIf (zrc _ _) (.inl rfl) ?_|refine zIj (zrc _ _) (.inl rfl) ?_|refine zIk rfl (zs9 (v:=v) hne hw hl ta (by simp[zIP,stP hs hr hne,ubx,uar])) (.inl rfl) ?_|refine zIk rfl (zs9 (v:=v) hne hw hl tb (by simp[zIP,stP hs hr hne,ubx,uar])) (.inl rfl) ?_)
  |refine drA zqY 1 0 ?_
  |refine drA zqY 10 0 ?_
  |refine drA zqY 19 0 ?_
  |refine zJ9 ?_ zqY Try.f48.ntmps rfl (by decide)
  |skip)<;>simp only[h,↓zaL,↓zHC,WY,reduceIte,yA,yB,yC,yD,reduceCtorEq,yE,yF,W1,W1B,WS,W3,yH,yI,yJ,yK,yL,yM,zqZ,zqX,yG,hpU,ubx,uar,stP hs hr hne,zTh,zTg,yN,zGy,zG6,zGx,implies_true,T.ty,List.map_cons,List.map_nil,beq_self_eq_true,zqr,List.map_append,hl1,b2,b3,tk,YAK,zGI,ha,hb,h5',hlf,zFY]
 all_goals rfl
theorem zsu(hs:p<F.length)(hr:q<F.length)(hne:q≠p)(hw:WfV R)(hl:R.length<=1000000){ta tb x:T}{v:Nat}(ha:wkV R ta= .dyn)(hb:wkV R tb=x)(h5:x≠ .dyn):
 zAd Try.prog 48 [.bptr p 0,emb ta.ty,emb tb.ty] (hpU F p q v R) (.bool false) (hpU F p q v R):=by
 have h5':(x.ty.kind==5)=false:=by
  cases x with
  |dyn=>exact absurd rfl h5
  |base k=>have:=k.isLt;simp only[T.ty,Ty.kind];rw[YAZ];omega
  |_=>rfl
 have hlf:zM3 (T.ty .dyn) x.ty=false:=by
  cases x with
  |dyn=>exact absurd rfl h5
  |base k=>
   have:=k.isLt
   have e:¬((5:Int)=(k.val:Int)+1):=by omega
   simp[zM3,T.ty,Ty.kids,Ty.kind,Ty.num,e]
  |_=>rfl
 simp only[T.ty]at hlf
 have hl1:=zqt R
 have b2:(R.length+1<=9223372036854775807)=True:=by simp only[YAb,iff_true];omega
 have b3:((R.length+1)*48<=140737488355328)=True:=by simp only[YAb,iff_true];omega
 have tk:(List.map embB (bdR R)).take R.length=List.map embB (bdR R):=List.take_of_length_le (by simp[hl1])
 unfold zAd
 refine eD zqY Try.func48 Try.results48 fun ok=> ?_
 have h:=YAN
 repeat' (first
  |(with_reducible first|apply bA|apply bB|apply bC|apply bD|apply bE|apply bF)<;>intro h
  |((first|apply bG|apply bH);simp only[yP,yQ,W2,W2B,W3,yH,yI,yJ,yK,yL,yM,zqZ,zqX,yG,hpU,ubx,uar,stP hs hr hne,zTh,zTg,yN,zGy,zG6,zGx,implies_true,T.ty,List.map_cons,List.map_nil,beq_self_eq_true,zqr,List.map_append,hl1,b2,b3,tk,YAK,zGI,ha,hb,h5',hlf];first|refine zIf (zrc _ _) (.inl rfl) ?_|refine zIj (zrc _ _) (.inl rfl) ?_|refine zIk rfl (zs9 (v:=v) hne hw hl ta (by simp[zIP,stP hs hr hne,ubx,uar])) (.inl rfl) ?_|refine zIk rfl (zs9 (v:=v) hne hw hl tb (by simp[zIP,stP hs hr hne,ubx,uar])) (.inl rfl) ?_)
  |refine drA zqY 1 0 ?_
  |refine drA zqY 10 0 ?_
  |refine drA zqY 19 0 ?_
  |refine zJ9 ?_ zqY Try.f48.ntmps rfl (by decide)
  |skip)<;>simp only[h,↓zaL,↓zHC,WY,reduceIte,yA,yB,yC,yD,reduceCtorEq,yE,yF,W1,W1B,WS,W3,yH,yI,yJ,yK,yL,yM,zqZ,zqX,yG,hpU,ubx,uar,stP hs hr hne,zTh,zTg,yN,zGy,zG6,zGx,implies_true,T.ty,List.map_cons,List.map_nil,beq_self_eq_true,zqr,List.map_append,hl1,b2,b3,tk,YAK,zGI,ha,hb,h5',hlf,zFY]
 all_goals rfl
theorem zs3(hs:p<F.length)(hr:q<F.length)(hne:q≠p)(hw:WfV R)(hl:R.length<=1000000){ta tb x:T}{v:Nat}{w:Int}(ha:wkV R ta=x)(hb:wkV R tb= .var w)(hx:x≠ .dyn)(hxw:x≠ .var w):
 zAd Try.prog 48 [.bptr p 0,emb ta.ty,emb tb.ty] (hpU F p q v R) (.bool (!((putS (thV R) x).has w|| !x.stat))) (if((putS (thV R) x).has w|| !x.stat)=true then hpU F p q v R else hpU F p q (v+1) ((w,x)::R)):=by
 have h5':(x.ty.kind==5)=false:=by
  cases x with
  |dyn=>exact absurd rfl hx
  |base k=>have:=k.isLt;simp only[T.ty,Ty.kind];rw[YAZ];omega
  |_=>rfl
 have hlf:zM3 x.ty (T.ty (.var w))=false:=by
  cases x with
  |base k=>
   have:=k.isLt
   have e:¬((k.val:Int)+1=6):=by omega
   simp[zM3,T.ty,Ty.kids,Ty.kind,Ty.num,e]
  |var k=>
   have e:¬(k=w):=fun e=>hxw (by rw[e])
   simp[zM3,T.ty,Ty.kids,Ty.kind,Ty.num,e]
  |_=>rfl
 simp only[T.ty]at hlf
 have q1:=fun(F:List AObj) hs hr=>ztA (v:=v) hne hw hl w _ x (YAV _) F hs hr
 have q2:=fun(F:List AObj) hs hr=>zs7 (v:=v) hne hw hl _ x (YAV _) F hs hr
 rw[zsk hw]at q2
 generalize (putS (thV R) x).has w=b1 at*
 generalize x.stat=b4 at*
 cases b1<;>cases b4
 all_goals
  simp only[Bool.not_true,Bool.not_false,Bool.or_true,Bool.or_false,Bool.true_or,Bool.false_or,YAB,if_true,if_false,reduceIte]
  have hl1:=zqt R
  have b2:(R.length+1<=9223372036854775807)=True:=by simp only[YAb,iff_true];omega
  have b3:((R.length+1)*48<=140737488355328)=True:=by simp only[YAb,iff_true];omega
  have tk:(List.map embB (bdR R)).take R.length=List.map embB (bdR R):=List.take_of_length_le (by simp[hl1])
  unfold zAd
  refine eD zqY Try.func48 Try.results48 fun ok=> ?_
  have h:=YAN
  repeat' (first
   |(with_reducible first|apply bA|apply bB|apply bC|apply bD|apply bE|apply bF)<;>intro h
   |((first|apply bG|apply bH);simp only[yP,yQ,W2,W2B,W3,yH,yI,yJ,yK,yL,yM,zqZ,zqX,yG,hpU,ubx,uar,stP hs hr hne,zTh,zTg,yN,zGy,zG6,zGx,implies_true,T.ty,List.map_cons,List.map_nil,beq_self_eq_true,zqr,List.map_append,hl1,b2,b3,tk,YAK,zGI,ha,hb,h5',hlf];first|refine zIf (zrc _ _) (.inl rfl) ?_|refine zIj (zrc _ _) (.inl rfl) ?_|refine zIk rfl (zs9 (v:=v) hne hw hl ta (by simp[zIP,stP hs hr hne,ubx,uar])) (.inl rfl) ?_|refine zIk rfl (zs9 (v:=v) hne hw hl tb (by simp[zIP,stP hs hr hne,ubx,uar])) (.inl rfl) ?_|refine zIB (q1 _ (by first|exact hs|simp<;>omega) (by first|exact hr|simp<;>omega)) (.inl rfl) ?_|refine zIB (q2 _ (by first|exact hs|simp<;>omega) (by first|exact hr|simp<;>omega)) (.inl rfl) ?_)
   |refine drA zqY 1 0 ?_
   |refine drA zqY 10 0 ?_
   |refine drA zqY 19 0 ?_
   |refine zJ9 ?_ zqY Try.f48.ntmps rfl (by decide)
   |skip)<;>simp only[h,↓zaL,↓zHC,WY,reduceIte,yA,yB,yC,yD,reduceCtorEq,yE,yF,W1,W1B,WS,W3,yH,yI,yJ,yK,yL,yM,zqZ,zqX,yG,hpU,ubx,uar,stP hs hr hne,zTh,zTg,yN,zGy,zG6,zGx,implies_true,T.ty,List.map_cons,List.map_nil,beq_self_eq_true,zqr,List.map_append,hl1,b2,b3,tk,YAK,zGI,ha,hb,h5',hlf,zFY]
  all_goals exact⟨fun _=>zOX _ [(w,x.ty)],fun _=>decide_eq_true hr⟩
theorem zsw(hs:p<F.length)(hr:q<F.length)(hne:q≠p)(hw:WfV R)(hl:R.length<=1000000){ta tb x:T}{v v':Nat}{R':List BT}{y:Int}{r:Bool}(ha:wkV R ta= .var y)(hb:wkV R tb=x)(h5:(x.ty.kind==5)=false)(h6:(x.ty.kind==6)=false)
 (hB:∀F:List AObj,p<F.length->q<F.length->zAd Try.prog 66 [.bptr p 0,.int .i64 y,emb x.ty] (hpU F p q v R) (.bool r) (hpU F p q v' R')):
 zAd Try.prog 48 [.bptr p 0,emb ta.ty,emb tb.ty] (hpU F p q v R) (.bool r) (hpU F p q v' R'):=by
 have hlf:zM3 (T.ty (.var y)) x.ty=false:=by
  have:¬((6:Int)=x.ty.kind):=fun e=>by rw[<-e]at h6;cases h6
  simp[zM3,this]
  intro _ e;exact absurd e this
 simp only[T.ty]at hlf
 have hl1:=zqt R
 have b2:(R.length+1<=9223372036854775807)=True:=by simp only[YAb,iff_true];omega
 have b3:((R.length+1)*48<=140737488355328)=True:=by simp only[YAb,iff_true];omega
 have tk:(List.map embB (bdR R)).take R.length=List.map embB (bdR R):=List.take_of_length_le (by simp[hl1])
 unfold zAd
 refine eD zqY Try.func48 Try.results48 fun ok=> ?_
 have h:=YAN
 repeat' (first
  |(with_reducible first|apply bA|apply bB|apply bC|apply bD|apply bE|apply bF)<;>intro h
  |((first|apply bG|apply bH);simp only[yP,yQ,W2,W2B,W3,yH,yI,yJ,yK,yL,yM,zqZ,zqX,yG,hpU,ubx,uar,stP hs hr hne,zTh,zTg,yN,zGy,zG6,zGx,implies_true,T.ty,List.map_cons,List.map_nil,beq_self_eq_true,zqr,List.map_append,hl1,b2,b3,tk,YAK,zGI,ha,hb,h5,h6,hlf];first|refine zIf (zrc _ _) (.inl rfl) ?_|refine zIj (zrc _ _) (.inl rfl) ?_|refine zIk rfl (zs9 (v:=v) hne hw hl ta (by simp[zIP,stP hs hr hne,ubx,uar])) (.inl rfl) ?_|refine zIk rfl (zs9 (v:=v) hne hw hl tb (by simp[zIP,stP hs hr hne,ubx,uar])) (.inl rfl) ?_|refine zIA (hB _ (by first|exact hs|simp<;>omega) (by first|exact hr|simp<;>omega)) (.inl rfl) (fun hb=>zrV (by first|exact hs|simp<;>omega) (by first|exact hr|simp<;>omega) hne hb) ?_)
  |refine drA zqY 1 0 ?_
  |refine drA zqY 10 0 ?_
  |refine drA zqY 19 0 ?_
  |refine zJ9 ?_ zqY Try.f48.ntmps rfl (by decide)
  |skip)<;>simp only[h,↓zaL,↓zHC,WY,reduceIte,yA,yB,yC,yD,reduceCtorEq,yE,yF,W1,W1B,WS,W3,yH,yI,yJ,yK,yL,yM,zqZ,zqX,yG,hpU,ubx,uar,stP hs hr hne,zTh,zTg,yN,zGy,zG6,zGx,implies_true,T.ty,List.map_cons,List.map_nil,beq_self_eq_true,zqr,List.map_append,hl1,b2,b3,tk,YAK,zGI,ha,hb,h5,h6,hlf,zFY]
 all_goals rfl
theorem zsz(hs:p<F.length)(hr:q<F.length)(hne:q≠p)(hw:WfV R)(hl:R.length<=1000000){ta tb x y:T}{v:Nat}(ha:wkV R ta=x)(hb:wkV R tb=y)(h5:(y.ty.kind==5)=false)(h6:(y.ty.kind==6)=false)(g5:(x.ty.kind==5)=false)(g6:(x.ty.kind==6)=false)
 (hlf:zM3 x.ty y.ty=false) (hlk:zNJ x.ty y.ty=false):
 zAd Try.prog 48 [.bptr p 0,emb ta.ty,emb tb.ty] (hpU F p q v R) (.bool false) (hpU F p q v R):=by
 have hl1:=zqt R
 have b2:(R.length+1<=9223372036854775807)=True:=by simp only[YAb,iff_true];omega
 have b3:((R.length+1)*48<=140737488355328)=True:=by simp only[YAb,iff_true];omega
 have tk:(List.map embB (bdR R)).take R.length=List.map embB (bdR R):=List.take_of_length_le (by simp[hl1])
 unfold zAd
 refine eD zqY Try.func48 Try.results48 fun ok=> ?_
 have h:=YAN
 repeat' (first
  |(with_reducible first|apply bA|apply bB|apply bC|apply bD|apply bE|apply bF)<;>intro h
  |((first|apply bG|apply bH);simp only[yP,yQ,W2,W2B,W3,yH,yI,yJ,yK,yL,yM,zqZ,zqX,yG,hpU,ubx,uar,stP hs hr hne,zTh,zTg,yN,zGy,zG6,zGx,implies_true,T.ty,List.map_cons,List.map_nil,beq_self_eq_true,zqr,List.map_append,hl1,b2,b3,tk,YAK,zGI,ha,hb,h5,h6,g5,g6,hlf,hlk];first|refine zIf (zrc _ _) (.inl rfl) ?_|refine zIf (zrh _ _) (.inl rfl) ?_|refine zIj (zrc _ _) (.inl rfl) ?_|refine zIj (zrh _ _) (.inl rfl) ?_|refine zIk rfl (zs9 (v:=v) hne hw hl ta (by simp[zIP,stP hs hr hne,ubx,uar])) (.inl rfl) ?_|refine zIk rfl (zs9 (v:=v) hne hw hl tb (by simp[zIP,stP hs hr hne,ubx,uar])) (.inl rfl) ?_)
  |refine drA zqY 1 0 ?_
  |refine drA zqY 10 0 ?_
  |refine drA zqY 19 0 ?_
  |refine zJ9 ?_ zqY Try.f48.ntmps rfl (by decide)
  |skip)<;>simp only[h,↓zaL,↓zHC,WY,reduceIte,yA,yB,yC,yD,reduceCtorEq,yE,yF,W1,W1B,WS,W3,yH,yI,yJ,yK,yL,yM,zqZ,zqX,yG,hpU,ubx,uar,stP hs hr hne,zTh,zTg,yN,zGy,zG6,zGx,implies_true,T.ty,List.map_cons,List.map_nil,beq_self_eq_true,zqr,List.map_append,hl1,b2,b3,tk,YAK,zGI,ha,hb,h5,h6,g5,g6,hlf,hlk,zFY]
 all_goals rfl
theorem zs1(hs:p<F.length)(hr:q<F.length)(hne:q≠p)(hw:WfV R)(hl:R.length<=1000000){ta tb x x':T}{y y' z z':Ty}{v v1 v2:Nat}{R1 R2:List BT}{r:Bool}{k:Int}(ha:wkV R ta=x)(hb:wkV R tb=x')(hx:x.ty= .mk k 0 [y,z])(hx':x'.ty= .mk k 0 [y',z'])(h5:(k==5)=false)(h6:(k==6)=false)
 (i1:∀F:List AObj,p<F.length->q<F.length->zAd Try.prog 48 [.bptr p 0,emb y,emb y'] (hpU F p q v R) (.bool true) (hpU F p q v1 R1))
 (i2:∀F:List AObj,p<F.length->q<F.length->zAd Try.prog 48 [.bptr p 0,emb z,emb z'] (hpU F p q v1 R1) (.bool r) (hpU F p q v2 R2)):
 zAd Try.prog 48 [.bptr p 0,emb ta.ty,emb tb.ty] (hpU F p q v R) (.bool r) (hpU F p q v2 R2):=by
 have hlf:zM3 (.mk k 0 [y,z]) (.mk k 0 [y',z'])=false:=rfl
 have hlk:zNJ (.mk k 0 [y,z]) (.mk k 0 [y',z'])=true:=by simp[zNJ,Ty.kids,Ty.kind]
 cases r
 all_goals
  have hl1:=zqt R
  have b2:(R.length+1<=9223372036854775807)=True:=by simp only[YAb,iff_true];omega
  have b3:((R.length+1)*48<=140737488355328)=True:=by simp only[YAb,iff_true];omega
  have tk:(List.map embB (bdR R)).take R.length=List.map embB (bdR R):=List.take_of_length_le (by simp[hl1])
  unfold zAd
  refine eD zqY Try.func48 Try.results48 fun ok=> ?_
  have h:=YAN
  repeat' (first
   |(with_reducible first|apply bA|apply bB|apply bC|apply bD|apply bE|apply bF)<;>intro h
   |((first|apply bG|apply bH);simp only[yP,yQ,W2,W2B,W3,yH,yI,yJ,yK,yL,yM,zqZ,zqX,yG,hpU,ubx,uar,stP hs hr hne,zTh,zTg,yN,zGy,zG6,zGx,implies_true,T.ty,List.map_cons,List.map_nil,beq_self_eq_true,zqr,List.map_append,hl1,b2,b3,tk,YAK,zGI,ha,hb,hx,hx',h5,h6,hlf,hlk];first|refine zIf (zrc _ _) (.inl rfl) ?_|refine zIf (zrh _ _) (.inl rfl) ?_|refine zIj (zrc _ _) (.inl rfl) ?_|refine zIj (zrh _ _) (.inl rfl) ?_|refine zIk rfl (zs9 (v:=v) hne hw hl ta (by simp[zIP,stP hs hr hne,ubx,uar])) (.inl rfl) ?_|refine zIk rfl (zs9 (v:=v) hne hw hl tb (by simp[zIP,stP hs hr hne,ubx,uar])) (.inl rfl) ?_|refine zIl rfl trivial (i1 _ (by first|exact hs|simp<;>omega) (by first|exact hr|simp<;>omega)) (.inl rfl) (fun hb=>zrV (by first|exact hs|simp<;>omega) (by first|exact hr|simp<;>omega) hne hb) ?_|refine zIl rfl trivial (i2 _ (by first|exact hs|simp<;>omega) (by first|exact hr|simp<;>omega)) (.inl rfl) (fun hb=>zrV (by first|exact hs|simp<;>omega) (by first|exact hr|simp<;>omega) hne hb) ?_)
   |refine drA zqY 1 0 ?_
   |refine drA zqY 10 0 ?_
   |refine drA zqY 19 0 ?_
   |refine zJ9 ?_ zqY Try.f48.ntmps rfl (by decide)
   |skip)<;>simp only[h,↓zaL,↓zHC,WY,reduceIte,yA,yB,yC,yD,reduceCtorEq,yE,yF,W1,W1B,WS,W3,yH,yI,yJ,yK,yL,yM,zqZ,zqX,yG,hpU,ubx,uar,stP hs hr hne,zTh,zTg,yN,zGy,zG6,zGx,implies_true,T.ty,List.map_cons,List.map_nil,beq_self_eq_true,zqr,List.map_append,hl1,b2,b3,tk,YAK,zGI,ha,hb,hx,hx',h5,h6,hlf,hlk,zFY]
  all_goals rfl
theorem zs2(hs:p<F.length)(hr:q<F.length)(hne:q≠p)(hw:WfV R)(hl:R.length<=1000000){ta tb x x':T}{y y' z z':Ty}{v v1:Nat}{R1:List BT}{k:Int}(ha:wkV R ta=x)(hb:wkV R tb=x')(hx:x.ty= .mk k 0 [y,z])(hx':x'.ty= .mk k 0 [y',z'])(h5:(k==5)=false)(h6:(k==6)=false)
 (i1:∀F:List AObj,p<F.length->q<F.length->zAd Try.prog 48 [.bptr p 0,emb y,emb y'] (hpU F p q v R) (.bool false) (hpU F p q v1 R1)):
 zAd Try.prog 48 [.bptr p 0,emb ta.ty,emb tb.ty] (hpU F p q v R) (.bool false) (hpU F p q v1 R1):=by
 have hlf:zM3 (.mk k 0 [y,z]) (.mk k 0 [y',z'])=false:=rfl
 have hlk:zNJ (.mk k 0 [y,z]) (.mk k 0 [y',z'])=true:=by simp[zNJ,Ty.kids,Ty.kind]
 have hl1:=zqt R
 have b2:(R.length+1<=9223372036854775807)=True:=by simp only[YAb,iff_true];omega
 have b3:((R.length+1)*48<=140737488355328)=True:=by simp only[YAb,iff_true];omega
 have tk:(List.map embB (bdR R)).take R.length=List.map embB (bdR R):=List.take_of_length_le (by simp[hl1])
 unfold zAd
 refine eD zqY Try.func48 Try.results48 fun ok=> ?_
 have h:=YAN
 repeat' (first
  |(with_reducible first|apply bA|apply bB|apply bC|apply bD|apply bE|apply bF)<;>intro h
  |((first|apply bG|apply bH);simp only[yP,yQ,W2,W2B,W3,yH,yI,yJ,yK,yL,yM,zqZ,zqX,yG,hpU,ubx,uar,stP hs hr hne,zTh,zTg,yN,zGy,zG6,zGx,implies_true,T.ty,List.map_cons,List.map_nil,beq_self_eq_true,zqr,List.map_append,hl1,b2,b3,tk,YAK,zGI,ha,hb,hx,hx',h5,h6,hlf,hlk];first|refine zIf (zrc _ _) (.inl rfl) ?_|refine zIf (zrh _ _) (.inl rfl) ?_|refine zIj (zrc _ _) (.inl rfl) ?_|refine zIj (zrh _ _) (.inl rfl) ?_|refine zIk rfl (zs9 (v:=v) hne hw hl ta (by simp[zIP,stP hs hr hne,ubx,uar])) (.inl rfl) ?_|refine zIk rfl (zs9 (v:=v) hne hw hl tb (by simp[zIP,stP hs hr hne,ubx,uar])) (.inl rfl) ?_|refine zIl rfl trivial (i1 _ (by first|exact hs|simp<;>omega) (by first|exact hr|simp<;>omega)) (.inl rfl) (fun hb=>zrV (by first|exact hs|simp<;>omega) (by first|exact hr|simp<;>omega) hne hb) ?_)
  |refine drA zqY 1 0 ?_
  |refine drA zqY 10 0 ?_
  |refine drA zqY 19 0 ?_
  |refine zJ9 ?_ zqY Try.f48.ntmps rfl (by decide)
  |skip)<;>simp only[h,↓zaL,↓zHC,WY,reduceIte,yA,yB,yC,yD,reduceCtorEq,yE,yF,W1,W1B,WS,W3,yH,yI,yJ,yK,yL,yM,zqZ,zqX,yG,hpU,ubx,uar,stP hs hr hne,zTh,zTg,yN,zGy,zG6,zGx,implies_true,T.ty,List.map_cons,List.map_nil,beq_self_eq_true,zqr,List.map_append,hl1,b2,b3,tk,YAK,zGI,ha,hb,hx,hx',h5,h6,hlf,hlk,zFY]
 all_goals rfl
theorem zs0(hs:p<F.length)(hr:q<F.length)(hne:q≠p)(hw:WfV R)(hl:R.length<=1000000){ta tb x x':T}{y y':Ty}{v v1:Nat}{R1:List BT}{k:Int}{r:Bool}(ha:wkV R ta=x)(hb:wkV R tb=x')(hx:x.ty= .mk k 0 [y])(hx':x'.ty= .mk k 0 [y'])(h5:(k==5)=false)(h6:(k==6)=false)
 (i1:∀F:List AObj,p<F.length->q<F.length->zAd Try.prog 48 [.bptr p 0,emb y,emb y'] (hpU F p q v R) (.bool r) (hpU F p q v1 R1)):
 zAd Try.prog 48 [.bptr p 0,emb ta.ty,emb tb.ty] (hpU F p q v R) (.bool r) (hpU F p q v1 R1):=by
 have hlf:zM3 (.mk k 0 [y]) (.mk k 0 [y'])=false:=rfl
 have hlk:zNJ (.mk k 0 [y]) (.mk k 0 [y'])=true:=by simp[zNJ,Ty.kids,Ty.kind]
 cases r
 all_goals
  have hl1:=zqt R
  have b2:(R.length+1<=9223372036854775807)=True:=by simp only[YAb,iff_true];omega
  have b3:((R.length+1)*48<=140737488355328)=True:=by simp only[YAb,iff_true];omega
  have tk:(List.map embB (bdR R)).take R.length=List.map embB (bdR R):=List.take_of_length_le (by simp[hl1])
  unfold zAd
  refine eD zqY Try.func48 Try.results48 fun ok=> ?_
  have h:=YAN
  repeat' (first
   |(with_reducible first|apply bA|apply bB|apply bC|apply bD|apply bE|apply bF)<;>intro h
   |((first|apply bG|apply bH);simp only[yP,yQ,W2,W2B,W3,yH,yI,yJ,yK,yL,yM,zqZ,zqX,yG,hpU,ubx,uar,stP hs hr hne,zTh,zTg,yN,zGy,zG6,zGx,implies_true,T.ty,List.map_cons,List.map_nil,beq_self_eq_true,zqr,List.map_append,hl1,b2,b3,tk,YAK,zGI,ha,hb,hx,hx',h5,h6,hlf,hlk];first|refine zIf (zrc _ _) (.inl rfl) ?_|refine zIf (zrh _ _) (.inl rfl) ?_|refine zIj (zrc _ _) (.inl rfl) ?_|refine zIj (zrh _ _) (.inl rfl) ?_|refine zIk rfl (zs9 (v:=v) hne hw hl ta (by simp[zIP,stP hs hr hne,ubx,uar])) (.inl rfl) ?_|refine zIk rfl (zs9 (v:=v) hne hw hl tb (by simp[zIP,stP hs hr hne,ubx,uar])) (.inl rfl) ?_|refine zIl rfl trivial (i1 _ (by first|exact hs|simp<;>omega) (by first|exact hr|simp<;>omega)) (.inl rfl) (fun hb=>zrV (by first|exact hs|simp<;>omega) (by first|exact hr|simp<;>omega) hne hb) ?_)
   |refine drA zqY 1 0 ?_
   |refine drA zqY 10 0 ?_
   |refine drA zqY 19 0 ?_
   |refine zJ9 ?_ zqY Try.f48.ntmps rfl (by decide)
   |skip)<;>simp only[h,↓zaL,↓zHC,WY,reduceIte,yA,yB,yC,yD,reduceCtorEq,yE,yF,W1,W1B,WS,W3,yH,yI,yJ,yK,yL,yM,zqZ,zqX,yG,hpU,ubx,uar,stP hs hr hne,zTh,zTg,yN,zGy,zG6,zGx,implies_true,T.ty,List.map_cons,List.map_nil,beq_self_eq_true,zqr,List.map_append,hl1,b2,b3,tk,YAK,zGI,ha,hb,hx,hx',h5,h6,hlf,hlk,zFY]
  all_goals rfl
end
end
section
theorem ztN{x:Int}(h1:0<=x)(h2:x<=100000000):IntKind.wrap .i64 x=x:=by
 have e1:IntKind.min .i64= -9223372036854775808:=by decide
 have e2:IntKind.max .i64=9223372036854775807:=by decide
 exact zbU .i64 x (by omega) (by omega)
def CUC:Cfg:= {C with inpl:=fun d=>d==26||d==63,zwr:=fun f=>f==48}
theorem zqb:zAb Try.prog CUC:=C_ok
theorem zqc(t:Nat):CUC.ty t=C.ty t:=rfl
theorem zqa(t:Nat):CUC.inpl t=(t==26||t==63):=rfl
section
variable {F : List AObj} {p q v : Nat} {R : List BT}
theorem zsq(hs:p<F.length)(hr:q<F.length)(hne:q≠p)(hw:WfV R)(hl:R.length<=1000000){x:T}{v:Nat}{y:Int}(h1:(putS (thV R) x).has y=true):
 zAd Try.prog 66 [.bptr p 0,.int .i64 y,emb x.ty] (hpU F p q v R) (.bool false) (hpU F p q v R):=by
 have q1:=fun(F:List AObj) hs hr=>ztA (v:=v) hne hw hl y _ x (YAV _) F hs hr
 rw[h1]at q1
 have hl1:=zqt R
 have b2:(R.length+1<=9223372036854775807)=True:=by simp only[YAb,iff_true];omega
 have b3:((R.length+1)*48<=140737488355328)=True:=by simp only[YAb,iff_true];omega
 have tk:(List.map embB (bdR R)).take R.length=List.map embB (bdR R):=List.take_of_length_le (by simp[hl1])
 unfold zAd
 refine eD zqb Try.func66 Try.results66 fun ok=> ?_
 have h:=YAN
 repeat' (first
  |(with_reducible first|apply bA|apply bB|apply bC|apply bD|apply bE|apply bF)<;>intro h
  |((first|apply bG|apply bH);simp only[yP,yQ,W2,W2B,W3,yH,yI,yJ,yK,yL,yM,zqc,zqa,yG,Bool.or_true,Bool.or_false,Bool.true_or,Bool.false_or,hpU,ubx,uar,stP hs hr hne,zTh,zTg,yN,zGy,zG6,zGx,implies_true,T.ty,List.map_cons,List.map_nil,beq_self_eq_true,zqr,List.map_append,hl1,b2,b3,tk,YAK,zGI];refine zIB (q1 _ (by first|exact hs|simp<;>omega) (by first|exact hr|simp<;>omega)) (.inl rfl) ?_)
  |refine drA zqb 4 0 ?_
  |refine drA zqb 10 0 ?_
  |refine drA zqb 11 0 ?_
  |refine drA zqb 15 0 ?_
  |refine zJ9 ?_ zqb Try.f66.ntmps rfl (by decide)
  |skip)<;>simp only[h,↓zaL,↓zHC,WY,reduceIte,yA,yB,yC,yD,reduceCtorEq,yE,yF,W1,W1B,WS,W3,yH,yI,yJ,yK,yL,yM,zqc,zqa,yG,Bool.or_true,Bool.or_false,Bool.true_or,Bool.false_or,hpU,ubx,uar,stP hs hr hne,zTh,zTg,yN,zGy,zG6,zGx,implies_true,T.ty,List.map_cons,List.map_nil,beq_self_eq_true,zqr,List.map_append,hl1,b2,b3,tk,YAK,zGI,zFY]
 all_goals rfl
theorem zss(hs:p<F.length)(hr:q<F.length)(hne:q≠p)(hw:WfV R)(hl:R.length<=1000000){x:T}{v:Nat}{y:Int}(h1:(putS (thV R) x).has y=false)(h2:x.stat=true):
 zAd Try.prog 66 [.bptr p 0,.int .i64 y,emb x.ty] (hpU F p q v R) (.bool true) (hpU F p q (v+1) ((y,x)::R)):=by
 have q1:=fun(F:List AObj) hs hr=>ztA (v:=v) hne hw hl y _ x (YAV _) F hs hr
 have q2:=fun(F:List AObj) hs hr=>zs7 (v:=v) hne hw hl _ x (YAV _) F hs hr
 rw[zsk hw,h2]at q2
 rw[h1]at q1
 have hl1:=zqt R
 have b2:(R.length+1<=9223372036854775807)=True:=by simp only[YAb,iff_true];omega
 have b3:((R.length+1)*48<=140737488355328)=True:=by simp only[YAb,iff_true];omega
 have tk:(List.map embB (bdR R)).take R.length=List.map embB (bdR R):=List.take_of_length_le (by simp[hl1])
 unfold zAd
 refine eD zqb Try.func66 Try.results66 fun ok=> ?_
 have h:=YAN
 repeat' (first
  |(with_reducible first|apply bA|apply bB|apply bC|apply bD|apply bE|apply bF)<;>intro h
  |((first|apply bG|apply bH);simp only[yP,yQ,W2,W2B,W3,yH,yI,yJ,yK,yL,yM,zqc,zqa,yG,Bool.or_true,Bool.or_false,Bool.true_or,Bool.false_or,hpU,ubx,uar,stP hs hr hne,zTh,zTg,yN,zGy,zG6,zGx,implies_true,T.ty,List.map_cons,List.map_nil,beq_self_eq_true,zqr,List.map_append,hl1,b2,b3,tk,YAK,zGI];first|refine zIB (q1 _ (by first|exact hs|simp<;>omega) (by first|exact hr|simp<;>omega)) (.inl rfl) ?_|refine zIB (q2 _ (by first|exact hs|simp<;>omega) (by first|exact hr|simp<;>omega)) (.inl rfl) ?_)
  |refine drA zqb 4 0 ?_
  |refine drA zqb 10 0 ?_
  |refine drA zqb 11 0 ?_
  |refine drA zqb 15 0 ?_
  |refine zJ9 ?_ zqb Try.f66.ntmps rfl (by decide)
  |skip)<;>simp only[h,↓zaL,↓zHC,WY,reduceIte,yA,yB,yC,yD,reduceCtorEq,yE,yF,W1,W1B,WS,W3,yH,yI,yJ,yK,yL,yM,zqc,zqa,yG,Bool.or_true,Bool.or_false,Bool.true_or,Bool.false_or,hpU,ubx,uar,stP hs hr hne,zTh,zTg,yN,zGy,zG6,zGx,implies_true,T.ty,List.map_cons,List.map_nil,beq_self_eq_true,zqr,List.map_append,hl1,b2,b3,tk,YAK,zGI,zFY]
 all_goals exact⟨fun _=>zOX _ [(y,x.ty)],fun _=>decide_eq_true hr⟩
def ucF(F:List AObj)(bx:AObj)(k N:Int):Nat->List AObj
 |0=>F++ [bx,.box [.int .i64 k,.int .i64 0,.sl [] .full]]
 |1=>F++ [bx,.box [.int .i64 k,.int .i64 0,.sl [.agg [.int .i64 6,.int .i64 N,.sl [] .full]] (.own (F.length+2))],.tok 1 3]
 |_=>F++ [bx,.box [.int .i64 k,.int .i64 0,.sl [emb (.mk 6 N []),emb (.mk 6 (N+1) [])] .no],.tok 2 3]
def ucG(F:List AObj)(bx:AObj)(k N:Int):Nat->List AObj
 |0=>F++ [bx,.box [.int .i64 k,.int .i64 0,.sl [] .full]]
 |_=>F++ [bx,.box [.int .i64 k,.int .i64 0,.sl [emb (.mk 6 N [])] .no],.tok 1 3]
theorem zst(hs:p<F.length)(hr:q<F.length)(hne:q≠p)(hw:WfV R)(hl:R.length<=1000000){x w:T}{y' z':Ty}{k:Int}{v v1 v2:Nat}{R1 R2:List BT}{r1 r:Bool}{y:Int}(h1:(putS (thV R) x).has y=false)(h2:x.stat=false)(hx:x.ty= .mk k 0 [y',z'])(hwt:w.ty= .mk k 0 [.mk 6 (frN R) [],.mk 6 (frN R+1) []])
 (i1:∀F:List AObj,p<F.length->q<F.length->zAd Try.prog 48 [.bptr p 0,emb (.mk 6 (frN R) []),emb y'] (hpU F p q (v+1) ((y,w)::R)) (.bool r1) (hpU F p q v1 R1))
 (i2:(r1=false/\r=false/\v2=v1/\R2=R1)\/(r1=true/\∀F:List AObj,p<F.length->q<F.length->zAd Try.prog 48 [.bptr p 0,emb (.mk 6 (frN R+1) []),emb z'] (hpU F p q v1 R1) (.bool r) (hpU F p q v2 R2))):
 zAd Try.prog 66 [.bptr p 0,.int .i64 y,emb x.ty] (hpU F p q v R) (.bool r) (hpU F p q v2 R2):=by
 have q1:=fun(F:List AObj) hs hr=>ztA (v:=v) hne hw hl y _ x (YAV _) F hs hr
 have q2:=fun(F:List AObj) hs hr=>zs7 (v:=v) hne hw hl _ x (YAV _) F hs hr
 rw[zsk hw,h2]at q2
 rw[h1]at q1
 rw[hx]at q1 q2⊢
 have w1:IntKind.wrap .i64 (2*(R.length:Int))=2*(R.length:Int):=ztN (by omega) (by omega)
 have w2:IntKind.wrap .i64 (4194308+2*(R.length:Int))=frN R:=ztN (by omega) (by omega)
 have w3:IntKind.wrap .i64 (frN R+((0:Nat):Int))=frN R:=by unfold frN;rw[show∀x:Int,x+((0:Nat):Int)=x by intro x;omega];exact ztN (by omega) (by omega)
 have w4:IntKind.wrap .i64 (frN R+((1:Nat):Int))=frN R+1:=by unfold frN;exact ztN (by omega) (by omega)
 have hl1:=zqt R
 have b2:(R.length+1<=9223372036854775807)=True:=by simp only[YAb,iff_true];omega
 have b3:((R.length+1)*48<=140737488355328)=True:=by simp only[YAb,iff_true];omega
 have tk:(List.map embB (bdR R)).take R.length=List.map embB (bdR R):=List.take_of_length_le (by simp[hl1])
 generalize frN R=N at*
 unfold zAd
 refine eD zqb Try.func66 Try.results66 fun ok=> ?_
 have h:=YAN
 repeat' (first
  |(with_reducible first|apply bA|apply bB|apply bC|apply bD|apply bE|apply bF)<;>intro h
  |((first|apply bG|apply bH);simp only[yP,yQ,W2,W2B,zqc,zqa,yG,hpU,ubx,uar,stP hs hr hne,zTh,zTg,yN,zGy,zG6,zGx,implies_true,List.map_cons,List.map_nil];first|refine zIB (q1 _ (by first|exact hs|simp<;>omega) (by first|exact hr|simp<;>omega)) (.inl rfl) ?_|refine zIB (q2 _ (by first|exact hs|simp<;>omega) (by first|exact hr|simp<;>omega)) (.inl rfl) ?_)
  |refine drA zqb 4 0 ?_
  |refine drA zqb 10 0 ?_
  |refine drA zqb 11 0 ?_
  |refine drA zqb 15 0 ?_
  |skip)<;>simp only[h,↓zaL,↓zHC,WY,reduceIte,yA,yB,yC,yD,reduceCtorEq,yE,yF,W1,W1B,WS,zqc,zqa,yG,hpU,ubx,uar,stP hs hr hne,zTh,zTg,yN,zGy,zG6,zGx,implies_true,List.map_cons,List.map_nil]
 refine zCN [8,0,1,5,7] ?_
 simp only[List.map_cons,List.map_nil,↓zaL,↓zHC,WY,reduceIte,yA,yB,yC,yD,reduceCtorEq,yE,yF,W1,W1B,WS]
 generalize hbx:AObj.box [.int .i64 k,.int .i64 0,.sl [emb y',emb z'] .no]=bx
 refine zrN 1 (fun i:Nat=> [(8,.int .i64 i)]) (fun i=>hpU (ucF F bx k N i) p q v R) (fun i=>i<=2) (fun i=>2-i) zqb 0 rfl (by simp only[hpU,ubx,uar,ucF]) (by decide) (by decide) ?_
 intro i hi
 simp only[List.drop_succ_cons,List.drop_zero,List.cons_append,List.nil_append]
 obtain rfl|rfl|rfl:i=0\/i=1\/i=2:=by omega
 ·simp only[ucF]
  rw[<-hbx]
  have z1:(((0:Nat):Int)<((2:Nat):Int))=True:=by decide
  have h:=YAN
  repeat' (first
   |(with_reducible first|apply bA|apply bB|apply bC|apply bD|apply bE|apply bF)<;>intro h
   |refine drA zqb 4 0 ?_
   |refine drA zqb 10 0 ?_
   |refine drA zqb 11 0 ?_
   |refine drA zqb 15 0 ?_
   |skip)<;>simp only[h,↓zaL,↓zHC,WY,reduceIte,yA,yB,yC,yD,reduceCtorEq,yE,yF,W1,W1B,WS,zqc,zqa,yG,Bool.or_true,Bool.or_false,Bool.true_or,Bool.false_or,hpU,ubx,uar,stP hs hr hne,zTh,zTg,yN,zGy,zG6,zGx,implies_true,T.ty,List.map_cons,List.map_nil,beq_self_eq_true,hl1,b2,b3,tk,w1,w2,YAK,zGI,w3,z1]
  refine⟨1,by omega,by omega,Weak.wider (zap ?_ ?_)⟩
  ·rfl
  ·have z2:IntKind.wrap .i64 (((0:Nat):Int)+1)=((1:Nat):Int):=by decide
   simp only[WK,↓zaL,↓zHC,yA,reduceIte,yN,yO,yR,yP,yQ,yB,yC,z2]
 ·simp only[ucF]
  rw[<-hbx]
  have z1:(((1:Nat):Int)<((2:Nat):Int))=True:=by decide
  have h:=YAN
  repeat' (first
   |(with_reducible first|apply bA|apply bB|apply bC|apply bD|apply bE|apply bF)<;>intro h
   |refine drA zqb 4 0 ?_
   |refine drA zqb 10 0 ?_
   |refine drA zqb 11 0 ?_
   |refine drA zqb 15 0 ?_
   |skip)<;>simp only[h,↓zaL,↓zHC,WY,reduceIte,yA,yB,yC,yD,reduceCtorEq,yE,yF,W1,W1B,WS,zqc,zqa,yG,Bool.or_true,Bool.or_false,Bool.true_or,Bool.false_or,hpU,ubx,uar,stP hs hr hne,zTh,zTg,yN,zGy,zG6,zGx,implies_true,T.ty,List.map_cons,List.map_nil,beq_self_eq_true,hl1,b2,b3,tk,w1,w2,YAK,zGI,w4,z1]
  refine⟨2,by omega,by omega,Wider.trans (ztE (r:=F.length+1) (cs:=[.int .i64 k,.int .i64 0,.sl [.agg [.int .i64 6,.int .i64 N,.sl [] .full],.agg [.int .i64 6,.int .i64 (N+1),.sl [] .full]] (.own (F.length+2))]) (cs':=[.int .i64 k,.int .i64 0,.sl [emb (.mk 6 N []),emb (.mk 6 (N+1) [])] .no]) ?_ (Nat.le_succ _) rfl ?_) (Weak.wider (zap ?_ ?_))⟩
  ·simp only[stP hs hr hne,List.getElem?_cons_succ,List.getElem?_cons_zero]
  ·rintro(_|_|_|i)
   ·exact .inl rfl
   ·exact .inl rfl
   ·exact .inr rfl
   ·exact .inl rfl
  ·simp only[stP hs hr hne,List.set_cons_succ,List.set_cons_zero]
  ·have z2:IntKind.wrap .i64 (((1:Nat):Int)+1)=((2:Nat):Int):=by decide
   simp only[WK,↓zaL,↓zHC,yA,reduceIte,yN,yO,yR,yP,yQ,yB,yC,z2]
 ·simp only[ucF]
  rw[<-hbx]
  have z1:(((2:Nat):Int)<((2:Nat):Int))=False:=by decide
  have ap:List.map embB (bdR R)++ [.agg [.int .i64 y,.int .i64 k,.int .i64 0,.sl [emb (.mk 6 N []),emb (.mk 6 (N+1) [])] .no]]=List.map embB (bdR ((y,w)::R)):=by rw[zqr,List.map_append,List.map_cons,hwt];rfl
  have ln:R.length+1=((y,w)::R).length:=rfl
  rw[ln]at b2 b3
  have hr':(q<F.length)=True:=eq_true hr
  generalize (y,w)::R=S at*
  rcases i2 with ⟨rfl,rfl,rfl,rfl⟩|⟨rfl,i2⟩
  ·have h:=YAN
   repeat' (first
    |(with_reducible first|apply bA|apply bB|apply bC|apply bD|apply bE|apply bF)<;>intro h
    |((first|apply bG|apply bH);simp only[yP,yQ,W2,W2B,W3,yH,yI,yJ,yK,yL,yM,zqc,zqa,yG,Bool.or_true,Bool.or_false,Bool.true_or,Bool.false_or,hpU,ubx,uar,stP hs hr hne,zTh,zTg,yN,zGy,zG6,zGx,implies_true,T.ty,List.map_cons,List.map_nil,beq_self_eq_true,hl1,b2,b3,tk,z1,ap,ln,hr',yO,YAK,zGI];refine zIl rfl trivial (i1 _ (by first|exact hs|simp<;>omega) (by first|exact hr|simp<;>omega)) (.inl rfl) (fun hb=>zrV (by first|exact hs|simp<;>omega) (by first|exact hr|simp<;>omega) hne hb) ?_)
    |refine drA zqb 4 0 ?_
    |refine drA zqb 10 0 ?_
    |refine drA zqb 11 0 ?_
    |refine drA zqb 15 0 ?_
    |refine zJ9 ?_ zqb Try.f66.ntmps rfl (by decide)
    |skip)<;>simp only[h,↓zaL,↓zHC,WY,reduceIte,yA,yB,yC,yD,reduceCtorEq,yE,yF,W1,W1B,WS,W3,yH,yI,yJ,yK,yL,yM,zqc,zqa,yG,Bool.or_true,Bool.or_false,Bool.true_or,Bool.false_or,hpU,ubx,uar,stP hs hr hne,zTh,zTg,yN,zGy,zG6,zGx,implies_true,T.ty,List.map_cons,List.map_nil,beq_self_eq_true,hl1,b2,b3,tk,z1,ap,ln,hr',yO,YAK,zGI,zFY]
   all_goals rfl
  ·cases r
   all_goals
    have h:=YAN
    repeat' (first
     |(with_reducible first|apply bA|apply bB|apply bC|apply bD|apply bE|apply bF)<;>intro h
     |((first|apply bG|apply bH);simp only[yP,yQ,W2,W2B,W3,yH,yI,yJ,yK,yL,yM,zqc,zqa,yG,Bool.or_true,Bool.or_false,Bool.true_or,Bool.false_or,hpU,ubx,uar,stP hs hr hne,zTh,zTg,yN,zGy,zG6,zGx,implies_true,T.ty,List.map_cons,List.map_nil,beq_self_eq_true,hl1,b2,b3,tk,z1,ap,ln,hr',yO,YAK,zGI];first|refine zIl rfl trivial (i1 _ (by first|exact hs|simp<;>omega) (by first|exact hr|simp<;>omega)) (.inl rfl) (fun hb=>zrV (by first|exact hs|simp<;>omega) (by first|exact hr|simp<;>omega) hne hb) ?_|refine zIl rfl trivial (i2 _ (by first|exact hs|simp<;>omega) (by first|exact hr|simp<;>omega)) (.inl rfl) (fun hb=>zrV (by first|exact hs|simp<;>omega) (by first|exact hr|simp<;>omega) hne hb) ?_)
     |refine drA zqb 4 0 ?_
     |refine drA zqb 10 0 ?_
     |refine drA zqb 11 0 ?_
     |refine drA zqb 15 0 ?_
     |refine zJ9 ?_ zqb Try.f66.ntmps rfl (by decide)
     |skip)<;>simp only[h,↓zaL,↓zHC,WY,reduceIte,yA,yB,yC,yD,reduceCtorEq,yE,yF,W1,W1B,WS,W3,yH,yI,yJ,yK,yL,yM,zqc,zqa,yG,Bool.or_true,Bool.or_false,Bool.true_or,Bool.false_or,hpU,ubx,uar,stP hs hr hne,zTh,zTg,yN,zGy,zG6,zGx,implies_true,T.ty,List.map_cons,List.map_nil,beq_self_eq_true,hl1,b2,b3,tk,z1,ap,ln,hr',yO,YAK,zGI,zFY]
    all_goals rfl
theorem zsr(hs:p<F.length)(hr:q<F.length)(hne:q≠p)(hw:WfV R)(hl:R.length<=1000000){x w:T}{y':Ty}{k:Int}{v v1:Nat}{R1:List BT}{r:Bool}{y:Int}(h1:(putS (thV R) x).has y=false)(h2:x.stat=false)(hx:x.ty= .mk k 0 [y'])(hwt:w.ty= .mk k 0 [.mk 6 (frN R) []])
 (i1:∀F:List AObj,p<F.length->q<F.length->zAd Try.prog 48 [.bptr p 0,emb (.mk 6 (frN R) []),emb y'] (hpU F p q (v+1) ((y,w)::R)) (.bool r) (hpU F p q v1 R1)):
 zAd Try.prog 66 [.bptr p 0,.int .i64 y,emb x.ty] (hpU F p q v R) (.bool r) (hpU F p q v1 R1):=by
 have q1:=fun(F:List AObj) hs hr=>ztA (v:=v) hne hw hl y _ x (YAV _) F hs hr
 have q2:=fun(F:List AObj) hs hr=>zs7 (v:=v) hne hw hl _ x (YAV _) F hs hr
 rw[zsk hw,h2]at q2
 rw[h1]at q1
 rw[hx]at q1 q2⊢
 have w1:IntKind.wrap .i64 (2*(R.length:Int))=2*(R.length:Int):=ztN (by omega) (by omega)
 have w2:IntKind.wrap .i64 (4194308+2*(R.length:Int))=frN R:=ztN (by omega) (by omega)
 have w3:IntKind.wrap .i64 (frN R+((0:Nat):Int))=frN R:=by unfold frN;rw[show∀x:Int,x+((0:Nat):Int)=x by intro x;omega];exact ztN (by omega) (by omega)
 have hl1:=zqt R
 have b2:(R.length+1<=9223372036854775807)=True:=by simp only[YAb,iff_true];omega
 have b3:((R.length+1)*48<=140737488355328)=True:=by simp only[YAb,iff_true];omega
 have tk:(List.map embB (bdR R)).take R.length=List.map embB (bdR R):=List.take_of_length_le (by simp[hl1])
 generalize frN R=N at*
 unfold zAd
 refine eD zqb Try.func66 Try.results66 fun ok=> ?_
 have h:=YAN
 repeat' (first
  |(with_reducible first|apply bA|apply bB|apply bC|apply bD|apply bE|apply bF)<;>intro h
  |((first|apply bG|apply bH);simp only[yP,yQ,W2,W2B,zqc,zqa,yG,hpU,ubx,uar,stP hs hr hne,zTh,zTg,yN,zGy,zG6,zGx,implies_true,List.map_cons,List.map_nil];first|refine zIB (q1 _ (by first|exact hs|simp<;>omega) (by first|exact hr|simp<;>omega)) (.inl rfl) ?_|refine zIB (q2 _ (by first|exact hs|simp<;>omega) (by first|exact hr|simp<;>omega)) (.inl rfl) ?_)
  |refine drA zqb 4 0 ?_
  |refine drA zqb 10 0 ?_
  |refine drA zqb 11 0 ?_
  |refine drA zqb 15 0 ?_
  |skip)<;>simp only[h,↓zaL,↓zHC,WY,reduceIte,yA,yB,yC,yD,reduceCtorEq,yE,yF,W1,W1B,WS,zqc,zqa,yG,hpU,ubx,uar,stP hs hr hne,zTh,zTg,yN,zGy,zG6,zGx,implies_true,List.map_cons,List.map_nil]
 refine zCN [8,0,1,5,7] ?_
 simp only[List.map_cons,List.map_nil,↓zaL,↓zHC,WY,reduceIte,yA,yB,yC,yD,reduceCtorEq,yE,yF,W1,W1B,WS]
 generalize hbx:AObj.box [.int .i64 k,.int .i64 0,.sl [emb y'] .no]=bx
 refine zrN 1 (fun i:Nat=> [(8,.int .i64 i)]) (fun i=>hpU (ucG F bx k N i) p q v R) (fun i=>i<=1) (fun i=>1-i) zqb 0 rfl (by simp only[hpU,ubx,uar,ucG]) (by decide) (by decide) ?_
 intro i hi
 simp only[List.drop_succ_cons,List.drop_zero,List.cons_append,List.nil_append]
 obtain rfl|rfl:i=0\/i=1:=by omega
 ·simp only[ucG]
  rw[<-hbx]
  have z1:(((0:Nat):Int)<((1:Nat):Int))=True:=by decide
  have h:=YAN
  repeat' (first
   |(with_reducible first|apply bA|apply bB|apply bC|apply bD|apply bE|apply bF)<;>intro h
   |refine drA zqb 4 0 ?_
   |refine drA zqb 10 0 ?_
   |refine drA zqb 11 0 ?_
   |refine drA zqb 15 0 ?_
   |skip)<;>simp only[h,↓zaL,↓zHC,WY,reduceIte,yA,yB,yC,yD,reduceCtorEq,yE,yF,W1,W1B,WS,zqc,zqa,yG,Bool.or_true,Bool.or_false,Bool.true_or,Bool.false_or,hpU,ubx,uar,stP hs hr hne,zTh,zTg,yN,zGy,zG6,zGx,implies_true,T.ty,List.map_cons,List.map_nil,beq_self_eq_true,hl1,b2,b3,tk,w1,w2,YAK,zGI,w3,z1]
  refine⟨1,by omega,by omega,Wider.trans (ztE (r:=F.length+1) (cs:=[.int .i64 k,.int .i64 0,.sl [.agg [.int .i64 6,.int .i64 N,.sl [] .full]] (.own (F.length+2))]) (cs':=[.int .i64 k,.int .i64 0,.sl [emb (.mk 6 N [])] .no]) ?_ (Nat.le_succ _) rfl ?_) (Weak.wider (zap ?_ ?_))⟩
  ·simp only[stP hs hr hne,List.getElem?_cons_succ,List.getElem?_cons_zero]
  ·rintro(_|_|_|i)
   ·exact .inl rfl
   ·exact .inl rfl
   ·exact .inr rfl
   ·exact .inl rfl
  ·simp only[stP hs hr hne,List.set_cons_succ,List.set_cons_zero]
  ·have z2:IntKind.wrap .i64 (((0:Nat):Int)+1)=((1:Nat):Int):=by decide
   simp only[WK,↓zaL,↓zHC,yA,reduceIte,yN,yO,yR,yP,yQ,yB,yC,z2]
 ·simp only[ucG]
  rw[<-hbx]
  have z1:(((1:Nat):Int)<((1:Nat):Int))=False:=by decide
  have ap:List.map embB (bdR R)++ [.agg [.int .i64 y,.int .i64 k,.int .i64 0,.sl [emb (.mk 6 N [])] .no]]=List.map embB (bdR ((y,w)::R)):=by rw[zqr,List.map_append,List.map_cons,hwt];rfl
  have ln:R.length+1=((y,w)::R).length:=rfl
  rw[ln]at b2 b3
  have hr':(q<F.length)=True:=eq_true hr
  generalize (y,w)::R=S at*
  cases r
  all_goals
   have h:=YAN
   repeat' (first
    |(with_reducible first|apply bA|apply bB|apply bC|apply bD|apply bE|apply bF)<;>intro h
    |((first|apply bG|apply bH);simp only[yP,yQ,W2,W2B,W3,yH,yI,yJ,yK,yL,yM,zqc,zqa,yG,Bool.or_true,Bool.or_false,Bool.true_or,Bool.false_or,hpU,ubx,uar,stP hs hr hne,zTh,zTg,yN,zGy,zG6,zGx,implies_true,T.ty,List.map_cons,List.map_nil,beq_self_eq_true,hl1,b2,b3,tk,z1,ap,ln,hr',yO,YAK,zGI];refine zIl rfl trivial (i1 _ (by first|exact hs|simp<;>omega) (by first|exact hr|simp<;>omega)) (.inl rfl) (fun hb=>zrV (by first|exact hs|simp<;>omega) (by first|exact hr|simp<;>omega) hne hb) ?_)
    |refine drA zqb 4 0 ?_
    |refine drA zqb 10 0 ?_
    |refine drA zqb 11 0 ?_
    |refine drA zqb 15 0 ?_
    |refine zJ9 ?_ zqb Try.f66.ntmps rfl (by decide)
    |skip)<;>simp only[h,↓zaL,↓zHC,WY,reduceIte,yA,yB,yC,yD,reduceCtorEq,yE,yF,W1,W1B,WS,W3,yH,yI,yJ,yK,yL,yM,zqc,zqa,yG,Bool.or_true,Bool.or_false,Bool.true_or,Bool.false_or,hpU,ubx,uar,stP hs hr hne,zTh,zTg,yN,zGy,zG6,zGx,implies_true,T.ty,List.map_cons,List.map_nil,beq_self_eq_true,hl1,b2,b3,tk,z1,ap,ln,hr',yO,YAK,zGI,zFY]
   all_goals rfl
end
end
section
theorem zsf{g:List BT->T->T->Option (Bool×List BT)}{R R':List BT}{a b c d:T}{r:Bool}(h:sqV g R [(a,b),(c,d)]=some (r,R')):
 ∃r1 R1,g R a b=some (r1,R1)/\((r1=false/\r=false/\R'=R1)\/(r1=true/\g R1 c d=some (r,R'))):=by
 rw[sqV]at h
 cases hc:g R a b with
 |none=>rw[hc]at h;cases h
 |some q=>
  obtain⟨r1,R1⟩:=q
  rw[hc]at h
  cases r1 with
  |false=>cases h;exact⟨_,_,rfl,.inl ⟨rfl,rfl,rfl⟩⟩
  |true=>
   simp only at h
   rw[sqV]at h
   refine⟨_,_,rfl,.inr ⟨rfl,?_⟩⟩
   cases hd:g R1 c d with
   |none=>rw[hd]at h;cases h
   |some q=>
    obtain⟨r2,R2⟩:=q
    rw[hd]at h
    cases r2 with
    |false=>cases h;rfl
    |true=>simp only[sqV]at h;cases h;rfl
theorem zse{g:List BT->T->T->Option (Bool×List BT)}{R R':List BT}{a b:T}{r:Bool}(h:sqV g R [(a,b)]=some (r,R')):g R a b=some (r,R'):=by
 rw[sqV]at h
 cases hd:g R a b with
 |none=>rw[hd]at h;cases h
 |some q=>
  obtain⟨r2,R2⟩:=q
  rw[hd]at h
  cases r2 with
  |false=>cases h;rfl
  |true=>simp only[sqV]at h;cases h;rfl
theorem zrL{R:List BT}{v:Int}{b:T}(hw:WfV R)(hf:FrV R)(hun:zNg R v=none)(hv:v<frN R)(hk:b.kdV≠[]):
 WfV ((v,frT b (frN R))::R)/\FrV ((v,frT b (frN R))::R)/\FbV (frN R+2) (frT b (frN R)):=by
 have hun0:∀m,(frT b (frN R)).has m=true->zNg R m=none:=fun m hm=>zsh hf (zrH hk hm).1
 have hth:putS (thV R) (frT b (frN R))=frT b (frN R):=by
  have:putS (thV R) (frT b (frN R))=putS T.var (frT b (frN R)):=zr6 _ fun m hm=>zsl (hun0 m hm)
  rw[this,zr8]
 have hnv:∀m,frT b (frN R)≠ .var m:=fun m e=>by
  have:=zrJ b (frN R) hk;rw[e]at this;exact this rfl
 have hft:FbV (frN R+2) (frT b (frN R)):=fun m hm=>(zrH hk hm).2
 refine⟨⟨hw,hun,?_,zrK b _ (.inr hk),fun m e=>absurd e (hnv m)⟩,hf.cons (by omega) hft,hft⟩
 rw[hth]
 cases hc:(frT b (frN R)).has v with
 |false=>rfl
 |true=>have:=(zrH hk hc).1;omega
theorem kd5{x:T}(h:x≠ .dyn):(x.ty.kind==5)=false:=by
 cases x with
 |dyn=>exact absurd rfl h
 |base k=>have:=k.isLt;simp only[T.ty,Ty.kind];rw[YAZ];omega
 |_=>rfl
theorem kd6n{x:T}(h:∀n,x≠ .var n):(x.ty.kind==6)=false:=by
 rcases kd6 (w:=x)with ⟨n,e⟩|e
 ·exact absurd e (h n)
 ·exact e
def UB(p q:Nat)(a b:T)(R:List BT)(r:Bool)(R':List BT):Prop:=∀v,∃v',∀F:List AObj,p<F.length->q<F.length->zAd Try.prog 48 [.bptr p 0,emb a.ty,emb b.ty] (hpU F p q v R) (.bool r) (hpU F p q v' R')
def UBc(p q:Nat)(y:Int)(b:T)(R:List BT)(r:Bool)(R':List BT):Prop:=∀v,∃v',∀F:List AObj,p<F.length->q<F.length->zAd Try.prog 66 [.bptr p 0,.int .i64 y,emb b.ty] (hpU F p q v R) (.bool r) (hpU F p q v' R')
section
variable {p q : Nat}
theorem zsp(hne:q≠p){f:Nat}(ih:∀R a b r R',WfV R->FrV R->FbV (frN R) a->FbV (frN R) b->beV f R a b=some (r,R')->R'.length<=1000000->UB p q a b R r R')
 {R R':List BT} {y:Int} {b:T} {r:Bool} (hw:WfV R) (hf:FrV R) (hun:zNg R y=none) (hy:y<frN R) (hb:FbV (frN R) b) (b4:b≠ .dyn) (b5:∀n,b≠ .var n) (h:rdW (beV f) R (.var y) b=some (r,R')) (hl:R'.length<=1000000) (hlr:R.length<=R'.length):UBc p q y b R r R':=by
 have hl0:R.length<=1000000:=by omega
 simp only[rdW]at h
 split at h
 ·rename_i hh
  cases h
  exact fun v=>⟨v,fun F hs hr=>zsq hs hr hne hw hl0 hh⟩
 rename_i hh
 have hh:(putS (thV R) b).has y=false:=by simpa using hh
 split at h
 ·rename_i hst
  cases h
  exact fun v=>⟨v+1,fun F hs hr=>zss hs hr hne hw hl0 hh hst⟩
 rename_i hst
 have hst:b.stat=false:=by simpa using hst
 have eN:=zrF (y,frT b (frN R)) R
 cases b with
 |dyn=>exact absurd rfl b4
 |var n=>exact absurd rfl (b5 n)
 |base k=>cases hst
 |pair b1 b2=>
  obtain⟨w1,f1,hft⟩:=zrL (b:= .pair b1 b2) hw hf hun hy (by simp[T.kdV])
  have hb1:FbV (frN ((y,frT (.pair b1 b2) (frN R))::R)) b1:=fun n hn=>by rw[eN];have:=hb n (by simp[T.has,hn]);omega
  have hb2:FbV (frN ((y,frT (.pair b1 b2) (frN R))::R)) b2:=fun n hn=>by rw[eN];have:=hb n (by simp[T.has,hn]);omega
  have ha1:FbV (frN ((y,frT (.pair b1 b2) (frN R))::R)) (.var (frN R)):=fun n hn=>by rw[eN];exact hft n (by simp only[T.has]at hn⊢;simp only[frT,T.has,hn,Bool.true_or])
  have ha2:FbV (frN ((y,frT (.pair b1 b2) (frN R))::R)) (.var (frN R+1)):=fun n hn=>by rw[eN];exact hft n (by simp only[T.has]at hn⊢;simp only[frT,T.has,hn,Bool.or_true])
  obtain⟨r1,R1,h1,h2⟩:=zsf h
  have o1:=zqv f _ _ _ _ _ w1 f1 ha1 hb1 h1
  have hm:=zrG o1.len
  rcases h2 with ⟨rfl,rfl,rfl⟩|⟨rfl,h2⟩
  ·intro v
   obtain⟨v1,c1⟩:=ih _ _ _ _ _ w1 f1 ha1 hb1 h1 hl (v+1)
   exact⟨v1,fun F hs hr=>zst hs hr hne hw hl0 hh hst rfl rfl c1 (.inl ⟨rfl,rfl,rfl,rfl⟩)⟩
  ·have o2:=zqv f _ _ _ _ _ o1.wf o1.fr (ha2.mono hm) (hb2.mono hm) h2
   intro v
   obtain⟨v1,c1⟩:=ih _ _ _ _ _ w1 f1 ha1 hb1 h1 (Nat.le_trans o2.len hl) (v+1)
   obtain⟨v2,c2⟩:=ih _ _ _ _ _ o1.wf o1.fr (ha2.mono hm) (hb2.mono hm) h2 hl v1
   exact⟨v2,fun F hs hr=>zst hs hr hne hw hl0 hh hst rfl rfl c1 (.inr ⟨rfl,c2⟩)⟩
 |fn b1 b2=>
  obtain⟨w1,f1,hft⟩:=zrL (b:= .fn b1 b2) hw hf hun hy (by simp[T.kdV])
  have hb1:FbV (frN ((y,frT (.fn b1 b2) (frN R))::R)) b1:=fun n hn=>by rw[eN];have:=hb n (by simp[T.has,hn]);omega
  have hb2:FbV (frN ((y,frT (.fn b1 b2) (frN R))::R)) b2:=fun n hn=>by rw[eN];have:=hb n (by simp[T.has,hn]);omega
  have ha1:FbV (frN ((y,frT (.fn b1 b2) (frN R))::R)) (.var (frN R)):=fun n hn=>by rw[eN];exact hft n (by simp only[T.has]at hn⊢;simp only[frT,T.has,hn,Bool.true_or])
  have ha2:FbV (frN ((y,frT (.fn b1 b2) (frN R))::R)) (.var (frN R+1)):=fun n hn=>by rw[eN];exact hft n (by simp only[T.has]at hn⊢;simp only[frT,T.has,hn,Bool.or_true])
  obtain⟨r1,R1,h1,h2⟩:=zsf h
  have o1:=zqv f _ _ _ _ _ w1 f1 ha1 hb1 h1
  have hm:=zrG o1.len
  rcases h2 with ⟨rfl,rfl,rfl⟩|⟨rfl,h2⟩
  ·intro v
   obtain⟨v1,c1⟩:=ih _ _ _ _ _ w1 f1 ha1 hb1 h1 hl (v+1)
   exact⟨v1,fun F hs hr=>zst hs hr hne hw hl0 hh hst rfl rfl c1 (.inl ⟨rfl,rfl,rfl,rfl⟩)⟩
  ·have o2:=zqv f _ _ _ _ _ o1.wf o1.fr (ha2.mono hm) (hb2.mono hm) h2
   intro v
   obtain⟨v1,c1⟩:=ih _ _ _ _ _ w1 f1 ha1 hb1 h1 (Nat.le_trans o2.len hl) (v+1)
   obtain⟨v2,c2⟩:=ih _ _ _ _ _ o1.wf o1.fr (ha2.mono hm) (hb2.mono hm) h2 hl v1
   exact⟨v2,fun F hs hr=>zst hs hr hne hw hl0 hh hst rfl rfl c1 (.inr ⟨rfl,c2⟩)⟩
 |list b1=>
  obtain⟨w1,f1,hft⟩:=zrL (b:= .list b1) hw hf hun hy (by simp[T.kdV])
  have hb1:FbV (frN ((y,frT (.list b1) (frN R))::R)) b1:=fun n hn=>by rw[eN];have:=hb n (by simpa [T.has]using hn);omega
  have ha1:FbV (frN ((y,frT (.list b1) (frN R))::R)) (.var (frN R)):=fun n hn=>by rw[eN];exact hft n hn
  have h1:=zse h
  intro v
  obtain⟨v1,c1⟩:=ih _ _ _ _ _ w1 f1 ha1 hb1 h1 hl (v+1)
  exact⟨v1,fun F hs hr=>zsr hs hr hne hw hl0 hh hst rfl rfl c1⟩
theorem zsv(hne:q≠p):∀f R a b r R',WfV R->FrV R->FbV (frN R) a->FbV (frN R) b->beV f R a b=some (r,R')->R'.length<=1000000->UB p q a b R r R':=by
 intro f
 induction f with
 |zero=>intro R a b r R' _ _ _ _ h;cases h
 |succ f ih=>
  intro R a b r R' hw hf ha hb h hl
  have o:=zqv (f+1) R a b r R' hw hf ha hb h
  have hlr:=o.len
  have hl0:R.length<=1000000:=by omega
  rw[beV]at h
  have ha':FbV (frN R) (wkV R a):=ztG hf _ _ ha
  have hb':FbV (frN R) (wkV R b):=ztG hf _ _ hb
  have na:=(ztL hw a).2
  have nb:=(ztL hw b).2
  generalize ea:wkV R a=x at*
  generalize eb:wkV R b=y at*
  unfold rdV at h
  by_cases h1:y= .dyn
  ·rw[if_pos (.inl h1)]at h
   cases h
   exact fun v=>⟨v,fun F hs hr=>zsx hs hr hne hw hl0 (eb.trans h1)⟩
  by_cases h2:x=y/\x.kdV=[]
  ·rw[if_pos (.inr h2)]at h
   cases h
   exact fun v=>⟨v,fun F hs hr=>zsy hs hr hne hw hl0 ea (eb.trans h2.1.symm) h2.2 (fun e=>h1 (h2.1▸e))⟩
  rw[if_neg (by rintro(e|e);exact h1 e;exact h2 e)]at h
  by_cases h3:x= .dyn
  ·rw[if_pos h3]at h
   cases h
   exact fun v=>⟨v,fun F hs hr=>zsu hs hr hne hw hl0 (ea.trans h3) eb h1⟩
  rw[if_neg h3]at h
  by_cases h4:∃w,y= .var w
  ·obtain⟨w,rfl⟩:=h4
   have hxw:x≠ .var w:=fun e=>h2 ⟨e,by rw[e];rfl⟩
   have key:=fun(v:Nat) (F:List AObj) hs hr=>zs3 (F:=F) (v:=v) hs hr hne hw hl0 ea eb h3 hxw
   have h:(if(putS (thV R) x).has w=true\/x.stat=false then some (false,R)else some (true,(w,x)::R))=some (r,R'):=h
   split at h
   ·rename_i hh
    cases h
    have e1:((putS (thV R) x).has w|| !x.stat)=true:=by rcases hh with e|e<;>simp[e]
    simp only[e1,if_true,Bool.not_true]at key
    exact fun v=>⟨v,fun F hs hr=>key v F hs hr⟩
   ·rename_i hh
    cases h
    rw[not_or]at hh
    have e1:((putS (thV R) x).has w|| !x.stat)=false:=by simp only[Bool.not_eq_true,Bool.not_eq_false]at hh;simp[hh.1,hh.2]
    simp only[e1,if_false,YAB,Bool.not_false]at key
    exact fun v=>⟨v+1,fun F hs hr=>key v F hs hr⟩
  have h4':∀n,y≠ .var n:=fun n e=>h4 ⟨n,e⟩
  have h:rdW (beV f) R x y=some (r,R'):=by
   cases y<;>first|exact h|exact absurd rfl (h4' _)
  have y5:=kd5 h1
  have y6:=kd6n h4'
  by_cases h5:∃n,x= .var n
  ·obtain⟨n,rfl⟩:=h5
   have hB:=zsp hne ih hw hf (na n rfl) (ha' n (by simp[T.has])) hb' h1 h4' h hl hlr
   intro v
   obtain⟨v',hB⟩:=hB v
   exact⟨v',fun F hs hr=>zsw hs hr hne hw hl0 ea eb y5 y6 hB⟩
  have h5':∀n,x≠ .var n:=fun n e=>h5 ⟨n,e⟩
  have x5:=kd5 h3
  have x6:=kd6n h5'
  have h:(if x.hdV=y.hdV/\x.kdV≠[]then sqV (beV f) R (x.kdV.zip y.kdV)else some (false,R))=some (r,R'):=by
   cases x<;>first|exact h|exact absurd rfl (h5' _)
  split at h
  ·rename_i hh
   cases x with
   |pair a1 a2=>
    cases y with
    |pair b1 b2=>
     obtain⟨r1,R1,g1,g2⟩:=zsf h
     have ha1:FbV (frN R) a1:=fun n hn=>ha' n (by simp[T.has,hn])
     have ha2:FbV (frN R) a2:=fun n hn=>ha' n (by simp[T.has,hn])
     have hb1:FbV (frN R) b1:=fun n hn=>hb' n (by simp[T.has,hn])
     have hb2:FbV (frN R) b2:=fun n hn=>hb' n (by simp[T.has,hn])
     have o1:=zqv f _ _ _ _ _ hw hf ha1 hb1 g1
     have hm:=zrG o1.len
     rcases g2 with ⟨rfl,rfl,rfl⟩|⟨rfl,g2⟩
     ·intro v
      obtain⟨v1,c1⟩:=ih _ _ _ _ _ hw hf ha1 hb1 g1 hl v
      exact⟨v1,fun F hs hr=>zs2 hs hr hne hw hl0 ea eb rfl rfl rfl rfl c1⟩
     ·have o2:=zqv f _ _ _ _ _ o1.wf o1.fr (ha2.mono hm) (hb2.mono hm) g2
      intro v
      obtain⟨v1,c1⟩:=ih _ _ _ _ _ hw hf ha1 hb1 g1 (Nat.le_trans o2.len hl) v
      obtain⟨v2,c2⟩:=ih _ _ _ _ _ o1.wf o1.fr (ha2.mono hm) (hb2.mono hm) g2 hl v1
      exact⟨v2,fun F hs hr=>zs1 hs hr hne hw hl0 ea eb rfl rfl rfl rfl c1 c2⟩
    |base k=>have:=k.isLt;simp[T.hdV]at hh;omega
    |_=>simp[T.hdV]at hh
   |fn a1 a2=>
    cases y with
    |fn b1 b2=>
     obtain⟨r1,R1,g1,g2⟩:=zsf h
     have ha1:FbV (frN R) a1:=fun n hn=>ha' n (by simp[T.has,hn])
     have ha2:FbV (frN R) a2:=fun n hn=>ha' n (by simp[T.has,hn])
     have hb1:FbV (frN R) b1:=fun n hn=>hb' n (by simp[T.has,hn])
     have hb2:FbV (frN R) b2:=fun n hn=>hb' n (by simp[T.has,hn])
     have o1:=zqv f _ _ _ _ _ hw hf ha1 hb1 g1
     have hm:=zrG o1.len
     rcases g2 with ⟨rfl,rfl,rfl⟩|⟨rfl,g2⟩
     ·intro v
      obtain⟨v1,c1⟩:=ih _ _ _ _ _ hw hf ha1 hb1 g1 hl v
      exact⟨v1,fun F hs hr=>zs2 hs hr hne hw hl0 ea eb rfl rfl rfl rfl c1⟩
     ·have o2:=zqv f _ _ _ _ _ o1.wf o1.fr (ha2.mono hm) (hb2.mono hm) g2
      intro v
      obtain⟨v1,c1⟩:=ih _ _ _ _ _ hw hf ha1 hb1 g1 (Nat.le_trans o2.len hl) v
      obtain⟨v2,c2⟩:=ih _ _ _ _ _ o1.wf o1.fr (ha2.mono hm) (hb2.mono hm) g2 hl v1
      exact⟨v2,fun F hs hr=>zs1 hs hr hne hw hl0 ea eb rfl rfl rfl rfl c1 c2⟩
    |base k=>have:=k.isLt;simp[T.hdV]at hh;omega
    |_=>simp[T.hdV]at hh
   |list a1=>
    cases y with
    |list b1=>
     have g1:=zse h
     have ha1:FbV (frN R) a1:=fun n hn=>ha' n (by simpa [T.has]using hn)
     have hb1:FbV (frN R) b1:=fun n hn=>hb' n (by simpa [T.has]using hn)
     intro v
     obtain⟨v1,c1⟩:=ih _ _ _ _ _ hw hf ha1 hb1 g1 hl v
     exact⟨v1,fun F hs hr=>zs0 hs hr hne hw hl0 ea eb rfl rfl rfl rfl c1⟩
    |base k=>have:=k.isLt;simp[T.hdV]at hh;omega
    |_=>simp[T.hdV]at hh
   |_=>exact absurd rfl hh.2
  ·rename_i hh
   cases h
   have hlf:zM3 x.ty y.ty=false:=by
    cases x with
    |base k=>
     cases y with
     |base k'=>
      have e:¬((k.val:Int)+1=(k'.val:Int)+1):=fun e=>h2 ⟨by rw[show k=k' from Fin.ext (by omega)],rfl⟩
      simp[zM3,T.ty,Ty.kids,Ty.kind,Ty.num]
      intro e2;exact absurd (by rw[e2]) e
     |dyn=>exact absurd rfl h1
     |var n=>exact absurd rfl (h4' n)
     |pair c d=>
      have:=k.isLt
      have e:¬((k.val:Int)+1=7):=by omega
      simp[zM3,T.ty,Ty.kids,Ty.kind,Ty.num,e]
     |fn c d=>
      have:=k.isLt
      have e:¬((k.val:Int)+1=9):=by omega
      simp[zM3,T.ty,Ty.kids,Ty.kind,Ty.num,e]
     |list c=>
      have:=k.isLt
      have e:¬((k.val:Int)+1=8):=by omega
      simp[zM3,T.ty,Ty.kids,Ty.kind,Ty.num,e]
    |dyn=>exact absurd rfl h3
    |var n=>exact absurd rfl (h5' n)
    |_=>rfl
   have hlk:zNJ x.ty y.ty=false:=by
    cases x with
    |base k=>rfl
    |dyn=>rfl
    |var n=>rfl
    |pair c d=>
     cases y with
     |base k=>
      have:=k.isLt
      have e:¬((7:Int)=(k.val:Int)+1):=by omega
      simp[zNJ,T.ty,Ty.kids,Ty.kind,e]
     |_=>first|rfl|(simp[T.hdV,T.kdV]at hh;done)
    |fn c d=>
     cases y with
     |base k=>
      have:=k.isLt
      have e:¬((9:Int)=(k.val:Int)+1):=by omega
      simp[zNJ,T.ty,Ty.kids,Ty.kind,e]
     |_=>first|rfl|(simp[T.hdV,T.kdV]at hh;done)
    |list c=>
     cases y with
     |base k=>
      have:=k.isLt
      have e:¬((8:Int)=(k.val:Int)+1):=by omega
      simp[zNJ,T.ty,Ty.kids,Ty.kind,e]
     |_=>first|rfl|(simp[T.hdV,T.kdV]at hh;done)
   exact fun v=>⟨v,fun F hs hr=>zsz hs hr hne hw hl0 ea eb y5 y6 x5 x6 hlf hlk⟩
end
end
end Go.Proofs.Ytmpegnogdgbleaa
