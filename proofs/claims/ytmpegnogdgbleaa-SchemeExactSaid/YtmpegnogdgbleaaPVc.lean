/- Lemmas: variables that are to be found, walked, first part. No condition. -/
import Derived.Test.YtmpegnogdgbleaaPVb
import Derived.Test.YtmpegnogdgbleaaE4
set_option linter.unusedSimpArgs false
set_option linter.unusedVariables false
set_option maxHeartbeats 4000000
set_option maxRecDepth 100000
namespace Go.Proofs.Ytmpegnogdgbleaa
open Go Go.Ab
open Nat renaming reduceEqDiff -> yA, reduceAdd -> yB, reduceLT -> yC, reduceLeDiff -> yD, reduceMul -> yE, reducePow -> yF
open AV renaming belL -> yO, bel -> yN, normL -> yQ, norm -> yP
open AObj renaming bel -> yR
open Int renaming reduceAdd -> yH, reduceLT -> yI, reduceToNat -> yJ, reduceBEq -> yK, reduceBNe -> yL, reduceLE -> yM
attribute [local irreducible] zA0 zAA zAa zAi zAj GoIf GoGb zAk GoO GoD GoX GoDX GoG GoDG GoGv zAl Go zAB
section
def bdR(R:List BT):List Bd:=bdL R.reverse
theorem zqt(R:List BT):(bdR R).length=R.length:=by simp[bdR,bdL]
theorem zrl:∀ {R:List BT},WfV R->∀ {n:Int} {s:T},(n,s)∈R->zNg R n=some s
 |(v,a)::R,h,n,s,hm=>by
  rw[zNg]
  rcases List.mem_cons.1 hm with e|hm
  ·cases e;rw[if_pos rfl]
  ·have:=zrl h.1 hm
   rw[if_neg]
   ·exact this
   ·intro e
    have e:v=n:=e
    subst e
    have:=h.2.1
    rw[zrl h.1 hm]at this;cases this
theorem zqq{R:List BT}{i:Nat}(hi:i<R.length):∃n s,(bdR R).getD i default=(n,s.ty)/\(n,s)∈R:=by
 have h1:i<R.reverse.length:=by simpa using hi
 have h2:=List.getElem_mem h1
 refine⟨(R.reverse[i]).1,(R.reverse[i]).2,?_,List.mem_reverse.1 h2⟩
 have:(bdR R)[i]?=some ((R.reverse[i]).1,(R.reverse[i]).2.ty):=by
  rw[bdR,bdL,List.getElem?_map,YAI h1];rfl
 rw[YAF,this];rfl
theorem zqs{R:List BT}{n:Int}{s:T}(h:zNg R n=some s):∃i,i<R.length/\((bdR R).getD i default).1=n:=by
 have hm:(n,s)∈R.reverse:=by simpa using zNi h
 obtain⟨i,hi,e⟩:=List.mem_iff_getElem.1 hm
 refine⟨i,by simpa using hi,?_⟩
 have:(bdR R)[i]?=some ((R.reverse[i]).1,(R.reverse[i]).2.ty):=by
  rw[bdR,bdL,List.getElem?_map,YAI hi];rfl
 rw[YAF,this,e];rfl
theorem ztH{R:List BT}(h:WfV R):∀(f f':Nat) (t:T),(∀m s,t= .var m->zNg R m=some s->ixV R m<f)->f<=f'->wkF R f t=wkF R f' t:=by
 intro f
 induction f with
 |zero=>
  intro f' t ht _
  refine(ztK (fun m e=> ?_) f').symm
  cases hl:zNg R m with
  |none=>rfl
  |some s=>exact absurd (ht m s e hl) (Nat.not_lt_zero _)
 |succ f ih=>
  intro f' t ht hf
  obtain⟨g,rfl⟩:∃g,f'=g+1:=⟨f'-1,by omega⟩
  cases t with
  |var n=>
   simp only[wkF]
   cases hl:zNg R n with
   |none=>rfl
   |some s=>
    simp only
    refine ih g s (fun m s' e hs=> ?_) (by omega)
    subst e
    have:=ht n _ rfl hl
    have:=zrX h hl hs
    omega
  |_=>rfl
theorem ztM{R:List BT}(h:WfV R){n:Int}{s:T}(hl:zNg R n=some s):wkV R (.var n)=wkV R s:=by
 have h1:=zrW hl
 obtain⟨m,hm⟩:∃m,R.length=m+1:=⟨R.length-1,by omega⟩
 unfold wkV
 rw[hm]
 have e:wkF R (m+1) (.var n)=wkF R m s:=by simp only[wkF,hl]
 rw[e]
 refine ztH h m (m+1) s (fun k s' e hs=> ?_) (by omega)
 subst e
 have:=zrX h hl hs
 omega
def rkV(R:List BT)(w:T):Nat:=match w with
 | .var n=>if(zNg R n).isSome=true then ixV R n+1 else 0
 |_=>0
theorem zsH{R:List BT}(h:WfV R){n:Int}{s:T}(hl:zNg R n=some s):rkV R s<rkV R (.var n):=by
 have e:rkV R (.var n)=ixV R n+1:=by simp[rkV,hl]
 rw[e]
 cases s with
 |var m=>
  simp only[rkV]
  split
  ·rename_i h1
   obtain⟨u,hu⟩:=Option.isSome_iff_exists.1 h1
   have:=zrX h hl hu
   omega
  ·omega
 |_=>simp[rkV]
def ubx(q v n:Nat):AObj:= .box [.ms q v n]
def uar(v:Nat)(R:List BT):AObj:= .arr v 4 ((bdR R).map embB)
def hpU(F:List AObj)(p q v:Nat)(R:List BT):List AObj:=stF F p q (ubx q v R.length) (uar v R)
theorem zrV{F:List AObj}{p q v v' b:Nat}{R R':List BT}(hs:p<F.length)(hr:q<F.length)(hne:q≠p)
 (h:∀x∈(hpU F p q v R).take b,x.bel b=true):∀x∈(hpU F p q v' R').take b,x.bel b=true:=
 zXA hs hr hne (fun _ h=>by simpa only[ubx,yR,yO,yN]using h) (by simp only[uar,yR,zOX]) h
theorem kd6{w:T}:(∃n,w= .var n)\/(w.ty.kind==6)=false:=by
 cases w with
 |var n=>exact .inl ⟨n,rfl⟩
 |base k=>right;have:=k.isLt;simp only[T.ty,Ty.kind];rw[YAZ];omega
 |_=>right;rfl
section
variable {F : List AObj} {p q v : Nat} {R : List BT}
theorem zs8(hs:p<F.length)(hr:q<F.length)(hne:q≠p)(hw:WfV R)(hl:R.length<=1000000)(t:T):zAd Try.prog 62 [.bptr p 0,emb t.ty] (hpU F p q v R) (emb (wkV R t).ty) (hpU F p q v R):=by
 have hbl:=zqt R
 have hmax:R.length<=maxLen:=by rw[zPC];omega
 unfold zAd
 refine eD C_ok Try.func62 Try.results62 fun ok=> ?_
 have h:=YAN
 repeat' (first
  |(with_reducible first|apply bA|apply bB|apply bC|apply bD|apply bE|apply bF)<;>intro h
  |refine drA C_ok 4 0 ?_
  |skip)<;>simp only[h,↓zaL,↓zHC,WY,reduceIte,yA,yB,yC,yD,reduceCtorEq,yE,yF,W1,W1B,WS,hpU,ubx,uar,stP hs hr hne,zTh,zTg,yN,zGy,zG6]
 refine zCN [5,0,3,4] ?_
 simp only[List.map_cons,List.map_nil,↓zaL,↓zHC,WY,reduceIte,yA,yB,yC,yD,reduceCtorEq,yE,yF,W1,W1B,WS]
 refine zJ1 1 (fun st:T×Nat=> [(5,.int .i64 st.2)]) (fun st=>hpU (F++ [.box [.int .i64 st.1.ty.kind,.int .i64 st.1.ty.num,.sl (st.1.ty.kids.map emb) .no],.box [.int .i64 0,.int .i64 0,.sl [] .full]]) p q v R) (fun st=>wkV R st.1=wkV R t/\st.2<=R.length/\∀n,st.1= .var n->∀j,j<st.2->((bdR R).getD j default).1≠n) (fun st=>rkV R st.1*(R.length+1)+(R.length-st.2)) C_ok (t,0) rfl (by simp only[hpU,ubx,uar]) ⟨rfl,YAX _,fun n _ j hj=>absurd hj (Nat.not_lt_zero _)⟩ (by decide) ?_
 rintro⟨w,i⟩ ⟨h1,hi,h3⟩
 simp only at h1 hi h3
 simp only[List.drop_succ_cons,List.drop_zero,List.cons_append,List.nil_append]
 have hfin:zqg R w->wkV R t=w:=fun h=>by rw[<-h1];exact ztK h _
 by_cases hlt:i<R.length
 ·have hlt':i<(bdR R).length:=by omega
  obtain⟨n',s,hat,hmem⟩:=zqq hlt
  have hls:=zrl hw hmem
  rcases kd6 (w:=w)with ⟨n,rfl⟩|hk
  ·by_cases e:n'=n
   ·subst e
    have hst:=ztM hw hls
    have hrk:=zsH hw hls
    have w0:IntKind.wrap .i64 (-1+1)=((0:Nat):Int):=by decide
    have h:=YAN
    repeat' (first
     |(with_reducible first|apply bA|apply bB|apply bC|apply bD|apply bE|apply bF)<;>intro h
     |refine drA C_ok 4 0 ?_
     |skip)<;>simp only[h,↓zaL,↓zHC,WY,reduceIte,yA,yB,yC,yD,reduceCtorEq,yE,yF,W1,W1B,WS,hpU,ubx,uar,stP hs hr hne,zTh,zTg,yN,zGy,zG6,T.ty,Ty.kind,Ty.num,Ty.kids,List.map_nil,hlt,hlt',hbl,zOY hlt',hat,zGI,beq_self_eq_true,w0,YAK]
    refine⟨(s,0),⟨hst.symm.trans h1,YAX _,fun n _ j hj=>absurd hj (Nat.not_lt_zero _)⟩,?_,zap ?_ ?_⟩
    ·have:=Nat.mul_le_mul_right (R.length+1) hrk
     rw[Nat.succ_mul]at this
     simp only
     omega
    ·rfl
    ·simp only[WK,↓zaL,↓zHC,yA,reduceIte,yN,yO,yR,yP,yQ,yB,yC]
   ·have eb:(n'==n)=false:=YAZ.2 e
    have h:=YAN
    repeat' (first
     |(with_reducible first|apply bA|apply bB|apply bC|apply bD|apply bE|apply bF)<;>intro h
     |refine drA C_ok 4 0 ?_
     |skip)<;>simp only[h,↓zaL,↓zHC,WY,reduceIte,yA,yB,yC,yD,reduceCtorEq,yE,yF,W1,W1B,WS,hpU,ubx,uar,stP hs hr hne,zTh,zTg,yN,zGy,zG6,T.ty,Ty.kind,Ty.num,Ty.kids,List.map_nil,hlt,hlt',hbl,zOY hlt',hat,zGI,beq_self_eq_true,eb,YAK]
    refine⟨(.var n,i+1),⟨h1,hlt,fun m em j hj=> ?_⟩,by simp only;omega,zap ?_ ?_⟩
    ·cases em
     by_cases ej:j=i
     ·subst ej;rw[hat];exact e
     ·exact h3 n rfl j (by omega)
    ·rfl
    ·simp only[WK,↓zaL,↓zHC,yA,reduceIte,yN,yO,yR,yP,yQ,yB,yC,zbX hlt hmax]
  ·have hE:zqg R w:=fun m e=>by subst e;simp[T.ty,Ty.kind]at hk
   rw[hfin hE]
   have h:=YAN
   repeat' (first
    |(with_reducible first|apply bA|apply bB|apply bC|apply bD|apply bE|apply bF)<;>intro h
    |refine drA C_ok 4 0 ?_
    |skip)<;>simp only[h,↓zaL,↓zHC,WY,reduceIte,yA,yB,yC,yD,reduceCtorEq,yE,yF,W1,W1B,WS,hpU,ubx,uar,stP hs hr hne,zTh,zTg,yN,zGy,zG6,hlt,hlt',hbl,hk,YAK]
   exact zGx _ _
 ·have hi':i=R.length:=by omega
  subst hi'
  have hE:zqg R w:=fun m e=>by
   cases hl2:zNg R m with
   |none=>rfl
   |some s=>
    obtain⟨j,j1,j2⟩:=zqs hl2
    exact absurd j2 (h3 m e j j1)
  rw[hfin hE]
  have h:=YAN
  repeat' (first
   |(with_reducible first|apply bA|apply bB|apply bC|apply bD|apply bE|apply bF)<;>intro h
   |refine drA C_ok 4 0 ?_
   |skip)<;>simp only[h,↓zaL,↓zHC,WY,reduceIte,yA,yB,yC,yD,reduceCtorEq,yE,yF,W1,W1B,WS,hpU,ubx,uar,stP hs hr hne,zTh,zTg,yN,zGy,zG6,hbl,Nat.lt_irrefl,Int.lt_irrefl,YAK]
  exact zGx _ _
end
end
section
section
variable {p q v : Nat} {R : List BT}
theorem ztA(hne:q≠p)(hw:WfV R)(hl:R.length<=1000000)(n:Int):∀(m:Nat) (t:T),(putS (thV R) t).size<=m->∀F:List AObj,p<F.length->q<F.length->
 zAd Try.prog 64 [.bptr p 0,.int .i64 n,emb t.ty] (hpU F p q v R) (.bool ((putS (thV R) t).has n)) (hpU F p q v R):=by
 intro m
 induction m with
 |zero=>intro t ht;have:=zsX (putS (thV R) t);omega
 |succ m ih=>
  intro t ht F hs hr
  have qw:=fun F hs hr=>zs8 (F:=F) (v:=v) hs hr hne hw hl t
  obtain⟨e1,e2⟩:=ztL hw t
  rw[<-e1]
  rw[<-e1]at ht
  generalize wkV R t=w at*
  unfold zAd
  cases w with
  |var k=>
   have e3:=zsl (e2 k rfl)
   simp only[putS,e3,T.has]
   by_cases h:k=n
   ·subst h
    rw[decide_eq_true rfl]
    refine eD C_ok Try.func64 Try.results64 fun ok=> ?_
    have h:=YAN
    repeat' (first
     |(with_reducible first|apply bA|apply bB|apply bC|apply bD|apply bE|apply bF)<;>intro h
     |((first|apply bG|apply bH);simp only[yP,yQ,W2,W2B,W3,yH,yI,yJ,yK,yL,yM,hpU,ubx,uar,stP hs hr hne,zTh,zTg,yN,zGy,zG6,zGx,implies_true,T.ty,List.map_cons,List.map_nil,beq_self_eq_true];refine zIB (qw _ (by first|exact hs|simp<;>omega) (by first|exact hr|simp<;>omega)) (.inl rfl) ?_)
     |refine zJ9 ?_ C_ok Try.f64.ntmps rfl (by decide)
     |skip)<;>simp only[h,↓zaL,↓zHC,WY,reduceIte,yA,yB,yC,yD,reduceCtorEq,yE,yF,W1,W1B,WS,W3,yH,yI,yJ,yK,yL,yM,hpU,ubx,uar,stP hs hr hne,zTh,zTg,yN,zGy,zG6,zGx,implies_true,T.ty,List.map_cons,List.map_nil,beq_self_eq_true,zFY]
    all_goals rfl
   ·rw[decide_eq_false h]
    have eb:(k==n)=false:=YAZ.2 h
    refine eD C_ok Try.func64 Try.results64 fun ok=> ?_
    have h:=YAN
    repeat' (first
     |(with_reducible first|apply bA|apply bB|apply bC|apply bD|apply bE|apply bF)<;>intro h
     |((first|apply bG|apply bH);simp only[yP,yQ,W2,W2B,W3,yH,yI,yJ,yK,yL,yM,hpU,ubx,uar,stP hs hr hne,zTh,zTg,yN,zGy,zG6,zGx,implies_true,T.ty,List.map_cons,List.map_nil,beq_self_eq_true,eb];refine zIB (qw _ (by first|exact hs|simp<;>omega) (by first|exact hr|simp<;>omega)) (.inl rfl) ?_)
     |refine zJ9 ?_ C_ok Try.f64.ntmps rfl (by decide)
     |skip)<;>simp only[h,↓zaL,↓zHC,WY,reduceIte,yA,yB,yC,yD,reduceCtorEq,yE,yF,W1,W1B,WS,W3,yH,yI,yJ,yK,yL,yM,hpU,ubx,uar,stP hs hr hne,zTh,zTg,yN,zGy,zG6,zGx,implies_true,T.ty,List.map_cons,List.map_nil,beq_self_eq_true,eb,zFY]
    all_goals rfl
  |base k=>
   have hk6:(((k.val:Int)+1)==6)=false:=by have:=k.isLt;rw[YAZ];omega
   simp only[putS,T.has]
   refine eD C_ok Try.func64 Try.results64 fun ok=> ?_
   have h:=YAN
   repeat' (first
    |(with_reducible first|apply bA|apply bB|apply bC|apply bD|apply bE|apply bF)<;>intro h
    |((first|apply bG|apply bH);simp only[yP,yQ,W2,W2B,W3,yH,yI,yJ,yK,yL,yM,hpU,ubx,uar,stP hs hr hne,zTh,zTg,yN,zGy,zG6,zGx,implies_true,T.ty,List.map_cons,List.map_nil,beq_self_eq_true,hk6];refine zIB (qw _ (by first|exact hs|simp<;>omega) (by first|exact hr|simp<;>omega)) (.inl rfl) ?_)
    |refine zJ9 ?_ C_ok Try.f64.ntmps rfl (by decide)
    |skip)<;>simp only[h,↓zaL,↓zHC,WY,reduceIte,yA,yB,yC,yD,reduceCtorEq,yE,yF,W1,W1B,WS,W3,yH,yI,yJ,yK,yL,yM,hpU,ubx,uar,stP hs hr hne,zTh,zTg,yN,zGy,zG6,zGx,implies_true,T.ty,List.map_cons,List.map_nil,beq_self_eq_true,hk6,zFY]
   all_goals rfl
  |dyn=>
   simp only[putS,T.has]
   refine eD C_ok Try.func64 Try.results64 fun ok=> ?_
   have h:=YAN
   repeat' (first
    |(with_reducible first|apply bA|apply bB|apply bC|apply bD|apply bE|apply bF)<;>intro h
    |((first|apply bG|apply bH);simp only[yP,yQ,W2,W2B,W3,yH,yI,yJ,yK,yL,yM,hpU,ubx,uar,stP hs hr hne,zTh,zTg,yN,zGy,zG6,zGx,implies_true,T.ty,List.map_cons,List.map_nil,beq_self_eq_true];refine zIB (qw _ (by first|exact hs|simp<;>omega) (by first|exact hr|simp<;>omega)) (.inl rfl) ?_)
    |refine zJ9 ?_ C_ok Try.f64.ntmps rfl (by decide)
    |skip)<;>simp only[h,↓zaL,↓zHC,WY,reduceIte,yA,yB,yC,yD,reduceCtorEq,yE,yF,W1,W1B,WS,W3,yH,yI,yJ,yK,yL,yM,hpU,ubx,uar,stP hs hr hne,zTh,zTg,yN,zGy,zG6,zGx,implies_true,T.ty,List.map_cons,List.map_nil,beq_self_eq_true,zFY]
   all_goals rfl
  |pair a b=>
   simp only[putS,T.size]at ht
   have qa:=fun F hs hr=>ih a (by omega) F hs hr
   have qb:=fun F hs hr=>ih b (by omega) F hs hr
   simp only[putS,T.has]
   generalize (putS (thV R) a).has n=x at*
   generalize (putS (thV R) b).has n=y at*
   cases x<;>cases y
   all_goals
    refine eD C_ok Try.func64 Try.results64 fun ok=> ?_
    have h:=YAN
    repeat' (first
     |(with_reducible first|apply bA|apply bB|apply bC|apply bD|apply bE|apply bF)<;>intro h
     |((first|apply bG|apply bH);simp only[yP,yQ,W2,W2B,W3,yH,yI,yJ,yK,yL,yM,hpU,ubx,uar,stP hs hr hne,zTh,zTg,yN,zGy,zG6,zGx,implies_true,T.ty,List.map_cons,List.map_nil,beq_self_eq_true];first|refine zIB (qw _ (by first|exact hs|simp<;>omega) (by first|exact hr|simp<;>omega)) (.inl rfl) ?_|refine zIB (qa _ (by first|exact hs|simp<;>omega) (by first|exact hr|simp<;>omega)) (.inl rfl) ?_|refine zIB (qb _ (by first|exact hs|simp<;>omega) (by first|exact hr|simp<;>omega)) (.inl rfl) ?_)
     |refine zJ9 ?_ C_ok Try.f64.ntmps rfl (by decide)
     |skip)<;>simp only[h,↓zaL,↓zHC,WY,reduceIte,yA,yB,yC,yD,reduceCtorEq,yE,yF,W1,W1B,WS,W3,yH,yI,yJ,yK,yL,yM,hpU,ubx,uar,stP hs hr hne,zTh,zTg,yN,zGy,zG6,zGx,implies_true,T.ty,List.map_cons,List.map_nil,beq_self_eq_true,zFY]
    all_goals rfl
  |fn a b=>
   simp only[putS,T.size]at ht
   have qa:=fun F hs hr=>ih a (by omega) F hs hr
   have qb:=fun F hs hr=>ih b (by omega) F hs hr
   simp only[putS,T.has]
   generalize (putS (thV R) a).has n=x at*
   generalize (putS (thV R) b).has n=y at*
   cases x<;>cases y
   all_goals
    refine eD C_ok Try.func64 Try.results64 fun ok=> ?_
    have h:=YAN
    repeat' (first
     |(with_reducible first|apply bA|apply bB|apply bC|apply bD|apply bE|apply bF)<;>intro h
     |((first|apply bG|apply bH);simp only[yP,yQ,W2,W2B,W3,yH,yI,yJ,yK,yL,yM,hpU,ubx,uar,stP hs hr hne,zTh,zTg,yN,zGy,zG6,zGx,implies_true,T.ty,List.map_cons,List.map_nil,beq_self_eq_true];first|refine zIB (qw _ (by first|exact hs|simp<;>omega) (by first|exact hr|simp<;>omega)) (.inl rfl) ?_|refine zIB (qa _ (by first|exact hs|simp<;>omega) (by first|exact hr|simp<;>omega)) (.inl rfl) ?_|refine zIB (qb _ (by first|exact hs|simp<;>omega) (by first|exact hr|simp<;>omega)) (.inl rfl) ?_)
     |refine zJ9 ?_ C_ok Try.f64.ntmps rfl (by decide)
     |skip)<;>simp only[h,↓zaL,↓zHC,WY,reduceIte,yA,yB,yC,yD,reduceCtorEq,yE,yF,W1,W1B,WS,W3,yH,yI,yJ,yK,yL,yM,hpU,ubx,uar,stP hs hr hne,zTh,zTg,yN,zGy,zG6,zGx,implies_true,T.ty,List.map_cons,List.map_nil,beq_self_eq_true,zFY]
    all_goals rfl
  |list a=>
   simp only[putS,T.size]at ht
   have qa:=fun F hs hr=>ih a (by omega) F hs hr
   simp only[putS,T.has]
   generalize (putS (thV R) a).has n=x at*
   cases x
   all_goals
    refine eD C_ok Try.func64 Try.results64 fun ok=> ?_
    have h:=YAN
    repeat' (first
     |(with_reducible first|apply bA|apply bB|apply bC|apply bD|apply bE|apply bF)<;>intro h
     |((first|apply bG|apply bH);simp only[yP,yQ,W2,W2B,W3,yH,yI,yJ,yK,yL,yM,hpU,ubx,uar,stP hs hr hne,zTh,zTg,yN,zGy,zG6,zGx,implies_true,T.ty,List.map_cons,List.map_nil,beq_self_eq_true];first|refine zIB (qw _ (by first|exact hs|simp<;>omega) (by first|exact hr|simp<;>omega)) (.inl rfl) ?_|refine zIB (qa _ (by first|exact hs|simp<;>omega) (by first|exact hr|simp<;>omega)) (.inl rfl) ?_)
     |refine zJ9 ?_ C_ok Try.f64.ntmps rfl (by decide)
     |skip)<;>simp only[h,↓zaL,↓zHC,WY,reduceIte,yA,yB,yC,yD,reduceCtorEq,yE,yF,W1,W1B,WS,W3,yH,yI,yJ,yK,yL,yM,hpU,ubx,uar,stP hs hr hne,zTh,zTg,yN,zGy,zG6,zGx,implies_true,T.ty,List.map_cons,List.map_nil,beq_self_eq_true,zFY]
    all_goals rfl
theorem zs7(hne:q≠p)(hw:WfV R)(hl:R.length<=1000000):∀(m:Nat) (t:T),(putS (thV R) t).size<=m->∀F:List AObj,p<F.length->q<F.length->
 zAd Try.prog 65 [.bptr p 0,emb t.ty] (hpU F p q v R) (.bool ((putS (thV R) t).stat)) (hpU F p q v R):=by
 intro m
 induction m with
 |zero=>intro t ht;have:=zsX (putS (thV R) t);omega
 |succ m ih=>
  intro t ht F hs hr
  have qw:=fun F hs hr=>zs8 (F:=F) (v:=v) hs hr hne hw hl t
  obtain⟨e1,e2⟩:=ztL hw t
  rw[<-e1]
  rw[<-e1]at ht
  generalize wkV R t=w at*
  unfold zAd
  cases w with
  |var k=>
   have e3:=zsl (e2 k rfl)
   simp only[putS,e3,T.stat]
   refine eD C_ok Try.func65 Try.results65 fun ok=> ?_
   have h:=YAN
   repeat' (first
    |(with_reducible first|apply bA|apply bB|apply bC|apply bD|apply bE|apply bF)<;>intro h
    |((first|apply bG|apply bH);simp only[yP,yQ,W2,W2B,W3,yH,yI,yJ,yK,yL,yM,hpU,ubx,uar,stP hs hr hne,zTh,zTg,yN,zGy,zG6,zGx,implies_true,T.ty,List.map_cons,List.map_nil,beq_self_eq_true];refine zIB (qw _ (by first|exact hs|simp<;>omega) (by first|exact hr|simp<;>omega)) (.inl rfl) ?_)
    |refine zJ9 ?_ C_ok Try.f65.ntmps rfl (by decide)
    |skip)<;>simp only[h,↓zaL,↓zHC,WY,reduceIte,yA,yB,yC,yD,reduceCtorEq,yE,yF,W1,W1B,WS,W3,yH,yI,yJ,yK,yL,yM,hpU,ubx,uar,stP hs hr hne,zTh,zTg,yN,zGy,zG6,zGx,implies_true,T.ty,List.map_cons,List.map_nil,beq_self_eq_true,zFY]
   all_goals rfl
  |base k=>
   have hk5:(((k.val:Int)+1)==5)=false:=by have:=k.isLt;rw[YAZ];omega
   simp only[putS,T.stat]
   refine eD C_ok Try.func65 Try.results65 fun ok=> ?_
   have h:=YAN
   repeat' (first
    |(with_reducible first|apply bA|apply bB|apply bC|apply bD|apply bE|apply bF)<;>intro h
    |((first|apply bG|apply bH);simp only[yP,yQ,W2,W2B,W3,yH,yI,yJ,yK,yL,yM,hpU,ubx,uar,stP hs hr hne,zTh,zTg,yN,zGy,zG6,zGx,implies_true,T.ty,List.map_cons,List.map_nil,beq_self_eq_true,hk5];refine zIB (qw _ (by first|exact hs|simp<;>omega) (by first|exact hr|simp<;>omega)) (.inl rfl) ?_)
    |refine zJ9 ?_ C_ok Try.f65.ntmps rfl (by decide)
    |skip)<;>simp only[h,↓zaL,↓zHC,WY,reduceIte,yA,yB,yC,yD,reduceCtorEq,yE,yF,W1,W1B,WS,W3,yH,yI,yJ,yK,yL,yM,hpU,ubx,uar,stP hs hr hne,zTh,zTg,yN,zGy,zG6,zGx,implies_true,T.ty,List.map_cons,List.map_nil,beq_self_eq_true,hk5,zFY]
   all_goals rfl
  |dyn=>
   simp only[putS,T.stat]
   refine eD C_ok Try.func65 Try.results65 fun ok=> ?_
   have h:=YAN
   repeat' (first
    |(with_reducible first|apply bA|apply bB|apply bC|apply bD|apply bE|apply bF)<;>intro h
    |((first|apply bG|apply bH);simp only[yP,yQ,W2,W2B,W3,yH,yI,yJ,yK,yL,yM,hpU,ubx,uar,stP hs hr hne,zTh,zTg,yN,zGy,zG6,zGx,implies_true,T.ty,List.map_cons,List.map_nil,beq_self_eq_true];refine zIB (qw _ (by first|exact hs|simp<;>omega) (by first|exact hr|simp<;>omega)) (.inl rfl) ?_)
    |refine zJ9 ?_ C_ok Try.f65.ntmps rfl (by decide)
    |skip)<;>simp only[h,↓zaL,↓zHC,WY,reduceIte,yA,yB,yC,yD,reduceCtorEq,yE,yF,W1,W1B,WS,W3,yH,yI,yJ,yK,yL,yM,hpU,ubx,uar,stP hs hr hne,zTh,zTg,yN,zGy,zG6,zGx,implies_true,T.ty,List.map_cons,List.map_nil,beq_self_eq_true,zFY]
   all_goals rfl
  |pair a b=>
   simp only[putS,T.size]at ht
   have qa:=fun F hs hr=>ih a (by omega) F hs hr
   have qb:=fun F hs hr=>ih b (by omega) F hs hr
   simp only[putS,T.stat]
   generalize (putS (thV R) a).stat=x at*
   generalize (putS (thV R) b).stat=y at*
   cases x<;>cases y
   all_goals
    refine eD C_ok Try.func65 Try.results65 fun ok=> ?_
    have h:=YAN
    repeat' (first
     |(with_reducible first|apply bA|apply bB|apply bC|apply bD|apply bE|apply bF)<;>intro h
     |((first|apply bG|apply bH);simp only[yP,yQ,W2,W2B,W3,yH,yI,yJ,yK,yL,yM,hpU,ubx,uar,stP hs hr hne,zTh,zTg,yN,zGy,zG6,zGx,implies_true,T.ty,List.map_cons,List.map_nil,beq_self_eq_true];first|refine zIB (qw _ (by first|exact hs|simp<;>omega) (by first|exact hr|simp<;>omega)) (.inl rfl) ?_|refine zIB (qa _ (by first|exact hs|simp<;>omega) (by first|exact hr|simp<;>omega)) (.inl rfl) ?_|refine zIB (qb _ (by first|exact hs|simp<;>omega) (by first|exact hr|simp<;>omega)) (.inl rfl) ?_)
     |refine zJ9 ?_ C_ok Try.f65.ntmps rfl (by decide)
     |skip)<;>simp only[h,↓zaL,↓zHC,WY,reduceIte,yA,yB,yC,yD,reduceCtorEq,yE,yF,W1,W1B,WS,W3,yH,yI,yJ,yK,yL,yM,hpU,ubx,uar,stP hs hr hne,zTh,zTg,yN,zGy,zG6,zGx,implies_true,T.ty,List.map_cons,List.map_nil,beq_self_eq_true,zFY]
    all_goals rfl
  |fn a b=>
   simp only[putS,T.size]at ht
   have qa:=fun F hs hr=>ih a (by omega) F hs hr
   have qb:=fun F hs hr=>ih b (by omega) F hs hr
   simp only[putS,T.stat]
   generalize (putS (thV R) a).stat=x at*
   generalize (putS (thV R) b).stat=y at*
   cases x<;>cases y
   all_goals
    refine eD C_ok Try.func65 Try.results65 fun ok=> ?_
    have h:=YAN
    repeat' (first
     |(with_reducible first|apply bA|apply bB|apply bC|apply bD|apply bE|apply bF)<;>intro h
     |((first|apply bG|apply bH);simp only[yP,yQ,W2,W2B,W3,yH,yI,yJ,yK,yL,yM,hpU,ubx,uar,stP hs hr hne,zTh,zTg,yN,zGy,zG6,zGx,implies_true,T.ty,List.map_cons,List.map_nil,beq_self_eq_true];first|refine zIB (qw _ (by first|exact hs|simp<;>omega) (by first|exact hr|simp<;>omega)) (.inl rfl) ?_|refine zIB (qa _ (by first|exact hs|simp<;>omega) (by first|exact hr|simp<;>omega)) (.inl rfl) ?_|refine zIB (qb _ (by first|exact hs|simp<;>omega) (by first|exact hr|simp<;>omega)) (.inl rfl) ?_)
     |refine zJ9 ?_ C_ok Try.f65.ntmps rfl (by decide)
     |skip)<;>simp only[h,↓zaL,↓zHC,WY,reduceIte,yA,yB,yC,yD,reduceCtorEq,yE,yF,W1,W1B,WS,W3,yH,yI,yJ,yK,yL,yM,hpU,ubx,uar,stP hs hr hne,zTh,zTg,yN,zGy,zG6,zGx,implies_true,T.ty,List.map_cons,List.map_nil,beq_self_eq_true,zFY]
    all_goals rfl
  |list a=>
   simp only[putS,T.size]at ht
   have qa:=fun F hs hr=>ih a (by omega) F hs hr
   simp only[putS,T.stat]
   generalize (putS (thV R) a).stat=x at*
   cases x
   all_goals
    refine eD C_ok Try.func65 Try.results65 fun ok=> ?_
    have h:=YAN
    repeat' (first
     |(with_reducible first|apply bA|apply bB|apply bC|apply bD|apply bE|apply bF)<;>intro h
     |((first|apply bG|apply bH);simp only[yP,yQ,W2,W2B,W3,yH,yI,yJ,yK,yL,yM,hpU,ubx,uar,stP hs hr hne,zTh,zTg,yN,zGy,zG6,zGx,implies_true,T.ty,List.map_cons,List.map_nil,beq_self_eq_true];first|refine zIB (qw _ (by first|exact hs|simp<;>omega) (by first|exact hr|simp<;>omega)) (.inl rfl) ?_|refine zIB (qa _ (by first|exact hs|simp<;>omega) (by first|exact hr|simp<;>omega)) (.inl rfl) ?_)
     |refine zJ9 ?_ C_ok Try.f65.ntmps rfl (by decide)
     |skip)<;>simp only[h,↓zaL,↓zHC,WY,reduceIte,yA,yB,yC,yD,reduceCtorEq,yE,yF,W1,W1B,WS,W3,yH,yI,yJ,yK,yL,yM,hpU,ubx,uar,stP hs hr hne,zTh,zTg,yN,zGy,zG6,zGx,implies_true,T.ty,List.map_cons,List.map_nil,beq_self_eq_true,zFY]
    all_goals rfl
end
end
end Go.Proofs.Ytmpegnogdgbleaa
