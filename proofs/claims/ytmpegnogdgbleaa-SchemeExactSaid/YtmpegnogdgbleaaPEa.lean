/- Lemmas: substitution and numbers anew. No condition. -/
import Derived.Test.YtmpegnogdgbleaaP2a
import Derived.Test.YtmpegnogdgbleaaPAc
import Derived.Test.YtmpegnogdgbleaaPSb
import Derived.Test.YtmpegnogdgbleaaPVa
set_option linter.unusedSimpArgs false
set_option linter.unusedVariables false
set_option maxHeartbeats 4000000
set_option maxRecDepth 100000
namespace Go.Proofs.Ytmpegnogdgbleaa
open Go Go.Ab
open Nat renaming reduceEqDiff -> yA, reduceAdd -> yB, reduceLT -> yC, reduceLeDiff -> yD, reduceMul -> yE, reducePow -> yF
open Int renaming reduceAdd -> yH, reduceLT -> yI, reduceToNat -> yJ, reduceBEq -> yK, reduceBNe -> yL, reduceLE -> yM
open AV renaming normL -> yQ, norm -> yP, belL -> yO, bel -> yN
open AObj renaming bel -> yR
attribute [local irreducible] zA0 zAA zAa zAi zAj GoIf GoGb zAk GoO GoD GoX GoDX GoG GoDG GoGv zAl Go zAB
section
def zSq(l:List Bd)(M:List (Int×Int)):T->Ty
 | .base k=>(T.base k).ty
 | .dyn=>T.dyn.ty
 | .var n=>match mget M n with|some i=>(l.getD i.toNat default).2|none=> .mk 6 n []
 | .pair a b=> .mk 7 0 [zSq l M a,zSq l M b]
 | .fn a b=> .mk 9 0 [zSq l M a,zSq l M b]
 | .list a=> .mk 8 0 [zSq l M a]
theorem zTF{P:Program}{f:Nat}{args:List AV}{x:AV}{X:AObj}{q:Nat}{e:Nat->AV}{G:List AObj}{b k:Nat}(h:∀F:List AObj,F[q]?=some X->zAd P f args F x F)(hg:G[q]?=some X)(hm:X.mute=false):zA5 P f args x (FS e G b k).obj:=
 fun F' hF=>h F' (hF _ _ (by rw[zIP];exact hg) hm)
section
variable {l : List Bd} {M : List (Int × Int)} {mr : Nat}
def SPut(l:List Bd)(M:List (Int×Int))(mr:Nat)(t r:Ty):Prop:=∀F:List AObj,F[mr]?=some (.map (embM M))->zAd Try.prog 38 [emb t,.sl (l.map embB) .no,.mp mr] F (emb r) F
theorem zW3(k:Int)(hk:(k==6)=false):SPut l M mr (.mk k 0 []) (.mk k 0 []):=by
 intro F hm
 unfold zAd
 have hml:=zIc hm
 refine eD C_ok Try.func38 Try.results38 fun ok=> ?_
 have h:=YAN
 repeat' (first
  |(with_reducible first|apply bA|apply bB|apply bC|apply bD|apply bE|apply bF)<;>intro h
  |refine drA C_ok 12 0 ?_
  |refine zJ9 ?_ C_ok Try.f38.ntmps rfl (by decide)
  |skip)<;>simp only[h,↓zaL,↓zHC,WY,reduceIte,yA,yB,yC,yD,reduceCtorEq,yE,yF,W1,W1B,WS,W3,yH,yI,yJ,yK,yL,yM,hk,hml,zCS hml,hm,zGx,zTh,zTg,zFY]
 all_goals exact List.take_left' rfl
theorem zW6(k:Int)(hk:(k==6)=false){x y x' y':Ty}(i1:SPut l M mr x x')(i2:SPut l M mr y y'):SPut l M mr (.mk k 0 [x,y]) (.mk k 0 [x',y']):=by
 intro F hm
 unfold zAd
 have hml:=zIc hm
 have hG:∀J,(F++J)[mr]?=some (.map (embM M)):=fun J=>by rw[YAG hml];exact hm
 refine eD C_ok Try.func38 Try.results38 fun ok=> ?_
 have h:=YAN
 repeat' (first
  |(with_reducible first|apply bA|apply bB|apply bC|apply bD|apply bE|apply bF)<;>intro h
  |((first|apply bG|apply bH);simp only[yP,yQ,W2,W2B,W3,yH,yI,yJ,yK,yL,yM,hk,hml,hG,hm,zGx,zTh,zTg];first|refine zIk rfl (zTF i1 (hG _) rfl) (.inl rfl) ?_|refine zIk rfl (zTF i2 (hG _) rfl) (.inl rfl) ?_)
  |refine drA C_ok 12 0 ?_
  |refine zJ9 ?_ C_ok Try.f38.ntmps rfl (by decide)
  |skip)<;>simp only[h,↓zaL,↓zHC,WY,reduceIte,yA,yB,yC,yD,reduceCtorEq,yE,yF,W1,W1B,WS,W3,yH,yI,yJ,yK,yL,yM,hk,hml,hG,hm,zGx,zTh,zTg,zFY]
 all_goals exact List.take_left' rfl
theorem zW5(k:Int)(hk:(k==6)=false){x x':Ty}(i1:SPut l M mr x x'):SPut l M mr (.mk k 0 [x]) (.mk k 0 [x']):=by
 intro F hm
 unfold zAd
 have hml:=zIc hm
 have hG:∀J,(F++J)[mr]?=some (.map (embM M)):=fun J=>by rw[YAG hml];exact hm
 refine eD C_ok Try.func38 Try.results38 fun ok=> ?_
 have h:=YAN
 repeat' (first
  |(with_reducible first|apply bA|apply bB|apply bC|apply bD|apply bE|apply bF)<;>intro h
  |((first|apply bG|apply bH);simp only[yP,yQ,W2,W2B,W3,yH,yI,yJ,yK,yL,yM,hk,hml,hG,hm,zGx,zTh,zTg];refine zIk rfl (zTF i1 (hG _) rfl) (.inl rfl) ?_)
  |refine drA C_ok 12 0 ?_
  |refine zJ9 ?_ C_ok Try.f38.ntmps rfl (by decide)
  |skip)<;>simp only[h,↓zaL,↓zHC,WY,reduceIte,yA,yB,yC,yD,reduceCtorEq,yE,yF,W1,W1B,WS,W3,yH,yI,yJ,yK,yL,yM,hk,hml,hG,hm,zGx,zTh,zTg,zFY]
 all_goals exact List.take_left' rfl
theorem zW7(hM:∀n i,mget M n=some i->∃k:Nat,i=k/\k<l.length)(n:Int):SPut l M mr (.mk 6 n []) (zSq l M (.var n)):=by
 intro F hm
 unfold zAd
 have hml:=zIc hm
 have hG:∀J,(F++J)[mr]?=some (.map (embM M)):=fun J=>by rw[YAG hml];exact hm
 cases hg:mget M n with
 |none=>
  have hp:zSq l M (.var n)= .mk 6 n []:=by simp[zSq,hg]
  rw[hp]
  refine eD C_ok Try.func38 Try.results38 fun ok=> ?_
  have h:=YAN
  repeat' (first
   |(with_reducible first|apply bA|apply bB|apply bC|apply bD|apply bE|apply bF)<;>intro h
   |refine drA C_ok 12 0 ?_
   |refine zJ9 ?_ C_ok Try.f38.ntmps rfl (by decide)
   |skip)<;>simp only[h,↓zaL,↓zHC,WY,reduceIte,yA,yB,yC,yD,reduceCtorEq,yE,yF,W1,W1B,WS,W3,yH,yI,yJ,yK,yL,yM,hml,hG,hm,zHe,zHx,zPN,zMT,hg,Option.getD_none,Option.isSome_none,zGx,zTh,zTg,zFY]
  all_goals exact List.take_left' rfl
 |some i=>
  obtain⟨k,rfl,hk⟩:=hM n i hg
  have hp:zSq l M (.var n)=(l.getD k default).2:=by simp[zSq,hg]
  rw[hp]
  have hb:=zOY hk
  generalize l.getD k default=p at*
  refine eD C_ok Try.func38 Try.results38 fun ok=> ?_
  have h:=YAN
  repeat' (first
   |(with_reducible first|apply bA|apply bB|apply bC|apply bD|apply bE|apply bF)<;>intro h
   |refine drA C_ok 12 0 ?_
   |refine zJ9 ?_ C_ok Try.f38.ntmps rfl (by decide)
   |skip)<;>simp only[h,↓zaL,↓zHC,WY,reduceIte,yA,yB,yC,yD,reduceCtorEq,yE,yF,W1,W1B,WS,W3,yH,yI,yJ,yK,yL,yM,hml,hG,hm,zHe,zHx,zPN,zMT,hg,hk,hb,Option.getD_some,Option.isSome_some,YAK,zGx,zTh,zTg,zFY]
  all_goals exact List.take_left' rfl
theorem zVP(hM:∀n i,mget M n=some i->∃k:Nat,i=k/\k<l.length):∀t:T,SPut l M mr t.ty (zSq l M t):=by
 intro t
 induction t with
 |base k=>exact zW3 _ (by rw[YAZ];have:=k.isLt;omega)
 |dyn=>exact zW3 5 rfl
 |var n=>exact zW7 hM n
 |pair a b ih1 ih2=>exact zW6 7 rfl ih1 ih2
 |fn a b ih1 ih2=>exact zW6 9 rfl ih1 ih2
 |list a ih1=>exact zW5 8 rfl ih1
end
end
section
def zHm(l:List Bd):Nat->List (Int×Int)
 |0=> []
 |i+1=>if(mget (zHm l i) (l.getD i default).1).isSome=true then zHm l i else mput (zHm l i) (l.getD i default).1 i
theorem zNb(l m:List Bd)(n:Int):zNa (l++m) n=(zNa l n).or (zNa m n):=by
 induction l with
 |nil=>simp[zNa]
 |cons p l ih=>simp only[List.cons_append,zNa];split<;>simp[ih]
theorem zHn(l:List Bd)(n:Int):∀i,i<=l.length->(∀k,mget (zHm l i) n=some k->∃j:Nat,k=j/\j<i)/\(mget (zHm l i) n).map (fun k=>(l.getD k.toNat default).2)=zNa (l.take i) n:=by
 intro i
 induction i with
 |zero=>intro _;exact⟨fun k h=>by simp[zHm,mget]at h,by simp[zHm,mget,zNa]⟩
 |succ i ih=>
  intro hi
  have hlt:i<l.length:=by omega
  obtain⟨h1,h2⟩:=ih (by omega)
  have e:l.take (i+1)=l.take i++ [l.getD i default]:=by rw[List.take_add_one,YAI hlt,Option.toList_some];simp[hlt]
  rw[e,zNb,<-h2]
  simp only[zHm]
  split
  ·rename_i hs
   refine⟨fun k hk=>by obtain⟨j,e1,e2⟩:=h1 k hk;exact⟨j,e1,by omega⟩,?_⟩
   by_cases hn:(l.getD i default).1=n
   ·rw[hn]at hs
    obtain⟨k,hk⟩:=Option.isSome_iff_exists.1 hs
    simp[hk]
   ·simp only[zNa,if_neg hn,Option.or_none]
  ·rename_i hs
   have hs':=Option.not_isSome_iff_eq_none.1 hs
   refine⟨fun k hk=> ?_,?_⟩
   ·rw[zPO]at hk
    split at hk
    ·cases hk;exact⟨i,rfl,by omega⟩
    ·obtain⟨j,e1,e2⟩:=h1 k hk;exact⟨j,e1,by omega⟩
   ·rw[zPO]
    by_cases hn:(l.getD i default).1=n
    ·rw[hn]at hs'
     simp[hn,hs',zNa]
    ·simp only[if_neg hn,zNa,Option.or_none]
def okBd(p:Bd):Bool:=decide (0<=p.1)&&decide (p.1<=1048576)&&right p.2
def okBs(l:List Bd):Bool:=l.all okBd
theorem zSn{l:List Bd}(hl:okBs l=true):∀t:T,zSq l (zHm l l.length) t=(putS (sigB l) t).ty:=by
 intro t
 induction t with
 |base k=>rfl
 |dyn=>rfl
 |var n=>
  have h2:=(zHn l n l.length (YAV _)).2
  rw[List.take_length]at h2
  simp only[zSq,putS,sigB]
  cases hg:mget (zHm l l.length) n with
  |none=>rw[hg]at h2;simp only[Option.map_none]at h2;rw[<-h2];rfl
  |some k=>
   rw[hg]at h2
   simp only[Option.map_some]at h2
   rw[<-h2]
   obtain⟨p,hp,e1,e2⟩:=zNd l n _ h2.symm
   have hr:right p.2=true:=by
    have:=List.all_eq_true.1 hl p hp
    simp only[okBd,YAA]at this;exact this.2
   obtain⟨x,hx⟩:=T.zRA p.2 hr
   simp only
   rw[<-e2,hx,zX5]
 |pair a b ih1 ih2=>simp only[zSq,putS,T.ty,ih1,ih2]
 |fn a b ih1 ih2=>simp only[zSq,putS,T.ty,ih1,ih2]
 |list a ih1=>simp only[zSq,putS,T.ty,ih1]
noncomputable def zXv(t:Ty)(l:List Bd):AV:=if right t=true/\okBs l=true then .tup [emb (putS (sigB l) (tOf t)).ty,.int .i64 0]else .tup [emb (.mk 0 0 []),.int .i64 1]
theorem zXw(t:Ty)(l:List Bd):(zXv t l).bel 0=true:=by
 unfold zXv
 split<;>simp[yN,yO,zGx]
theorem zXx(t:Ty)(l:List Bd):zA0 Try.prog 13 [emb t,.sl (l.map embB) .no] (zXv t l):=by
 refine zSZ (zXw t l) fun F=> ?_
 unfold zAd
 have qc:=zEj t
 by_cases hr:right t=true
 ·rw[if_pos hr]at qc
  have htrue:okBs l=true->zXv t l= .tup [emb (zSq l (zHm l l.length) (tOf t)),.int .i64 0]:=fun h=>by rw[zXv,if_pos ⟨hr,h⟩,zSn h]
  have hfalse:okBs l≠true->zXv t l= .tup [emb (.mk 0 0 []),.int .i64 1]:=fun h=>by rw[zXv,if_neg fun h'=>h h'.2]
  have hbel:=zXw t l
  have hput:=fun G hG=>zVP (l:=l) (M:=zHm l l.length) (mr:=F.length+2) (fun n i h=>by
   obtain⟨j,e1,e2⟩:=(zHn l n l.length (YAV _)).1 i h;exact⟨j,e1,e2⟩) (tOf t) G hG
  obtain⟨x,rfl⟩:=T.zRA t hr
  rw[zX5]at hput htrue
  have hputR:=fun G (hG:G[F.length+2]?=some (.map (embM (zHm l l.length))))=>hput G hG
  generalize hP:zSq l (zHm l l.length) x=P at*
  generalize zXv x.ty l=R at*
  clear hput
  have hstep:∀i,i<l.length->zHm l (i+1)=if(mget (zHm l i) (l.getD i default).1).isSome=true then zHm l i else mput (zHm l i) (l.getD i default).1 i:=fun i _=>rfl
  refine eD C_ok Try.func13 Try.results13 fun ok=> ?_
  have hmax:l.length<=maxLen:=by
   have:=ok.2.1;simp only[AV.okay,YAK]at this;exact this.1
  have h:=YAN
  repeat' (first
   |(with_reducible first|apply bA|apply bB|apply bC|apply bD|apply bE|apply bF)<;>intro h
   |((first|apply bG|apply bH);simp only[yP,yQ,W2,W2B,YAK,YAO];first|refine zIf (qc) (.inl rfl) ?_|refine zIj (qc) (.inl rfl) ?_)
   |skip)<;>simp only[h,↓zaL,↓zHC,WY,reduceIte,yA,yB,yC,yD,reduceCtorEq,yE,yF,W1,W1B,WS,YAK,YAO]
  refine zCN [18,1,2,4,6,16,17] ?_
  simp only[List.map_cons,List.map_nil,↓zaL,↓zHC,WY,reduceIte,yA,yB,yC,yD,reduceCtorEq,yE,yF,W1,W1B,WS]
  refine zJ1 1 (fun i:Nat=> [(18,.int .i64 i)]) (fun i=>F++ [.box [.int .i64 x.ty.kind,.int .i64 x.ty.num,.sl (x.ty.kids.map emb) .no],.box [.int .i64 0,.int .i64 0,.sl [] .full],.map (embM (zHm l i))]) (fun i=>i<=l.length/\∀j,j<i->okBd (l.getD j default)=true) (fun i=>l.length-i) C_ok 0 rfl rfl ⟨YAX _,by simp⟩ (by decide) ?_
  rintro i ⟨hi,hall⟩
  simp only[List.drop_succ_cons,List.drop_zero,List.cons_append,List.nil_append]
  by_cases hlt:i<l.length
  ·have hg:=zOY hlt
   have hst:=hstep i hlt
   have hbad:okBd (l.getD i default)≠true->R= .tup [emb (.mk 0 0 []),.int .i64 1]:=fun h=>hfalse fun h'=>h (List.all_eq_true.1 h' _ (by simp[hlt]))
   have qp:=zEj (l.getD i default).2
   have hokd:okBd (l.getD i default)=(decide (0<=(l.getD i default).1)&&decide ((l.getD i default).1<=1048576)&&right (l.getD i default).2):=rfl
   generalize hp:l.getD i default=p at*
   by_cases h1:p.1<0
   ·have hR:=hbad (by rw[hokd];simp;omega)
    rw[hR]
    have h:=YAN
    repeat' (first
     |(with_reducible first|apply bA|apply bB|apply bC|apply bD|apply bE|apply bF)<;>intro h
     |((first|apply bG|apply bH);simp only[yP,yQ,W2,W2B,hlt,hg,h1,YAK,zGI,zGx,yO,zTh,zTg];first|refine zIf (qp) (.inl rfl) ?_|refine zIj (qp) (.inl rfl) ?_)
     |skip)<;>simp only[h,↓zaL,↓zHC,WY,reduceIte,yA,yB,yC,yD,reduceCtorEq,yE,yF,W1,W1B,WS,hlt,hg,h1,YAK,zGI,zGx,yO,zTh,zTg]
    all_goals exact⟨by simp only[yN,yO,zGx,Bool.and_self,Bool.and_true],List.take_left' rfl⟩
   ·by_cases h2:1048576<p.1
    ·have hR:=hbad (by rw[hokd];simp;omega)
     rw[hR]
     have h:=YAN
     repeat' (first
      |(with_reducible first|apply bA|apply bB|apply bC|apply bD|apply bE|apply bF)<;>intro h
      |((first|apply bG|apply bH);simp only[yP,yQ,W2,W2B,hlt,hg,h1,h2,YAK,zGI,zGx,yO,zTh,zTg];first|refine zIf (qp) (.inl rfl) ?_|refine zIj (qp) (.inl rfl) ?_)
      |skip)<;>simp only[h,↓zaL,↓zHC,WY,reduceIte,yA,yB,yC,yD,reduceCtorEq,yE,yF,W1,W1B,WS,hlt,hg,h1,h2,YAK,zGI,zGx,yO,zTh,zTg]
     all_goals exact⟨by simp only[yN,yO,zGx,Bool.and_self,Bool.and_true],List.take_left' rfl⟩
    ·by_cases h3:right p.2=true
     ·rw[if_pos h3]at qp
      have hokp:okBd p=true:=by rw[hokd,h3];simp;omega
      cases hm:mget (zHm l i) p.1 with
      |some k=>
       rw[hm,Option.isSome_some,if_pos rfl]at hst
       have h:=YAN
       repeat' (first
        |(with_reducible first|apply bA|apply bB|apply bC|apply bD|apply bE|apply bF)<;>intro h
        |((first|apply bG|apply bH);simp only[yP,yQ,W2,W2B,hlt,hg,h1,h2,hm,zHe,zHx,zPN,zOl,zMT,Option.getD_some,Option.isSome_some,YAK,zGI,zGx,yO,YAO];first|refine zIf (qp) (.inl rfl) ?_|refine zIj (qp) (.inl rfl) ?_)
        |skip)<;>simp only[h,↓zaL,↓zHC,WY,reduceIte,yA,yB,yC,yD,reduceCtorEq,yE,yF,W1,W1B,WS,hlt,hg,h1,h2,hm,zHe,zHx,zPN,zOl,zMT,Option.getD_some,Option.isSome_some,YAK,zGI,zGx,yO,YAO]
       refine⟨i+1,⟨by omega,fun j hj=> ?_⟩,by omega,zaq ?_ ?_ ?_ ?_ ?_⟩
       ·rcases Nat.lt_succ_iff_lt_or_eq.1 hj with hj|rfl
        ·exact hall j hj
        ·rw[hp];exact hokp
       ·rw[hst,<-List.take_append_drop 3 [_,_,_,_],<-List.append_assoc]
        exact List.take_left' (by simp)
       ·simp
       ·simp only[WK,↓zaL,↓zHC,yA,reduceIte,yN,yO,yR,yP,yQ,yB,yC,zbX hlt hmax]
       ·simp only[WK,↓zaL,↓zHC,yA,reduceIte,yN,yO,yR,yP,yQ,yB,yC,zOX,zOq,YAJ]
        simp
       ·rw[List.drop_left' rfl]
        simp only[WK,↓zaL,↓zHC,yA,reduceIte,yN,yO,yR,yP,yQ,yB,yC,zOq]
        exact zGW _ _
      |none=>
       rw[hm]at hst
       simp only[Option.isSome_none,YAB,if_false]at hst
       have h:=YAN
       repeat' (first
        |(with_reducible first|apply bA|apply bB|apply bC|apply bD|apply bE|apply bF)<;>intro h
        |((first|apply bG|apply bH);simp only[yP,yQ,W2,W2B,hlt,hg,h1,h2,hm,zHe,zHx,zPN,zOl,zMT,Option.getD_none,Option.isSome_none,YAK,zGI,zGx,yO,YAO];first|refine zIf (qp) (.inl rfl) ?_|refine zIj (qp) (.inl rfl) ?_)
        |skip)<;>simp only[h,↓zaL,↓zHC,WY,reduceIte,yA,yB,yC,yD,reduceCtorEq,yE,yF,W1,W1B,WS,hlt,hg,h1,h2,hm,zHe,zHx,zPN,zOl,zMT,Option.getD_none,Option.isSome_none,YAK,zGI,zGx,yO,YAO]
       refine⟨i+1,⟨by omega,fun j hj=> ?_⟩,by omega,zaq ?_ ?_ ?_ ?_ ?_⟩
       ·rcases Nat.lt_succ_iff_lt_or_eq.1 hj with hj|rfl
        ·exact hall j hj
        ·rw[hp];exact hokp
       ·rw[hst,<-List.take_append_drop 3 [_,_,_,_],<-List.append_assoc]
        exact List.take_left' (by simp)
       ·simp
       ·simp only[WK,↓zaL,↓zHC,yA,reduceIte,yN,yO,yR,yP,yQ,yB,yC,zbX hlt hmax]
       ·simp only[WK,↓zaL,↓zHC,yA,reduceIte,yN,yO,yR,yP,yQ,yB,yC,zOX,zOq,YAJ]
        simp
       ·rw[List.drop_left' rfl]
        simp only[WK,↓zaL,↓zHC,yA,reduceIte,yN,yO,yR,yP,yQ,yB,yC,zOq]
        exact zGW _ _
     ·rw[if_neg h3]at qp
      have hR:=hbad (by rw[hokd];simp[h3])
      rw[hR]
      have hb:((1:Int) !=0)=true:=by decide
      have h:=YAN
      repeat' (first
       |(with_reducible first|apply bA|apply bB|apply bC|apply bD|apply bE|apply bF)<;>intro h
       |((first|apply bG|apply bH);simp only[yP,yQ,W2,W2B,hlt,hg,h1,h2,hb,YAK,zGI,zGx,yO,zTh,zTg];first|refine zIf (qp) (.inl rfl) ?_|refine zIj (qp) (.inl rfl) ?_)
       |skip)<;>simp only[h,↓zaL,↓zHC,WY,reduceIte,yA,yB,yC,yD,reduceCtorEq,yE,yF,W1,W1B,WS,hlt,hg,h1,h2,hb,YAK,zGI,zGx,yO,zTh,zTg]
      all_goals exact⟨by simp only[yN,yO,zGx,Bool.and_self,Bool.and_true],List.take_left' rfl⟩
  ·have hi':i=l.length:=by omega
   subst hi'
   have hok:okBs l=true:=List.all_eq_true.2 fun p hp=>by
    obtain⟨j,hj,rfl⟩:=List.mem_iff_getElem.1 hp
    have:=hall j hj
    simpa [hj]using this
   rw[htrue hok]
   have hput:=hputR (F++ [.box [.int .i64 x.ty.kind,.int .i64 x.ty.num,.sl (x.ty.kids.map emb) .no],.box [.int .i64 0,.int .i64 0,.sl [] .full],.map (embM (zHm l l.length))]) (zCU rfl)
   have h:=YAN
   repeat' (first
    |(with_reducible first|apply bA|apply bB|apply bC|apply bD|apply bE|apply bF)<;>intro h
    |((first|apply bG|apply bH);simp only[yP,yQ,W2,W2B,YAK,Nat.lt_irrefl,Int.lt_irrefl,zGx,yO,zOZ,zTh,zTg];refine zIB (hput) (.inl rfl) ?_)
    |skip)<;>simp only[h,↓zaL,↓zHC,WY,reduceIte,yA,yB,yC,yD,reduceCtorEq,yE,yF,W1,W1B,WS,YAK,Nat.lt_irrefl,Int.lt_irrefl,zGx,yO,zOZ,zTh,zTg]
   all_goals exact⟨by simp only[yN,yO,zGx,Bool.and_self,Bool.and_true],List.take_left' rfl⟩
 ·rw[if_neg hr]at qc
  have e:zXv t l= .tup [emb (.mk 0 0 []),.int .i64 1]:=by rw[zXv,if_neg fun h=>hr h.1]
  rw[e]
  have hb:((1:Int) !=0)=true:=by decide
  refine eD C_ok Try.func13 Try.results13 fun ok=> ?_
  have h:=YAN
  repeat' (first
   |(with_reducible first|apply bA|apply bB|apply bC|apply bD|apply bE|apply bF)<;>intro h
   |((first|apply bG|apply bH);simp only[yP,yQ,W2,W2B,hb,zGx,yO,zTh,zTg];first|refine zIf (qc) (.inl rfl) ?_|refine zIj (qc) (.inl rfl) ?_)
   |skip)<;>simp only[h,↓zaL,↓zHC,WY,reduceIte,yA,yB,yC,yD,reduceCtorEq,yE,yF,W1,W1B,WS,hb,zGx,yO,zTh,zTg]
  all_goals exact⟨by simp only[yN,yO,zGx,Bool.and_self,Bool.and_true],List.take_left' rfl⟩
end
section
def numG(vs:List Int)(i:Nat):Bd:=(vs.getD i 0,.mk 6 i [])
def numB(vs:List Int):List Bd:=(List.range vs.length).map (numG vs)
theorem zjj{vs:List Int}(h:∀n∈vs,0<=n/\n<=1048576)(hl:vs.length<=1048577):okBs (numB vs)=true:=by
 refine List.all_eq_true.2 fun p hp=> ?_
 obtain⟨i,hi,rfl⟩:=List.mem_map.1 hp
 rw[List.mem_range]at hi
 have h1:=h (vs.getD i 0) (by simp[hi])
 have h2:right (.mk 6 i [])=true:=by
  have:(T.var (i:Int)).ok=true:=by simp[T.ok];omega
  rw[<-T.zT5]at this;exact this
 simp only[okBd,numG,h2,Bool.and_true,YAA];exact⟨decide_eq_true h1.1,decide_eq_true h1.2⟩
theorem zjT:∀(vs:List Int) (n:Int),n∈vs->zNa (numB vs) n=some (.mk 6 (idxI vs n) []):=by
 have key:∀(vs ws:List Int) (k:Nat) (n:Int),(∀i,i<vs.length->ws.getD (k+i) 0=vs.getD i 0)->n∈vs->zNa ((List.range' k vs.length).map (numG ws)) n=some (.mk 6 ((k:Int)+idxI vs n) []):=by
  intro vs
  induction vs with
  |nil=>intro ws k n _ h;cases h
  |cons v vs ih=>
   intro ws k n hw hn
   have h0:=hw 0 (by simp)
   simp only[Nat.add_zero,List.getD_cons_zero]at h0
   simp only[List.length_cons,List.range'_succ,List.map_cons,zNa,numG]
   rw[h0]
   by_cases e:v=n
   ·subst e;simp[idxI]
   ·rw[if_neg e]
    have hn':n∈vs:=by rcases List.mem_cons.1 hn with h|h;exact absurd h.symm e;exact h
    have:=ih ws (k+1) n (fun i hi=>by have:=hw (i+1) (by simpa using hi);rw[show k+1+i=k+(i+1)by omega,this];simp) hn'
    rw[this]
    have e2:(v::vs).idxOf n=vs.idxOf n+1:=by rw[List.idxOf_cons,YAZ.2 e,cond_false]
    unfold idxI
    rw[e2]
    congr 2
    omega
 intro vs n hn
 have:=key vs vs 0 n (fun i _=>by rw[Nat.zero_add]) hn
 rw[numB,List.range_eq_range',this]
 simp
theorem zka{x:T}:putS (sigB (numB (x.zaU []))) x=zEI x:=by
 refine zSx x fun n hn=> ?_
 rw[sigB,zjT _ n (zPK.2 hn)]
 exact zX5 (.var (idxI (x.zaU []) n))
theorem zab(x:T):zaa x.ty=x.zaU []:=by rw[zaa,T.zaX]
theorem zLA:∀ {x:T},x.ok=true->∀n,x.has n=true->0<=n/\n<=1048576:=by
 intro x
 induction x with
 |base k=>intro _ n h;simp[T.has]at h
 |dyn=>intro _ n h;simp[T.has]at h
 |var m=>intro h n hn;simp only[T.has,YAa]at hn;subst hn;simpa [T.ok]using h
 |pair a b ih1 ih2=>intro h n hn;simp only[T.ok,YAA]at h;simp only[T.has,YAP]at hn;exact hn.elim (ih1 h.1 n) (ih2 h.2 n)
 |fn a b ih1 ih2=>intro h n hn;simp only[T.ok,YAA]at h;simp only[T.has,YAP]at hn;exact hn.elim (ih1 h.1 n) (ih2 h.2 n)
 |list a ih1=>intro h n hn;simp only[T.ok]at h;simp only[T.has]at hn;exact ih1 h n hn
theorem zki{x:T}(hx:x.ok=true)(hs:nodes x.ty<=1048576):zA0 Try.prog 13 [emb x.ty,.sl ((numB (x.zaU [])).map embB) .no] (.tup [emb (zEI x).ty,.int .i64 0]):=by
 have hl:=zac x.ty
 rw[zab]at hl
 have hok:=zjj (vs:=x.zaU []) (fun n hn=>zLA hx n (zPK.1 hn)) (by omega)
 have:=zXx x.ty (numB (x.zaU []))
 rw[zXv,if_pos ⟨by rw[T.zT5];exact hx,hok⟩,zX5,zka]at this
 exact this
def numV(vs:List Int)(i:Nat):AV:= .agg [.int .i64 (vs.getD i 0),.int .i64 6,.int .i64 i,.sl [] .full]
theorem zjm(vs:List Int):∀l:List Nat,AV.normL (l.map (numV vs))=(l.map (numG vs)).map embB
 | []=>rfl
 |i::l=>by simp only[List.map_cons,yQ,zjm vs l];rfl
theorem zjk(vs:List Int)(m:Nat):∀l:List Nat,AV.belL m (l.map (numV vs))=true
 | []=>rfl
 |i::l=>by simp only[List.map_cons,yO,zjk vs m l,Bool.and_true];rfl
theorem zjl(vs:List Int)(l:List Nat):(∀y,y∈l.map (numV vs)->(cellsOf y).length=4)=True:=by
 simp only[YAb,iff_true];intro y hy;obtain⟨i,_,rfl⟩:=List.mem_map.1 hy;rfl
noncomputable def zEH(t:Ty):AV:=if right t=true then .tup [emb (zEI (tOf t)).ty,.int .i64 0]else .tup [emb (.mk 0 0 []),.int .i64 1]
theorem zh5(t:Ty):(zEH t).bel 0=true:=by
 unfold zEH
 split<;>simp[yN,yO,zGx]
theorem zh6(t:Ty)(hs:nodes t<=1048576):zA0 Try.prog 14 [emb t] (zEH t):=by
 have qc:=zEj t
 by_cases hr:right t=true
 ·rw[if_pos hr]at qc
  have hv:=ziq t hs
  have hvl:=zac t
  have hbel:=zh5 t
  have hR:zEH t= .tup [emb (zEI (tOf t)).ty,.int .i64 0]:=by rw[zEH,if_pos hr]
  obtain⟨x,rfl⟩:=T.zRA t hr
  have hsub:=zki (by rw[<-T.zT5];exact hr) hs
  rw[<-zab]at hsub
  rw[zX5]at hR
  rw[hR]at hbel⊢
  generalize (zEI x).ty=X at*
  generalize zaa x.ty=vs at*
  have hroom:∀i,i<vs.length->((i+1)*48<=140737488355328)=True:=fun i h=>by simp only[YAb,iff_true];omega
  have hroom2:∀i,i<vs.length->(i+1<=9223372036854775807)=True:=fun i h=>by simp only[YAb,iff_true];omega
  have hmax:vs.length<=maxLen:=by rw[zPC];omega
  refine zSa C_ok Try.func14 rfl (by decide) (YAL rfl) (by decide) hbel fun ok H=> ?_
  rw[Try.results14]
  have h:=YAN
  repeat' (first
   |(with_reducible first|apply bA|apply bB|apply bC|apply bD|apply bE|apply bF)<;>intro h
   |((first|apply bG|apply bH);simp only[yP,yQ,W2,W2B,zLY,YAO];first|refine zIf (qc) (.inl rfl) ?_|refine zIf (hv) (.inl rfl) ?_|refine zIj (qc) (.inl rfl) ?_|refine zIj (hv) (.inl rfl) ?_)
   |skip)<;>simp only[h,↓zaL,↓zHC,WZ,reduceIte,yA,yB,yC,yD,reduceCtorEq,yE,yF,W1,W1B,zLY,YAO]
  refine aloop_trim [4,14,1,2,12,13] ?_
  simp only[List.map_cons,List.map_nil,↓zaL,↓zHC,WZ,reduceIte,yA,yB,yC,yD,reduceCtorEq,yE,yF,W1,W1B]
  refine zJ2 2 2 (fun i:Nat=> [(4,match i with
   |0=> .sl [] .full
   |i+1=> .sl ((List.range (i+1)).map (numV vs)) (.own (H.length+2))),(14,.int .i64 i)]) (fun i=>match i with
   |0=> []
   |i+1=> [.tok (i+1) 4]) (fun i=>i<=vs.length) (fun i=>vs.length-i) C_ok 0 rfl rfl (YAX _) (by decide) ?_
  rintro(_|i) hi
  ·simp only[List.drop_succ_cons,List.drop_zero,List.cons_append,List.nil_append,List.take_succ_cons,List.take_zero]
   simp only[↓zaL,↓zHC,WZ,reduceIte,yA,yB,yC,yD,reduceCtorEq,yE,yF,W1,W1B]
   refine zJv (fun hlt=> ?_) (fun hlt=> ?_)
   ·have h:=YAN
    repeat' (first
     |(with_reducible first|apply bA|apply bB|apply bC|apply bD|apply bE|apply bF)<;>intro h
     |skip)<;>simp only[h,↓zaL,↓zHC,WZ,reduceIte,yA,yB,yC,yD,reduceCtorEq,yE,yF,W1,W1B,hlt,zOt hlt,zLY,hroom 0 hlt,hroom2 0 hlt,YAK,zjl]
    refine⟨0+1,hlt,by omega,zas rfl rfl rfl ?_ ?_ ?_ ?_⟩<;>(try simp only[WK,↓zaL,↓zHC,yA,reduceIte,yN,yO,yR,yP,yQ,yB,yC,zbX hlt hmax,zOq,zjk,zLy,yO,YAK])<;>(try simp[List.range_succ,numV,zGy])<;>(try omega)<;>(try rfl)
   ·have h0:vs.length=0:=by omega
    simp only[numB,h0,List.range_zero,List.map_nil]at hsub
    have h:=YAN
    repeat' (first
     |(with_reducible first|apply bA|apply bB|apply bC|apply bD|apply bE|apply bF)<;>intro h
     |((first|apply bG|apply bH);simp only[yP,yQ,W2,W2B,YAK,zjm];first|refine zIf (hsub) (.inl rfl) ?_|refine zIj (hsub) (.inl rfl) ?_)
     |skip)<;>simp only[h,↓zaL,↓zHC,WZ,reduceIte,yA,yB,yC,yD,reduceCtorEq,yE,yF,W1,W1B,YAK,zjm]
  ·simp only[List.drop_succ_cons,List.drop_zero,List.cons_append,List.nil_append,List.take_succ_cons,List.take_zero]
   simp only[↓zaL,↓zHC,WZ,reduceIte,yA,yB,yC,yD,reduceCtorEq,yE,yF,W1,W1B]
   refine zJv (fun hlt=> ?_) (fun hlt=> ?_)
   ·have h:=YAN
    repeat' (first
     |(with_reducible first|apply bA|apply bB|apply bC|apply bD|apply bE|apply bF)<;>intro h
     |skip)<;>simp only[h,↓zaL,↓zHC,WZ,reduceIte,yA,yB,yC,yD,reduceCtorEq,yE,yF,W1,W1B,hlt,zOt hlt,zLY,hroom (i+1) hlt,hroom2 (i+1) hlt,YAK,List.length_range,zjl]
    refine⟨i+1+1,hlt,by omega,zas rfl rfl rfl ?_ ?_ ?_ ?_⟩<;>(try simp only[WK,↓zaL,↓zHC,yA,reduceIte,yN,yO,yR,yP,yQ,yB,yC,zbX hlt hmax,zOq,zjk,zLy,yO,YAK])<;>(try simp[List.range_succ,numV,zGy])<;>(try omega)<;>(try rfl)
   ·have h0:i+1=vs.length:=by omega
    rw[numB,<-h0]at hsub
    have h:=YAN
    repeat' (first
     |(with_reducible first|apply bA|apply bB|apply bC|apply bD|apply bE|apply bF)<;>intro h
     |((first|apply bG|apply bH);simp only[yP,yQ,W2,W2B,YAK,zjm];first|refine zIf (hsub) (.inl rfl) ?_|refine zIj (hsub) (.inl rfl) ?_)
     |skip)<;>simp only[h,↓zaL,↓zHC,WZ,reduceIte,yA,yB,yC,yD,reduceCtorEq,yE,yF,W1,W1B,YAK,zjm]
 ·rw[if_neg hr]at qc
  have e:zEH t= .tup [emb (.mk 0 0 []),.int .i64 1]:=by rw[zEH,if_neg hr]
  have hbel:=zh5 t
  rw[e]at hbel⊢
  have hb:((1:Int) !=0)=true:=by decide
  refine zSa C_ok Try.func14 rfl (by decide) (YAL rfl) (by decide) hbel fun ok H=> ?_
  rw[Try.results14]
  have h:=YAN
  repeat' (first
   |(with_reducible first|apply bA|apply bB|apply bC|apply bD|apply bE|apply bF)<;>intro h
   |((first|apply bG|apply bH);simp only[yP,yQ,W2,W2B,hb];first|refine zIf (qc) (.inl rfl) ?_|refine zIj (qc) (.inl rfl) ?_)
   |skip)<;>simp only[h,↓zaL,↓zHC,WZ,reduceIte,yA,yB,yC,yD,reduceCtorEq,yE,yF,W1,W1B,hb]
end
end Go.Proofs.Ytmpegnogdgbleaa
