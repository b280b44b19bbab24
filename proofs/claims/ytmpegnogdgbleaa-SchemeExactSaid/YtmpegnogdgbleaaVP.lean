/- Layer 11: the law: Subst, Canon, Match and Under are the document's. No condition. -/
import Derived.Test.YtmpegnogdgbleaaPVe
import Derived.Test.YtmpegnogdgbleaaUG
import Derived.Test.YtmpegnogdgbleaaEP
set_option linter.unusedSimpArgs false
set_option linter.unusedVariables false
set_option maxHeartbeats 4000000
set_option maxRecDepth 100000
namespace Go.Proofs.Ytmpegnogdgbleaa
open Go Go.Ab
open Nat renaming reduceEqDiff -> yA, reduceAdd -> yB, reduceLT -> yC, reduceLeDiff -> yD, reduceMul -> yE, reducePow -> yF
open AV renaming belL -> yO, bel -> yN, normL -> yQ, norm -> yP
open AObj renaming bel -> yR
attribute [local irreducible] zA0 zAA zAa zAi zAj GoIf GoGb zAk GoO GoD GoX GoDX GoG GoDG GoGv zAl Go zAB
theorem zrY(l:List Bd):zA0 Try.prog 24 [.sl (l.map embB) .no,.sl (l.map embB) .no] (.bool true):=by
 refine eP C_ok Try.func24 Try.results24 fun ok H=> ?_
 have hmax:l.length<=maxLen:=by
  have:=ok.1;simp only[AV.okay,YAK]at this;exact this.1
 have h:=YAN
 repeat' (first
  |(with_reducible first|apply bA|apply bB|apply bC|apply bD|apply bE|apply bF)<;>intro h
  |refine zKg (id:=6) C_ok (fun _=>trivial) mixed 0 Try.f24.ntmps rfl (by kernel_rfl) (by decide) ?_
  |skip)<;>simp only[h,↓zaL,↓zHC,WZ,reduceIte,yA,yB,yC,yD,reduceCtorEq,yE,yF,W1,W1B,YAK,YAO]
 refine aloop_trim [5,0,1] ?_
 simp only[List.map_cons,List.map_nil,↓zaL,↓zHC,WZ,reduceIte,yA,yB,yC,yD,reduceCtorEq,yE,yF,W1,W1B]
 refine zJ3 1 (fun i:Nat=> [(5,.int .i64 i)]) (fun _=>_) (fun i=>i<=l.length) (fun i=>l.length-i) C_ok 0 rfl rfl (YAX _) (by decide) ?_
 rintro i hi
 simp only[List.drop_succ_cons,List.drop_zero,List.cons_append,List.nil_append]
 by_cases hlt:i<l.length
 ·have hg:=zOY hlt
  generalize l.getD i default=p at*
  have hs:=zMo p.2 p.2
  rw[zVO]at hs
  have h:=YAN
  repeat' (first
   |(with_reducible first|apply bA|apply bB|apply bC|apply bD|apply bE|apply bF)<;>intro h
   |((first|apply bG|apply bH);simp only[yP,yQ,W2,W2B,hlt,hg,zGI,YAK,YAO];first|refine zIf (hs) (.inl rfl) ?_|refine zIj (hs) (.inl rfl) ?_)
   |refine zKg (id:=6) C_ok (fun _=>trivial) mixed 0 Try.f24.ntmps rfl (by kernel_rfl) (by decide) ?_
   |skip)<;>simp only[h,↓zaL,↓zHC,WZ,reduceIte,yA,yB,yC,yD,reduceCtorEq,yE,yF,W1,W1B,hlt,hg,zGI,YAK,YAO]
  refine⟨i+1,by omega,by omega,zas rfl rfl rfl rfl ?_ ?_ ?_⟩
  all_goals first|(simp only[WK,↓zaL,↓zHC,yA,reduceIte,yN,yO,yR,yP,yQ,yB,yC,zbX hlt hmax,zOX,zOq];done)|(simp only[WK,↓zaL,↓zHC,yA,reduceIte,yN,yO,yR,yP,yQ,yB,yC,zbX hlt hmax,zOX,zOq];omega)
 ·have h:=YAN
  repeat' (first
   |(with_reducible first|apply bA|apply bB|apply bC|apply bD|apply bE|apply bF)<;>intro h
   |refine zKg (id:=6) C_ok (fun _=>trivial) mixed 0 Try.f24.ntmps rfl (by kernel_rfl) (by decide) ?_
   |skip)<;>simp only[h,↓zaL,↓zHC,WZ,reduceIte,yA,yB,yC,yD,reduceCtorEq,yE,yF,W1,W1B,hlt,YAK]
theorem zrb{t u:Ty}(h:¬(right t=true/\right u=true)):zA0 Try.prog 16 [emb t,emb u] (.bool false):=by
 refine zSZ rfl fun F=> ?_
 unfold zAd
 have q1:=zEj t
 have q2:=zEj u
 have hb:((1:Int) !=0)=true:=by decide
 by_cases h1:right t=true
 ·have h2:¬right u=true:=fun h2=>h ⟨h1,h2⟩
  rw[if_pos h1]at q1
  rw[if_neg h2]at q2
  refine eD C_ok Try.func16 Try.results16 fun ok=> ?_
  have h:=YAN
  repeat' (first
   |(with_reducible first|apply bA|apply bB|apply bC|apply bD|apply bE|apply bF)<;>intro h
   |((first|apply bG|apply bH);simp only[yP,yQ,W2,W2B,hb,YAO,yO,yN,zTh,zTg];first|refine zIf (q1) (.inl rfl) ?_|refine zIf (q2) (.inl rfl) ?_|refine zIj (q1) (.inl rfl) ?_|refine zIj (q2) (.inl rfl) ?_)
   |skip)<;>simp only[h,↓zaL,↓zHC,WY,reduceIte,yA,yB,yC,yD,reduceCtorEq,yE,yF,W1,W1B,WS,hb,YAO,yO,yN,zTh,zTg]
  all_goals first|exact⟨rfl,List.take_left' rfl⟩|exact List.take_left' rfl
 ·rw[if_neg h1]at q1
  refine eD C_ok Try.func16 Try.results16 fun ok=> ?_
  have h:=YAN
  repeat' (first
   |(with_reducible first|apply bA|apply bB|apply bC|apply bD|apply bE|apply bF)<;>intro h
   |((first|apply bG|apply bH);simp only[yP,yQ,W2,W2B,hb,yO,yN,zTh,zTg];first|refine zIf (q1) (.inl rfl) ?_|refine zIf (q2) (.inl rfl) ?_|refine zIj (q1) (.inl rfl) ?_|refine zIj (q2) (.inl rfl) ?_)
   |skip)<;>simp only[h,↓zaL,↓zHC,WY,reduceIte,yA,yB,yC,yD,reduceCtorEq,yE,yF,W1,W1B,WS,hb,yO,yN,zTh,zTg]
  all_goals first|exact⟨rfl,List.take_left' rfl⟩|exact List.take_left' rfl
theorem ztB:∀(a:T) (l:List Int),(a.zaU l).length<=l.length+a.size:=by
 intro a
 induction a with
 |pair a b ih1 ih2=>intro l;have h1:=ih1 l;have h2:=ih2 (a.zaU l);simp only[T.zaU,T.size];omega
 |fn a b ih1 ih2=>intro l;have h1:=ih1 l;have h2:=ih2 (a.zaU l);simp only[T.zaU,T.size];omega
 |list a ih=>intro l;have h1:=ih l;simp only[T.zaU,T.size];omega
 |var n=>intro l;simp only[T.zaU,T.size];split<;>simp
 |base k=>intro l;simp[T.zaU]
 |dyn=>intro l;simp[T.zaU]
theorem zrA:∀a:T,a.dV<=a.size:=by
 intro a
 induction a with
 |pair a b ih1 ih2=>simp only[T.dV,T.size];split<;>omega
 |fn a b ih1 ih2=>simp only[T.dV,T.size];split<;>omega
 |list a ih=>simp only[T.dV,T.size];split<;>omega
 |_=>simp[T.dV,T.size]
theorem zql:∀a:T,(apT a).size=a.size:=by
 intro a
 unfold apT
 induction a with
 |pair a b ih1 ih2=>simp only[putS,T.size,ih1,ih2]
 |fn a b ih1 ih2=>simp only[putS,T.size,ih1,ih2]
 |list a ih=>simp only[putS,T.size,ih]
 |_=>rfl
theorem zq5{x y:T}(hx:x.ok=true)(hy:y.ok=true)(sx:x.size<=60)(sy:y.size<=60):∃r,zA0 Try.prog 16 [emb x.ty,emb y.ty] (.bool r)/\zA0 Try.prog 25 [emb x.ty,emb y.ty] (.bool r):=by
 obtain⟨f,r,R',h,hl⟩:=zqu x (apT y) (zr4 hx) (zqj hy)
 have h1:=ztB (apT y) []
 have h2:=ztB x ((apT y).zaU [])
 have h3:=zrA (apT y)
 have h4:=zql y
 have hs:nodes y.ty<=1048576:=by rw[zQb];omega
 simp only[List.length_nil]at h1
 exact⟨r,zjL x y (by rw[T.zT5];exact hx) (by rw[T.zT5];exact hy) (by omega) (zs4 hx hy h),zsT hx hy hs h (by omega)⟩
theorem zsU(t u:Ty)(l:List Bd):zA0 Try.prog 3 [emb t,emb u,.sl (l.map embB) .no] (.bool true):=by
 cases hv:small [t,u]with
 |false=>
  have zz:(((0:Nat):Int)==0)=true:=by decide
  refine eP C_ok Try.func3 Try.results3 fun ok H=> ?_
  have h:=YAN
  repeat' (first
   |(with_reducible first|apply bA|apply bB|apply bC|apply bD|apply bE|apply bF)<;>intro h
   |((first|apply bG|apply bH);simp only[yP,yQ,W2,W2B,hv,hv,YAK,zOZ,YAO,beq_self_eq_true,zz];first|refine zIf (zj0 _ _) (.inl rfl) ?_|refine zIf (ziN _ _) (.inl rfl) ?_|refine zIf (zrU _) (.inl rfl) ?_|refine zIf (zUa _) (.inl rfl) ?_|refine zIj (zj0 _ _) (.inl rfl) ?_|refine zIj (ziN _ _) (.inl rfl) ?_|refine zIj (zrU _) (.inl rfl) ?_|refine zIj (zUa _) (.inl rfl) ?_)
   |refine zKg (id:=3) C_ok (fun _=>trivial) mixed 2 Try.f3.ntmps rfl (by kernel_rfl) (by decide) ?_
   |refine zKg (id:=12) C_ok (fun _=>trivial) mixed 0 Try.f3.ntmps rfl (by kernel_rfl) (by decide) ?_
   |refine zKg (id:=16) C_ok (fun _=>trivial) mixed 0 Try.f3.ntmps rfl (by kernel_rfl) (by decide) ?_
   |skip)<;>simp only[h,↓zaL,↓zHC,WZ,reduceIte,yA,yB,yC,yD,reduceCtorEq,yE,yF,W1,W1B,hv,hv,YAK,zOZ,YAO,beq_self_eq_true,zz]
 |true=>
 cases hw:few t u with
 |false=>
  have zz:(((0:Nat):Int)==0)=true:=by decide
  refine eP C_ok Try.func3 Try.results3 fun ok H=> ?_
  have h:=YAN
  repeat' (first
   |(with_reducible first|apply bA|apply bB|apply bC|apply bD|apply bE|apply bF)<;>intro h
   |((first|apply bG|apply bH);simp only[yP,yQ,W2,W2B,hv,hw,YAK,zOZ,YAO,beq_self_eq_true,zz];first|refine zIf (zj0 _ _) (.inl rfl) ?_|refine zIf (ziN _ _) (.inl rfl) ?_|refine zIf (zrU _) (.inl rfl) ?_|refine zIf (zUa _) (.inl rfl) ?_|refine zIj (zj0 _ _) (.inl rfl) ?_|refine zIj (ziN _ _) (.inl rfl) ?_|refine zIj (zrU _) (.inl rfl) ?_|refine zIj (zUa _) (.inl rfl) ?_)
   |refine zKg (id:=3) C_ok (fun _=>trivial) mixed 2 Try.f3.ntmps rfl (by kernel_rfl) (by decide) ?_
   |refine zKg (id:=12) C_ok (fun _=>trivial) mixed 0 Try.f3.ntmps rfl (by kernel_rfl) (by decide) ?_
   |refine zKg (id:=16) C_ok (fun _=>trivial) mixed 0 Try.f3.ntmps rfl (by kernel_rfl) (by decide) ?_
   |skip)<;>simp only[h,↓zaL,↓zHC,WZ,reduceIte,yA,yB,yC,yD,reduceCtorEq,yE,yF,W1,W1B,hv,hw,YAK,zOZ,YAO,beq_self_eq_true,zz]
 |true=>
 cases hh:zrT l with
 |true=>
  have zz:(((0:Nat):Int)==0)=true:=by decide
  refine eP C_ok Try.func3 Try.results3 fun ok H=> ?_
  have h:=YAN
  repeat' (first
   |(with_reducible first|apply bA|apply bB|apply bC|apply bD|apply bE|apply bF)<;>intro h
   |((first|apply bG|apply bH);simp only[yP,yQ,W2,W2B,hv,hw,hh,YAK,zOZ,YAO,beq_self_eq_true,zz];first|refine zIf (zj0 _ _) (.inl rfl) ?_|refine zIf (ziN _ _) (.inl rfl) ?_|refine zIf (zrU _) (.inl rfl) ?_|refine zIf (zUa _) (.inl rfl) ?_|refine zIj (zj0 _ _) (.inl rfl) ?_|refine zIj (ziN _ _) (.inl rfl) ?_|refine zIj (zrU _) (.inl rfl) ?_|refine zIj (zUa _) (.inl rfl) ?_)
   |refine zKg (id:=3) C_ok (fun _=>trivial) mixed 2 Try.f3.ntmps rfl (by kernel_rfl) (by decide) ?_
   |refine zKg (id:=12) C_ok (fun _=>trivial) mixed 0 Try.f3.ntmps rfl (by kernel_rfl) (by decide) ?_
   |refine zKg (id:=16) C_ok (fun _=>trivial) mixed 0 Try.f3.ntmps rfl (by kernel_rfl) (by decide) ?_
   |skip)<;>simp only[h,↓zaL,↓zHC,WZ,reduceIte,yA,yB,yC,yD,reduceCtorEq,yE,yF,W1,W1B,hv,hw,hh,YAK,zOZ,YAO,beq_self_eq_true,zz]
 |false=>
 have na:=zkd hv (t:=t) (by simp)
 have nb:=zkd hv (t:=u) (by simp)
 have kt:=zcT t (by omega)
 have ku:=zcT u (by omega)
 have st:=zMo t t
 have su:=zMo u u
 rw[zVO]at st su
 have rt:=zUa t
 have ru:=zUa u
 have q1:=zXx t l
 have q2:=zh6 t (by omega)
 have q3:=zcZ t u (by omega)
 have qr:=zsQ l
 cases h0:right t with
 |false=>
  rw[h0]at rt
  rw[zXv,if_neg (by simp[h0])]at q1
  rw[zEH,if_neg (by simp[h0])]at q2
  rw[zO7,if_neg (by simp[h0])]at q3
  have q4:=zrb (t:=t) (u:=u) (by simp[h0])
  have hb:((1:Int) !=1)=false:=by decide
  have zz:(((0:Nat):Int)==0)=true:=by decide
  refine eP C_ok Try.func3 Try.results3 fun ok H=> ?_
  have h:=YAN
  repeat' (first
   |(with_reducible first|apply bA|apply bB|apply bC|apply bD|apply bE|apply bF)<;>intro h
   |((first|apply bG|apply bH);simp only[yP,yQ,W2,W2B,hv,hw,hh,hb,YAK,zOZ,YAO,beq_self_eq_true,zz];first|refine zIf (zj0 _ _) (.inl rfl) ?_|refine zIf (ziN _ _) (.inl rfl) ?_|refine zIf (zrU _) (.inl rfl) ?_|refine zIf (kt) (.inl rfl) ?_|refine zIf (ku) (.inl rfl) ?_|refine zIf (st) (.inl rfl) ?_|refine zIf (su) (.inl rfl) ?_|refine zIf (rt) (.inl rfl) ?_|refine zIf (ru) (.inl rfl) ?_|refine zIf (q1) (.inl rfl) ?_|refine zIf (q2) (.inl rfl) ?_|refine zIf (q3) (.inl rfl) ?_|refine zIf (q4) (.inl rfl) ?_|refine zIf (zlO) (.inl rfl) ?_|refine zIj (zj0 _ _) (.inl rfl) ?_|refine zIj (ziN _ _) (.inl rfl) ?_|refine zIj (zrU _) (.inl rfl) ?_|refine zIj (kt) (.inl rfl) ?_|refine zIj (ku) (.inl rfl) ?_|refine zIj (st) (.inl rfl) ?_|refine zIj (su) (.inl rfl) ?_|refine zIj (rt) (.inl rfl) ?_|refine zIj (ru) (.inl rfl) ?_|refine zIj (q1) (.inl rfl) ?_|refine zIj (q2) (.inl rfl) ?_|refine zIj (q3) (.inl rfl) ?_|refine zIj (q4) (.inl rfl) ?_|refine zIj (zlO) (.inl rfl) ?_)
   |refine zKg (id:=3) C_ok (fun _=>trivial) mixed 2 Try.f3.ntmps rfl (by kernel_rfl) (by decide) ?_
   |refine zKg (id:=12) C_ok (fun _=>trivial) mixed 0 Try.f3.ntmps rfl (by kernel_rfl) (by decide) ?_
   |refine zKg (id:=16) C_ok (fun _=>trivial) mixed 0 Try.f3.ntmps rfl (by kernel_rfl) (by decide) ?_
   |skip)<;>simp only[h,↓zaL,↓zHC,WZ,reduceIte,yA,yB,yC,yD,reduceCtorEq,yE,yF,W1,W1B,hv,hw,hh,hb,YAK,zOZ,YAO,beq_self_eq_true,zz]
 |true=>
 rw[h0]at rt
 obtain⟨x,rfl,hx⟩:=T.zRB h0
 rw[zq6 hx]at q2
 have rc:=zsD hx (by omega)
 have sc:=zMo (zEI x).ty (zEI x).ty
 rw[zVO]at sc
 have hS:∃S e,zXv x.ty l= .tup [emb S,.int .i64 e]/\((okBs l=true/\e=0/\zA0 Try.prog 20 [emb x.ty,.sl (l.map embB) .no] (emb S))\/(okBs l=false/\e=1/\S= .mk 0 0 [])):=by
  cases hb:okBs l with
  |true=>
   refine⟨(putS (sigB l) x).ty,0,by rw[zXv,if_pos ⟨h0,hb⟩,zX5],.inl ⟨rfl,rfl,?_⟩⟩
   have:=zsN l x.ty (by omega)
   rw[zsO (fun n t h=>zrk hb h)]at this
   exact this
  |false=>exact⟨_,_,by rw[zXv,if_neg (by simp[hb])],.inr ⟨rfl,rfl,rfl⟩⟩
 obtain⟨S,e,eS,hS⟩:=hS
 rw[eS]at q1
 have sS:=zMo S S
 rw[zVO]at sS
 cases h1:right u with
 |false=>
  rw[h1]at ru
  rw[zO7,if_neg (by simp[h1])]at q3
  have q4:=zrb (t:=x.ty) (u:=u) (by simp[h1])
  generalize (zEI x).ty=Cn at*
  generalize x.ty=t at*
  rcases hS with ⟨hb,rfl,pu⟩|⟨hb,rfl,rfl⟩
  ·rw[hb]at qr
   have zz:(((0:Nat):Int)==0)=true:=by decide
   refine eP C_ok Try.func3 Try.results3 fun ok H=> ?_
   have h:=YAN
   repeat' (first
    |(with_reducible first|apply bA|apply bB|apply bC|apply bD|apply bE|apply bF)<;>intro h
    |((first|apply bG|apply bH);simp only[yP,yQ,W2,W2B,hv,hw,hh,YAK,zOZ,YAO,beq_self_eq_true,zz];first|refine zIf (zj0 _ _) (.inl rfl) ?_|refine zIf (ziN _ _) (.inl rfl) ?_|refine zIf (zrU _) (.inl rfl) ?_|refine zIf (kt) (.inl rfl) ?_|refine zIf (ku) (.inl rfl) ?_|refine zIf (st) (.inl rfl) ?_|refine zIf (su) (.inl rfl) ?_|refine zIf (sc) (.inl rfl) ?_|refine zIf (sS) (.inl rfl) ?_|refine zIf (rt) (.inl rfl) ?_|refine zIf (ru) (.inl rfl) ?_|refine zIf (q1) (.inl rfl) ?_|refine zIf (q2) (.inl rfl) ?_|refine zIf (q3) (.inl rfl) ?_|refine zIf (q4) (.inl rfl) ?_|refine zIf (qr) (.inl rfl) ?_|refine zIf (pu) (.inl rfl) ?_|refine zIf (rc) (.inl rfl) ?_|refine zIf (zlO) (.inl rfl) ?_|refine zIj (zj0 _ _) (.inl rfl) ?_|refine zIj (ziN _ _) (.inl rfl) ?_|refine zIj (zrU _) (.inl rfl) ?_|refine zIj (kt) (.inl rfl) ?_|refine zIj (ku) (.inl rfl) ?_|refine zIj (st) (.inl rfl) ?_|refine zIj (su) (.inl rfl) ?_|refine zIj (sc) (.inl rfl) ?_|refine zIj (sS) (.inl rfl) ?_|refine zIj (rt) (.inl rfl) ?_|refine zIj (ru) (.inl rfl) ?_|refine zIj (q1) (.inl rfl) ?_|refine zIj (q2) (.inl rfl) ?_|refine zIj (q3) (.inl rfl) ?_|refine zIj (q4) (.inl rfl) ?_|refine zIj (qr) (.inl rfl) ?_|refine zIj (pu) (.inl rfl) ?_|refine zIj (rc) (.inl rfl) ?_|refine zIj (zlO) (.inl rfl) ?_)
    |refine zKg (id:=3) C_ok (fun _=>trivial) mixed 2 Try.f3.ntmps rfl (by kernel_rfl) (by decide) ?_
    |refine zKg (id:=12) C_ok (fun _=>trivial) mixed 0 Try.f3.ntmps rfl (by kernel_rfl) (by decide) ?_
    |refine zKg (id:=16) C_ok (fun _=>trivial) mixed 0 Try.f3.ntmps rfl (by kernel_rfl) (by decide) ?_
    |skip)<;>simp only[h,↓zaL,↓zHC,WZ,reduceIte,yA,yB,yC,yD,reduceCtorEq,yE,yF,W1,W1B,hv,hw,hh,YAK,zOZ,YAO,beq_self_eq_true,zz]
  ·rw[hb]at qr
   have zz:(((0:Nat):Int)==0)=true:=by decide
   refine eP C_ok Try.func3 Try.results3 fun ok H=> ?_
   have h:=YAN
   repeat' (first
    |(with_reducible first|apply bA|apply bB|apply bC|apply bD|apply bE|apply bF)<;>intro h
    |((first|apply bG|apply bH);simp only[yP,yQ,W2,W2B,hv,hw,hh,YAK,zOZ,YAO,beq_self_eq_true,zz];first|refine zIf (zj0 _ _) (.inl rfl) ?_|refine zIf (ziN _ _) (.inl rfl) ?_|refine zIf (zrU _) (.inl rfl) ?_|refine zIf (kt) (.inl rfl) ?_|refine zIf (ku) (.inl rfl) ?_|refine zIf (st) (.inl rfl) ?_|refine zIf (su) (.inl rfl) ?_|refine zIf (sc) (.inl rfl) ?_|refine zIf (sS) (.inl rfl) ?_|refine zIf (rt) (.inl rfl) ?_|refine zIf (ru) (.inl rfl) ?_|refine zIf (q1) (.inl rfl) ?_|refine zIf (q2) (.inl rfl) ?_|refine zIf (q3) (.inl rfl) ?_|refine zIf (q4) (.inl rfl) ?_|refine zIf (qr) (.inl rfl) ?_|refine zIf (rc) (.inl rfl) ?_|refine zIf (zlO) (.inl rfl) ?_|refine zIj (zj0 _ _) (.inl rfl) ?_|refine zIj (ziN _ _) (.inl rfl) ?_|refine zIj (zrU _) (.inl rfl) ?_|refine zIj (kt) (.inl rfl) ?_|refine zIj (ku) (.inl rfl) ?_|refine zIj (st) (.inl rfl) ?_|refine zIj (su) (.inl rfl) ?_|refine zIj (sc) (.inl rfl) ?_|refine zIj (sS) (.inl rfl) ?_|refine zIj (rt) (.inl rfl) ?_|refine zIj (ru) (.inl rfl) ?_|refine zIj (q1) (.inl rfl) ?_|refine zIj (q2) (.inl rfl) ?_|refine zIj (q3) (.inl rfl) ?_|refine zIj (q4) (.inl rfl) ?_|refine zIj (qr) (.inl rfl) ?_|refine zIj (rc) (.inl rfl) ?_|refine zIj (zlO) (.inl rfl) ?_)
    |refine zKg (id:=3) C_ok (fun _=>trivial) mixed 2 Try.f3.ntmps rfl (by kernel_rfl) (by decide) ?_
    |refine zKg (id:=12) C_ok (fun _=>trivial) mixed 0 Try.f3.ntmps rfl (by kernel_rfl) (by decide) ?_
    |refine zKg (id:=16) C_ok (fun _=>trivial) mixed 0 Try.f3.ntmps rfl (by kernel_rfl) (by decide) ?_
    |skip)<;>simp only[h,↓zaL,↓zHC,WZ,reduceIte,yA,yB,yC,yD,reduceCtorEq,yE,yF,W1,W1B,hv,hw,hh,YAK,zOZ,YAO,beq_self_eq_true,zz]
 |true=>
  rw[h1]at ru
  obtain⟨y,rfl,hy⟩:=T.zRB h1
  obtain⟨sx,sy⟩:=ziO hw
  obtain⟨r,q4,q5⟩:=zq5 hx hy sx sy
  have q6:=zsI hx hy (by omega)
  obtain⟨M,eM⟩:=zjc hx hy
  rw[eM]at q3 q6
  have kb:=zrY M
  generalize (zO6 x y []).isSome=mo at*
  generalize (zEI x).ty=Cn at*
  generalize x.ty=t at*
  generalize y.ty=u at*
  rcases hS with ⟨hb,rfl,pu⟩|⟨hb,rfl,rfl⟩
  ·rw[hb]at qr
   have zz:(((0:Nat):Int)==0)=true:=by decide
   refine eP C_ok Try.func3 Try.results3 fun ok H=> ?_
   have h:=YAN
   repeat' (first
    |(with_reducible first|apply bA|apply bB|apply bC|apply bD|apply bE|apply bF)<;>intro h
    |((first|apply bG|apply bH);simp only[yP,yQ,W2,W2B,hv,hw,hh,YAK,zOZ,YAO,beq_self_eq_true,zz];first|refine zIf (zj0 _ _) (.inl rfl) ?_|refine zIf (ziN _ _) (.inl rfl) ?_|refine zIf (zrU _) (.inl rfl) ?_|refine zIf (kt) (.inl rfl) ?_|refine zIf (ku) (.inl rfl) ?_|refine zIf (st) (.inl rfl) ?_|refine zIf (su) (.inl rfl) ?_|refine zIf (sc) (.inl rfl) ?_|refine zIf (sS) (.inl rfl) ?_|refine zIf (rt) (.inl rfl) ?_|refine zIf (ru) (.inl rfl) ?_|refine zIf (q1) (.inl rfl) ?_|refine zIf (q2) (.inl rfl) ?_|refine zIf (q3) (.inl rfl) ?_|refine zIf (q4) (.inl rfl) ?_|refine zIf (q5) (.inl rfl) ?_|refine zIf (q6) (.inl rfl) ?_|refine zIf (kb) (.inl rfl) ?_|refine zIf (qr) (.inl rfl) ?_|refine zIf (pu) (.inl rfl) ?_|refine zIf (rc) (.inl rfl) ?_|refine zIf (zlO) (.inl rfl) ?_|refine zIj (zj0 _ _) (.inl rfl) ?_|refine zIj (ziN _ _) (.inl rfl) ?_|refine zIj (zrU _) (.inl rfl) ?_|refine zIj (kt) (.inl rfl) ?_|refine zIj (ku) (.inl rfl) ?_|refine zIj (st) (.inl rfl) ?_|refine zIj (su) (.inl rfl) ?_|refine zIj (sc) (.inl rfl) ?_|refine zIj (sS) (.inl rfl) ?_|refine zIj (rt) (.inl rfl) ?_|refine zIj (ru) (.inl rfl) ?_|refine zIj (q1) (.inl rfl) ?_|refine zIj (q2) (.inl rfl) ?_|refine zIj (q3) (.inl rfl) ?_|refine zIj (q4) (.inl rfl) ?_|refine zIj (q5) (.inl rfl) ?_|refine zIj (q6) (.inl rfl) ?_|refine zIj (kb) (.inl rfl) ?_|refine zIj (qr) (.inl rfl) ?_|refine zIj (pu) (.inl rfl) ?_|refine zIj (rc) (.inl rfl) ?_|refine zIj (zlO) (.inl rfl) ?_)
    |refine zKg (id:=3) C_ok (fun _=>trivial) mixed 2 Try.f3.ntmps rfl (by kernel_rfl) (by decide) ?_
    |refine zKg (id:=12) C_ok (fun _=>trivial) mixed 0 Try.f3.ntmps rfl (by kernel_rfl) (by decide) ?_
    |refine zKg (id:=16) C_ok (fun _=>trivial) mixed 0 Try.f3.ntmps rfl (by kernel_rfl) (by decide) ?_
    |skip)<;>simp only[h,↓zaL,↓zHC,WZ,reduceIte,yA,yB,yC,yD,reduceCtorEq,yE,yF,W1,W1B,hv,hw,hh,YAK,zOZ,YAO,beq_self_eq_true,zz]
  ·rw[hb]at qr
   have zz:(((0:Nat):Int)==0)=true:=by decide
   refine eP C_ok Try.func3 Try.results3 fun ok H=> ?_
   have h:=YAN
   repeat' (first
    |(with_reducible first|apply bA|apply bB|apply bC|apply bD|apply bE|apply bF)<;>intro h
    |((first|apply bG|apply bH);simp only[yP,yQ,W2,W2B,hv,hw,hh,YAK,zOZ,YAO,beq_self_eq_true,zz];first|refine zIf (zj0 _ _) (.inl rfl) ?_|refine zIf (ziN _ _) (.inl rfl) ?_|refine zIf (zrU _) (.inl rfl) ?_|refine zIf (kt) (.inl rfl) ?_|refine zIf (ku) (.inl rfl) ?_|refine zIf (st) (.inl rfl) ?_|refine zIf (su) (.inl rfl) ?_|refine zIf (sc) (.inl rfl) ?_|refine zIf (sS) (.inl rfl) ?_|refine zIf (rt) (.inl rfl) ?_|refine zIf (ru) (.inl rfl) ?_|refine zIf (q1) (.inl rfl) ?_|refine zIf (q2) (.inl rfl) ?_|refine zIf (q3) (.inl rfl) ?_|refine zIf (q4) (.inl rfl) ?_|refine zIf (q5) (.inl rfl) ?_|refine zIf (q6) (.inl rfl) ?_|refine zIf (kb) (.inl rfl) ?_|refine zIf (qr) (.inl rfl) ?_|refine zIf (rc) (.inl rfl) ?_|refine zIf (zlO) (.inl rfl) ?_|refine zIj (zj0 _ _) (.inl rfl) ?_|refine zIj (ziN _ _) (.inl rfl) ?_|refine zIj (zrU _) (.inl rfl) ?_|refine zIj (kt) (.inl rfl) ?_|refine zIj (ku) (.inl rfl) ?_|refine zIj (st) (.inl rfl) ?_|refine zIj (su) (.inl rfl) ?_|refine zIj (sc) (.inl rfl) ?_|refine zIj (sS) (.inl rfl) ?_|refine zIj (rt) (.inl rfl) ?_|refine zIj (ru) (.inl rfl) ?_|refine zIj (q1) (.inl rfl) ?_|refine zIj (q2) (.inl rfl) ?_|refine zIj (q3) (.inl rfl) ?_|refine zIj (q4) (.inl rfl) ?_|refine zIj (q5) (.inl rfl) ?_|refine zIj (q6) (.inl rfl) ?_|refine zIj (kb) (.inl rfl) ?_|refine zIj (qr) (.inl rfl) ?_|refine zIj (rc) (.inl rfl) ?_|refine zIj (zlO) (.inl rfl) ?_)
    |refine zKg (id:=3) C_ok (fun _=>trivial) mixed 2 Try.f3.ntmps rfl (by kernel_rfl) (by decide) ?_
    |refine zKg (id:=12) C_ok (fun _=>trivial) mixed 0 Try.f3.ntmps rfl (by kernel_rfl) (by decide) ?_
    |refine zKg (id:=16) C_ok (fun _=>trivial) mixed 0 Try.f3.ntmps rfl (by kernel_rfl) (by decide) ?_
    |skip)<;>simp only[h,↓zaL,↓zHC,WZ,reduceIte,yA,yB,yC,yD,reduceCtorEq,yE,yF,W1,W1B,hv,hw,hh,YAK,zOZ,YAO,beq_self_eq_true,zz]
end Go.Proofs.Ytmpegnogdgbleaa
