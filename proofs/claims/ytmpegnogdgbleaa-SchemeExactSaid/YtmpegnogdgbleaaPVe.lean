/- Lemmas: the document matches and asks what is under what. No condition. -/
import Derived.Test.YtmpegnogdgbleaaVF
import Derived.Test.YtmpegnogdgbleaaPEa
import Derived.Test.YtmpegnogdgbleaaPPa
import Derived.Test.YtmpegnogdgbleaaE4
import Derived.Test.YtmpegnogdgbleaaPAf
import Derived.Test.YtmpegnogdgbleaaPFa
import Derived.Test.YtmpegnogdgbleaaPEb
import Derived.Test.YtmpegnogdgbleaaPVd
set_option linter.unusedSimpArgs false
set_option linter.unusedVariables false
set_option maxHeartbeats 4000000
set_option maxRecDepth 100000
namespace Go.Proofs.Ytmpegnogdgbleaa
open Go Go.Ab
open Nat renaming reduceEqDiff -> yA, reduceAdd -> yB, reduceLT -> yC, reduceLeDiff -> yD, reduceMul -> yE, reducePow -> yF
open AV renaming belL -> yO, bel -> yN, normL -> yQ, norm -> yP
open AObj renaming bel -> yR
open Int renaming reduceAdd -> yH, reduceLT -> yI, reduceToNat -> yJ, reduceBEq -> yK, reduceBNe -> yL, reduceLE -> yM
attribute [local irreducible] zA0 zAA zAa zAi zAj GoIf GoGb zAk GoO GoD GoX GoDX GoG GoDG GoGv zAl Go zAB
section
theorem zsJ(vs:List Int)(hl:vs.length<=1048577):zA0 Try.prog 44 [.sl (vs.map I64) .no] (.sl ((numB vs).map embB) .no):=by
 have hroom:∀i,i<vs.length->((i+1)*48<=140737488355328)=True:=fun i h=>by simp only[YAb,iff_true];omega
 have hroom2:∀i,i<vs.length->(i+1<=9223372036854775807)=True:=fun i h=>by simp only[YAb,iff_true];omega
 have hmax:vs.length<=maxLen:=by rw[zPC];omega
 refine zSa C_ok Try.func44 rfl (by decide) (YAL rfl) (by decide) (by simp only[yN,zOX,Bool.and_self]) fun ok H=> ?_
 rw[Try.results44]
 have h:=YAN
 repeat' (first
  |(with_reducible first|apply bA|apply bB|apply bC|apply bD|apply bE|apply bF)<;>intro h
  |skip)<;>simp only[h,↓zaL,↓zHC,WZ,reduceIte,yA,yB,yC,yD,reduceCtorEq,yE,yF,W1,W1B,YAK]
 refine aloop_trim [3,4,0] ?_
 simp only[List.map_cons,List.map_nil,↓zaL,↓zHC,WZ,reduceIte,yA,yB,yC,yD,reduceCtorEq,yE,yF,W1,W1B]
 refine zJ2 2 0 (fun i:Nat=> [(3,match i with
  |0=> .sl [] .full
  |i+1=> .sl ((List.range (i+1)).map (numV vs)) (.own H.length)),(4,.int .i64 i)]) (fun i=>match i with
  |0=> []
  |i+1=> [.tok (i+1) 4]) (fun i=>i<=vs.length) (fun i=>vs.length-i) C_ok 0 rfl rfl (YAX _) (by decide) ?_
 rintro(_|i) hi
 ·simp only[List.drop_succ_cons,List.drop_zero,List.cons_append,List.nil_append,List.take_succ_cons,List.take_zero]
  simp only[↓zaL,↓zHC,WZ,reduceIte,yA,yB,yC,yD,reduceCtorEq,yE,yF,W1,W1B]
  refine zJv (fun hlt=> ?_) (fun hlt=> ?_)
  ·have h:=YAN
   repeat' (first
    |(with_reducible first|apply bA|apply bB|apply bC|apply bD|apply bE|apply bF)<;>intro h
    |skip)<;>simp only[h,↓zaL,↓zHC,WZ,reduceIte,yA,yB,yC,yD,reduceCtorEq,yE,yF,W1,W1B,hlt,zOt hlt,zLY,hroom 0 hlt,hroom2 0 hlt,YAK,zjl]
   refine⟨0+1,hlt,by omega,zas rfl rfl rfl ?_ ?_ ?_ ?_⟩<;>(try simp only[WK,↓zaL,↓zHC,yA,reduceIte,yN,yO,yR,yP,yQ,yB,yC,zbX hlt hmax,zOq,zjk,zLy,yO,YAK])<;>(try simp[List.range_succ,numV,zGy])<;>(try omega)<;>(try rfl)
  ·have h0:vs.length=0:=by omega
   simp only[numB,h0,List.range_zero,List.map_nil]
   have h:=YAN
   repeat' (first
    |(with_reducible first|apply bA|apply bB|apply bC|apply bD|apply bE|apply bF)<;>intro h
    |skip)<;>simp only[h,↓zaL,↓zHC,WZ,reduceIte,yA,yB,yC,yD,reduceCtorEq,yE,yF,W1,W1B,YAK,zjm]
 ·simp only[List.drop_succ_cons,List.drop_zero,List.cons_append,List.nil_append,List.take_succ_cons,List.take_zero]
  simp only[↓zaL,↓zHC,WZ,reduceIte,yA,yB,yC,yD,reduceCtorEq,yE,yF,W1,W1B]
  refine zJv (fun hlt=> ?_) (fun hlt=> ?_)
  ·have h:=YAN
   repeat' (first
    |(with_reducible first|apply bA|apply bB|apply bC|apply bD|apply bE|apply bF)<;>intro h
    |skip)<;>simp only[h,↓zaL,↓zHC,WZ,reduceIte,yA,yB,yC,yD,reduceCtorEq,yE,yF,W1,W1B,hlt,zOt hlt,zLY,hroom (i+1) hlt,hroom2 (i+1) hlt,YAK,List.length_range,zjl]
   refine⟨i+1+1,hlt,by omega,zas rfl rfl rfl ?_ ?_ ?_ ?_⟩<;>(try simp only[WK,↓zaL,↓zHC,yA,reduceIte,yN,yO,yR,yP,yQ,yB,yC,zbX hlt hmax,zOq,zjk,zLy,yO,YAK])<;>(try simp[List.range_succ,numV,zGy])<;>(try omega)<;>(try rfl)
  ·have h0:i+1=vs.length:=by omega
   rw[numB,<-h0]
   have h:=YAN
   repeat' (first
    |(with_reducible first|apply bA|apply bB|apply bC|apply bD|apply bE|apply bF)<;>intro h
    |skip)<;>simp only[h,↓zaL,↓zHC,WZ,reduceIte,yA,yB,yC,yD,reduceCtorEq,yE,yF,W1,W1B,YAK,zjm]
theorem zrk{l:List Bd}(h:okBs l=true){n:Int}{t:Ty}(hl:zNa l n=some t):right t=true:=by
 induction l with
 |nil=>cases hl
 |cons p l ih=>
  obtain⟨m,u⟩:=p
  simp only[okBs,List.all_cons,YAA]at h
  simp only[zNa]at hl
  split at hl
  ·cases hl
   have:=h.1
   simp only[okBd,YAA]at this
   exact this.2
  ·exact ih h.2 hl
theorem zsD{x:T}(hx:x.ok=true)(hs:nodes x.ty<=1048576):zA0 Try.prog 21 [emb x.ty] (emb (zEI x).ty):=by
 have hl:=zac x.ty
 have hv:=zTI x.ty hs
 have q1:=zsJ (zaa x.ty) (by omega)
 have q2:=zsN (numB (zaa x.ty)) x.ty hs
 have hok:=zjj (vs:=x.zaU []) (fun n hn=>zLA hx n (zPK.1 hn)) (by rw[<-zab];omega)
 have e:zUY (numB (zaa x.ty)) x.ty=(zEI x).ty:=by
  rw[zab,zsO (fun n t h=>zrk hok h),zka]
 rw[e]at q2
 generalize (zEI x).ty=X at*
 generalize zaa x.ty=vs at*
 refine zSa C_ok Try.func21 rfl (by decide) (YAL rfl) (by decide) (zGx _ _) fun ok H=> ?_
 rw[Try.results21]
 have h:=YAN
 repeat' (first
  |(with_reducible first|apply bA|apply bB|apply bC|apply bD|apply bE|apply bF)<;>intro h
  |((first|apply bG|apply bH);simp only[yP,yQ,W2,W2B,zLz];first|refine zIf (hv) (.inl rfl) ?_|refine zIf (q1) (.inl rfl) ?_|refine zIf (q2) (.inl rfl) ?_|refine zIj (hv) (.inl rfl) ?_|refine zIj (q1) (.inl rfl) ?_|refine zIj (q2) (.inl rfl) ?_)
  |refine zKg (id:=1) C_ok (fun _=>trivial) mixed 0 Try.f21.ntmps rfl (by kernel_rfl) (by decide) ?_
  |skip)<;>simp only[h,↓zaL,↓zHC,WZ,reduceIte,yA,yB,yC,yD,reduceCtorEq,yE,yF,W1,W1B,zLz]
def apG(vs:List Int)(i:Nat):Bd:=(vs.getD i 0,.mk 6 (2097154+vs.getD i 0) [])
def apB(vs:List Int):List Bd:=(List.range vs.length).map (apG vs)
def apV(vs:List Int)(i:Nat):AV:= .agg [.int .i64 (vs.getD i 0),.int .i64 6,.int .i64 (2097154+vs.getD i 0),.sl [] .full]
theorem zqo(vs:List Int):∀l:List Nat,AV.normL (l.map (apV vs))=(l.map (apG vs)).map embB
 | []=>rfl
 |i::l=>by simp only[List.map_cons,yQ,zqo vs l];rfl
theorem zqm(vs:List Int)(m:Nat):∀l:List Nat,AV.belL m (l.map (apV vs))=true
 | []=>rfl
 |i::l=>by simp only[List.map_cons,yO,zqm vs m l,Bool.and_true];rfl
theorem zqn(vs:List Int)(l:List Nat):(∀y,y∈l.map (apV vs)->(cellsOf y).length=4)=True:=by
 simp only[YAb,iff_true];intro y hy;obtain⟨i,_,rfl⟩:=List.mem_map.1 hy;rfl
theorem zqi(vs:List Int):apB vs=vs.map fun n=>(n,.mk 6 (2097154+n) []):=by
 refine List.ext_getElem (by simp[apB]) fun i h1 h2=> ?_
 have hi:i<vs.length:=by simpa [apB]using h1
 simp[apB,apG,hi]
theorem zri:∀(vs:List Int) (n:Int),n∈vs->zNa (vs.map fun n=>(n,.mk 6 (2097154+n) [])) n=some (.mk 6 (2097154+n) [])
 |v::vs,n,h=>by
  simp only[List.map_cons,zNa]
  split
  ·rename_i e;rw[e]
  ·rename_i e
   rcases List.mem_cons.1 h with e2|h
   ·exact absurd e2.symm e
   ·exact zri vs n h
theorem zsM(l:List Bd)(σ:Int->T):∀x:T,(∀n,x.has n=true->zNa l n=some (σ n).ty)->zUY l x.ty=(putS σ x).ty:=by
 intro x
 induction x with
 |var n=>intro h;simp only[T.ty,zsL,Ty.zMj,Ty.zQn,if_true,putS];rw[h n (by simp[T.has])]
 |base k=>intro _;have:=zDD k;simp only[T.ty,zsL,Ty.zMj,putS,this.2.1,if_false,Ty.zMf,List.map_nil]
 |dyn=>intro _;simp[T.ty,zsL,Ty.zMj,putS,Ty.zMf]
 |pair a b ih1 ih2=>intro h;rw[T.ty,zsL];simp[Ty.zMj,putS,T.ty,Ty.zMf,ih1 fun n hn=>h n (by simp[T.has,hn]),ih2 fun n hn=>h n (by simp[T.has,hn])]
 |fn a b ih1 ih2=>intro h;rw[T.ty,zsL];simp[Ty.zMj,putS,T.ty,Ty.zMf,ih1 fun n hn=>h n (by simp[T.has,hn]),ih2 fun n hn=>h n (by simp[T.has,hn])]
 |list a ih1=>intro h;rw[T.ty,zsL];simp[Ty.zMj,putS,T.ty,Ty.zMf,ih1 fun n hn=>h n (by simpa [T.has]using hn)]
theorem zsC{x:T}(hx:x.ok=true)(hs:nodes x.ty<=1048576):zA0 Try.prog 49 [emb x.ty] (emb (apT x).ty):=by
 have hvl:=zac x.ty
 have hv:=zTI x.ty hs
 have q2:=zsN (apB (zaa x.ty)) x.ty hs
 have e:zUY (apB (zaa x.ty)) x.ty=(apT x).ty:=by
  rw[zab,zqi]
  exact zsM _ _ x fun n hn=>zri _ n (zPK.2 hn)
 rw[e]at q2
 have hrange:∀i,i<(zaa x.ty).length->0<=(zaa x.ty).getD i 0/\(zaa x.ty).getD i 0<=1048576:=fun i hi=>by
  rw[zab]at hi⊢
  exact zLA hx _ (zPK.1 (by simp[hi]))
 generalize (apT x).ty=X at*
 generalize zaa x.ty=vs at*
 have hw:∀i,i<vs.length->IntKind.wrap .i64 (2097154+vs.getD i 0)=2097154+vs.getD i 0:=fun i hi=>by
  have:=hrange i hi
  have e1:IntKind.min .i64= -9223372036854775808:=by decide
  have e2:IntKind.max .i64=9223372036854775807:=by decide
  exact zbU .i64 _ (by omega) (by omega)
 have hroom:∀i,i<vs.length->((i+1)*48<=140737488355328)=True:=fun i h=>by simp only[YAb,iff_true];omega
 have hroom2:∀i,i<vs.length->(i+1<=9223372036854775807)=True:=fun i h=>by simp only[YAb,iff_true];omega
 have hmax:vs.length<=maxLen:=by rw[zPC];omega
 refine zSa C_ok Try.func49 rfl (by decide) (YAL rfl) (by decide) (zGx _ _) fun ok H=> ?_
 rw[Try.results49]
 have h:=YAN
 repeat' (first
  |(with_reducible first|apply bA|apply bB|apply bC|apply bD|apply bE|apply bF)<;>intro h
  |((first|apply bG|apply bH);simp only[yP,yQ,W2,W2B,zLz,YAK];first|refine zIf (hv) (.inl rfl) ?_|refine zIj (hv) (.inl rfl) ?_)
  |refine zKg (id:=6) C_ok (fun _=>trivial) mixed 0 Try.f49.ntmps rfl (by kernel_rfl) (by decide) ?_
  |skip)<;>simp only[h,↓zaL,↓zHC,WZ,reduceIte,yA,yB,yC,yD,reduceCtorEq,yE,yF,W1,W1B,zLz,YAK]
 refine aloop_trim [3,5,1,2,4] ?_
 simp only[List.map_cons,List.map_nil,↓zaL,↓zHC,WZ,reduceIte,yA,yB,yC,yD,reduceCtorEq,yE,yF,W1,W1B]
 refine zJ2 2 2 (fun i:Nat=> [(3,match i with
  |0=> .sl [] .full
  |i+1=> .sl ((List.range (i+1)).map (apV vs)) (.own (H.length+2))),(5,.int .i64 i)]) (fun i=>match i with
  |0=> []
  |i+1=> [.tok (i+1) 4]) (fun i=>i<=vs.length) (fun i=>vs.length-i) C_ok 0 rfl rfl (YAX _) (by decide) ?_
 rintro(_|i) hi
 ·simp only[List.drop_succ_cons,List.drop_zero,List.cons_append,List.nil_append,List.take_succ_cons,List.take_zero]
  simp only[↓zaL,↓zHC,WZ,reduceIte,yA,yB,yC,yD,reduceCtorEq,yE,yF,W1,W1B]
  refine zJv (fun hlt=> ?_) (fun hlt=> ?_)
  ·have h:=YAN
   repeat' (first
    |(with_reducible first|apply bA|apply bB|apply bC|apply bD|apply bE|apply bF)<;>intro h
    |refine zKg (id:=6) C_ok (fun _=>trivial) mixed 0 Try.f49.ntmps rfl (by kernel_rfl) (by decide) ?_
    |skip)<;>simp only[h,↓zaL,↓zHC,WZ,reduceIte,yA,yB,yC,yD,reduceCtorEq,yE,yF,W1,W1B,hlt,zOt hlt,zLY,hroom 0 hlt,hroom2 0 hlt,hw 0 hlt,YAK,zqn]
   refine⟨0+1,hlt,by omega,zas rfl rfl rfl ?_ ?_ ?_ ?_⟩<;>(try simp only[WK,↓zaL,↓zHC,yA,reduceIte,yN,yO,yR,yP,yQ,yB,yC,zbX hlt hmax,zOq,zqm,zLy,yO,YAK])<;>(try simp[List.range_succ,apV,zGy])<;>(try omega)<;>(try rfl)
  ·have h0:vs.length=0:=by omega
   simp only[apB,h0,List.range_zero,List.map_nil]at q2
   have h:=YAN
   repeat' (first
    |(with_reducible first|apply bA|apply bB|apply bC|apply bD|apply bE|apply bF)<;>intro h
    |((first|apply bG|apply bH);simp only[yP,yQ,W2,W2B,YAK,zqo];first|refine zIf (q2) (.inl rfl) ?_|refine zIj (q2) (.inl rfl) ?_)
    |refine zKg (id:=6) C_ok (fun _=>trivial) mixed 0 Try.f49.ntmps rfl (by kernel_rfl) (by decide) ?_
    |skip)<;>simp only[h,↓zaL,↓zHC,WZ,reduceIte,yA,yB,yC,yD,reduceCtorEq,yE,yF,W1,W1B,YAK,zqo]
 ·simp only[List.drop_succ_cons,List.drop_zero,List.cons_append,List.nil_append,List.take_succ_cons,List.take_zero]
  simp only[↓zaL,↓zHC,WZ,reduceIte,yA,yB,yC,yD,reduceCtorEq,yE,yF,W1,W1B]
  refine zJv (fun hlt=> ?_) (fun hlt=> ?_)
  ·have h:=YAN
   repeat' (first
    |(with_reducible first|apply bA|apply bB|apply bC|apply bD|apply bE|apply bF)<;>intro h
    |refine zKg (id:=6) C_ok (fun _=>trivial) mixed 0 Try.f49.ntmps rfl (by kernel_rfl) (by decide) ?_
    |skip)<;>simp only[h,↓zaL,↓zHC,WZ,reduceIte,yA,yB,yC,yD,reduceCtorEq,yE,yF,W1,W1B,hlt,zOt hlt,zLY,hroom (i+1) hlt,hroom2 (i+1) hlt,hw (i+1) hlt,YAK,List.length_range,zqn]
   refine⟨i+1+1,hlt,by omega,zas rfl rfl rfl ?_ ?_ ?_ ?_⟩<;>(try simp only[WK,↓zaL,↓zHC,yA,reduceIte,yN,yO,yR,yP,yQ,yB,yC,zbX hlt hmax,zOq,zqm,zLy,yO,YAK])<;>(try simp[List.range_succ,apV,zGy])<;>(try omega)<;>(try rfl)
  ·have h0:i+1=vs.length:=by omega
   rw[apB,<-h0]at q2
   have h:=YAN
   repeat' (first
    |(with_reducible first|apply bA|apply bB|apply bC|apply bD|apply bE|apply bF)<;>intro h
    |((first|apply bG|apply bH);simp only[yP,yQ,W2,W2B,YAK,zqo];first|refine zIf (q2) (.inl rfl) ?_|refine zIj (q2) (.inl rfl) ?_)
    |refine zKg (id:=6) C_ok (fun _=>trivial) mixed 0 Try.f49.ntmps rfl (by kernel_rfl) (by decide) ?_
    |skip)<;>simp only[h,↓zaL,↓zHC,WZ,reduceIte,yA,yB,yC,yD,reduceCtorEq,yE,yF,W1,W1B,YAK,zqo]
end
section
theorem zsm{F:List AObj}{s a n n' b:Nat}{bx:AObj}(hs:s<F.length)(hr:a<F.length)(hne:a≠s)(h:∀x∈(stF F s a bx (.tok n 4)).take b,x.bel b=true):∀x∈(stF F s a bx (.tok n' 4)).take b,x.bel b=true:=
 zXA hs hr hne (fun _ h=>h) rfl h
def CMt:Cfg:= {C with zwr:=fun f=>f==47}
theorem zqV:zAb Try.prog CMt:=C_ok
theorem zqW(t:Nat):CMt.ty t=C.ty t:=rfl
theorem zqU(t:Nat):CMt.inpl t=false:=rfl
def MtC(t u:Ty)(L:List BT)(X:List Bd)(r:Bool)(n':Nat):Prop:=∀(F:List AObj) (s a:Nat) (bx:AObj),s<F.length->a<F.length->a≠s->
 zAd Try.prog 47 [emb t,emb u,.sl ((bdL L).map embB) (.own a)] (stF F s a bx (.tok L.length 4)) (.tup [.sl (X.map embB) (.own a),.bool r]) (stF F s a bx (.tok n' 4))
section
variable {F : List AObj} {s a : Nat} {bx : AObj}
theorem zrs{t u:Ty}(h6:(t.kind==6)=false)(hk:(t.kind !=u.kind)=true)(L:List BT):MtC t u L (bdL L) false L.length:=by
 intro F s a bx hs hr hne
 unfold zAd
 have hr':(a<F.length)=True:=eq_true hr
 refine eO zqV Try.func47 Try.results47 fun ok=> ?_
 have h:=YAN
 repeat' (first
  |(with_reducible first|apply bA|apply bB|apply bC|apply bD|apply bE|apply bF)<;>intro h
  |refine drA zqV 5 0 ?_
  |refine drA zqV 6 0 ?_
  |refine drA zqV 7 0 ?_
  |refine drA zqV 13 0 ?_
  |refine zJ9 ?_ zqV Try.f47.ntmps rfl (by decide)
  |skip)<;>simp only[h,↓zaL,↓zHC,WY,reduceIte,yA,yB,yC,yD,reduceCtorEq,yE,yF,W1,W1B,WS,W3,yH,yI,yJ,yK,yL,yM,zqW,zqU,stP hs hr hne,znE,znD,yN,yO,zOX,zGy,zG6,zGx,implies_true,List.map_cons,List.map_nil,Ty.zMj,Ty.zQn,Ty.zMf,beq_self_eq_true,YAO,zGI,hr',decide_true,h6,hk,zFY]
theorem zrr{k n m:Int}(h6:(k==6)=false)(L:List BT):MtC (.mk k n []) (.mk k m []) L (bdL L) true L.length:=by
 intro F s a bx hs hr hne
 unfold zAd
 have hr':(a<F.length)=True:=eq_true hr
 refine eO zqV Try.func47 Try.results47 fun ok=> ?_
 have h:=YAN
 repeat' (first
  |(with_reducible first|apply bA|apply bB|apply bC|apply bD|apply bE|apply bF)<;>intro h
  |refine drA zqV 5 0 ?_
  |refine drA zqV 6 0 ?_
  |refine drA zqV 7 0 ?_
  |refine drA zqV 13 0 ?_
  |refine zJ9 ?_ zqV Try.f47.ntmps rfl (by decide)
  |skip)<;>simp only[h,↓zaL,↓zHC,WY,reduceIte,yA,yB,yC,yD,reduceCtorEq,yE,yF,W1,W1B,WS,W3,yH,yI,yJ,yK,yL,yM,zqW,zqU,stP hs hr hne,znE,znD,yN,yO,zOX,zGy,zG6,zGx,implies_true,List.map_cons,List.map_nil,Ty.zMj,Ty.zQn,Ty.zMf,beq_self_eq_true,YAO,zGI,hr',decide_true,h6,zFY]
theorem zrv{k n m:Int}(h6:(k==6)=false){x y x' y':Ty}{L L1:List BT}{X:List Bd}{n':Nat}(i1:MtC x x' L (bdL L1) true L1.length)(i2:MtC y y' L1 X true n'):MtC (.mk k n [x,y]) (.mk k m [x',y']) L X true n':=by
 intro F s a bx hs hr hne
 unfold zAd
 have hr':(a<F.length)=True:=eq_true hr
 refine eO zqV Try.func47 Try.results47 fun ok=> ?_
 have h:=YAN
 repeat' (first
  |(with_reducible first|apply bA|apply bB|apply bC|apply bD|apply bE|apply bF)<;>intro h
  |(first|refine zIl rfl trivial (i1 _ _ _ _ (by first|exact hs|simp<;>omega) (by first|exact hr|simp<;>omega) hne) (.inl rfl) (fun hb=>zsm (by first|exact hs|simp<;>omega) (by first|exact hr|simp<;>omega) hne hb) ?_|refine zIl rfl trivial (i2 _ _ _ _ (by first|exact hs|simp<;>omega) (by first|exact hr|simp<;>omega) hne) (.inl rfl) (fun hb=>zsm (by first|exact hs|simp<;>omega) (by first|exact hr|simp<;>omega) hne hb) ?_|((first|apply bG|apply bH);simp only[yP,yQ,W2,W2B,W3,yH,yI,yJ,yK,yL,yM,zqW,zqU,stP hs hr hne,znE,znD,yN,yO,zOX,zGy,zG6,zGx,implies_true,List.map_cons,List.map_nil,Ty.zMj,Ty.zQn,Ty.zMf,beq_self_eq_true,YAO,zGI,hr',decide_true,h6];first|refine zIf (zcu _ 5) (.inl rfl) ?_|refine zIj (zcu _ 5) (.inl rfl) ?_))
  |refine drA zqV 5 0 ?_
  |refine drA zqV 6 0 ?_
  |refine drA zqV 7 0 ?_
  |refine drA zqV 13 0 ?_
  |refine zJ9 ?_ zqV Try.f47.ntmps rfl (by decide)
  |skip)<;>simp only[h,↓zaL,↓zHC,WY,reduceIte,yA,yB,yC,yD,reduceCtorEq,yE,yF,W1,W1B,WS,W3,yH,yI,yJ,yK,yL,yM,zqW,zqU,stP hs hr hne,znE,znD,yN,yO,zOX,zGy,zG6,zGx,implies_true,List.map_cons,List.map_nil,Ty.zMj,Ty.zQn,Ty.zMf,beq_self_eq_true,YAO,zGI,hr',decide_true,h6,zFY]
theorem zrx{k n m:Int}(h6:(k==6)=false){x y x' y':Ty}{L L1:List BT}{X:List Bd}{n':Nat}(i1:MtC x x' L (bdL L1) true L1.length)(i2:MtC y y' L1 X false n'):MtC (.mk k n [x,y]) (.mk k m [x',y']) L (bdL L1) false n':=by
 intro F s a bx hs hr hne
 unfold zAd
 have hr':(a<F.length)=True:=eq_true hr
 refine eO zqV Try.func47 Try.results47 fun ok=> ?_
 have h:=YAN
 repeat' (first
  |(with_reducible first|apply bA|apply bB|apply bC|apply bD|apply bE|apply bF)<;>intro h
  |(first|refine zIl rfl trivial (i1 _ _ _ _ (by first|exact hs|simp<;>omega) (by first|exact hr|simp<;>omega) hne) (.inl rfl) (fun hb=>zsm (by first|exact hs|simp<;>omega) (by first|exact hr|simp<;>omega) hne hb) ?_|refine zIl rfl trivial (i2 _ _ _ _ (by first|exact hs|simp<;>omega) (by first|exact hr|simp<;>omega) hne) (.inl rfl) (fun hb=>zsm (by first|exact hs|simp<;>omega) (by first|exact hr|simp<;>omega) hne hb) ?_|((first|apply bG|apply bH);simp only[yP,yQ,W2,W2B,W3,yH,yI,yJ,yK,yL,yM,zqW,zqU,stP hs hr hne,znE,znD,yN,yO,zOX,zGy,zG6,zGx,implies_true,List.map_cons,List.map_nil,Ty.zMj,Ty.zQn,Ty.zMf,beq_self_eq_true,YAO,zGI,hr',decide_true,h6];first|refine zIf (zcu _ 5) (.inl rfl) ?_|refine zIj (zcu _ 5) (.inl rfl) ?_))
  |refine drA zqV 5 0 ?_
  |refine drA zqV 6 0 ?_
  |refine drA zqV 7 0 ?_
  |refine drA zqV 13 0 ?_
  |refine zJ9 ?_ zqV Try.f47.ntmps rfl (by decide)
  |skip)<;>simp only[h,↓zaL,↓zHC,WY,reduceIte,yA,yB,yC,yD,reduceCtorEq,yE,yF,W1,W1B,WS,W3,yH,yI,yJ,yK,yL,yM,zqW,zqU,stP hs hr hne,znE,znD,yN,yO,zOX,zGy,zG6,zGx,implies_true,List.map_cons,List.map_nil,Ty.zMj,Ty.zQn,Ty.zMf,beq_self_eq_true,YAO,zGI,hr',decide_true,h6,zFY]
theorem zrw{k n m:Int}(h6:(k==6)=false){x y x' y':Ty}{L:List BT}{X:List Bd}{n':Nat}(i1:MtC x x' L X false n'):MtC (.mk k n [x,y]) (.mk k m [x',y']) L (bdL L) false n':=by
 intro F s a bx hs hr hne
 unfold zAd
 have hr':(a<F.length)=True:=eq_true hr
 refine eO zqV Try.func47 Try.results47 fun ok=> ?_
 have h:=YAN
 repeat' (first
  |(with_reducible first|apply bA|apply bB|apply bC|apply bD|apply bE|apply bF)<;>intro h
  |(first|refine zIl rfl trivial (i1 _ _ _ _ (by first|exact hs|simp<;>omega) (by first|exact hr|simp<;>omega) hne) (.inl rfl) (fun hb=>zsm (by first|exact hs|simp<;>omega) (by first|exact hr|simp<;>omega) hne hb) ?_|((first|apply bG|apply bH);simp only[yP,yQ,W2,W2B,W3,yH,yI,yJ,yK,yL,yM,zqW,zqU,stP hs hr hne,znE,znD,yN,yO,zOX,zGy,zG6,zGx,implies_true,List.map_cons,List.map_nil,Ty.zMj,Ty.zQn,Ty.zMf,beq_self_eq_true,YAO,zGI,hr',decide_true,h6];first|refine zIf (zcu _ 5) (.inl rfl) ?_|refine zIj (zcu _ 5) (.inl rfl) ?_))
  |refine drA zqV 5 0 ?_
  |refine drA zqV 6 0 ?_
  |refine drA zqV 7 0 ?_
  |refine drA zqV 13 0 ?_
  |refine zJ9 ?_ zqV Try.f47.ntmps rfl (by decide)
  |skip)<;>simp only[h,↓zaL,↓zHC,WY,reduceIte,yA,yB,yC,yD,reduceCtorEq,yE,yF,W1,W1B,WS,W3,yH,yI,yJ,yK,yL,yM,zqW,zqU,stP hs hr hne,znE,znD,yN,yO,zOX,zGy,zG6,zGx,implies_true,List.map_cons,List.map_nil,Ty.zMj,Ty.zQn,Ty.zMf,beq_self_eq_true,YAO,zGI,hr',decide_true,h6,zFY]
theorem zrt{k n m:Int}(h6:(k==6)=false){x x':Ty}{L:List BT}{X:List Bd}{n':Nat}(i1:MtC x x' L X true n'):MtC (.mk k n [x]) (.mk k m [x']) L X true n':=by
 intro F s a bx hs hr hne
 unfold zAd
 have hr':(a<F.length)=True:=eq_true hr
 refine eO zqV Try.func47 Try.results47 fun ok=> ?_
 have h:=YAN
 repeat' (first
  |(with_reducible first|apply bA|apply bB|apply bC|apply bD|apply bE|apply bF)<;>intro h
  |(first|refine zIl rfl trivial (i1 _ _ _ _ (by first|exact hs|simp<;>omega) (by first|exact hr|simp<;>omega) hne) (.inl rfl) (fun hb=>zsm (by first|exact hs|simp<;>omega) (by first|exact hr|simp<;>omega) hne hb) ?_|((first|apply bG|apply bH);simp only[yP,yQ,W2,W2B,W3,yH,yI,yJ,yK,yL,yM,zqW,zqU,stP hs hr hne,znE,znD,yN,yO,zOX,zGy,zG6,zGx,implies_true,List.map_cons,List.map_nil,Ty.zMj,Ty.zQn,Ty.zMf,beq_self_eq_true,YAO,zGI,hr',decide_true,h6];first|refine zIf (zcu _ 5) (.inl rfl) ?_|refine zIj (zcu _ 5) (.inl rfl) ?_))
  |refine drA zqV 5 0 ?_
  |refine drA zqV 6 0 ?_
  |refine drA zqV 7 0 ?_
  |refine drA zqV 13 0 ?_
  |refine zJ9 ?_ zqV Try.f47.ntmps rfl (by decide)
  |skip)<;>simp only[h,↓zaL,↓zHC,WY,reduceIte,yA,yB,yC,yD,reduceCtorEq,yE,yF,W1,W1B,WS,W3,yH,yI,yJ,yK,yL,yM,zqW,zqU,stP hs hr hne,znE,znD,yN,yO,zOX,zGy,zG6,zGx,implies_true,List.map_cons,List.map_nil,Ty.zMj,Ty.zQn,Ty.zMf,beq_self_eq_true,YAO,zGI,hr',decide_true,h6,zFY]
theorem zru{k n m:Int}(h6:(k==6)=false){x x':Ty}{L:List BT}{X:List Bd}{n':Nat}(i1:MtC x x' L X false n'):MtC (.mk k n [x]) (.mk k m [x']) L (bdL L) false n':=by
 intro F s a bx hs hr hne
 unfold zAd
 have hr':(a<F.length)=True:=eq_true hr
 refine eO zqV Try.func47 Try.results47 fun ok=> ?_
 have h:=YAN
 repeat' (first
  |(with_reducible first|apply bA|apply bB|apply bC|apply bD|apply bE|apply bF)<;>intro h
  |(first|refine zIl rfl trivial (i1 _ _ _ _ (by first|exact hs|simp<;>omega) (by first|exact hr|simp<;>omega) hne) (.inl rfl) (fun hb=>zsm (by first|exact hs|simp<;>omega) (by first|exact hr|simp<;>omega) hne hb) ?_|((first|apply bG|apply bH);simp only[yP,yQ,W2,W2B,W3,yH,yI,yJ,yK,yL,yM,zqW,zqU,stP hs hr hne,znE,znD,yN,yO,zOX,zGy,zG6,zGx,implies_true,List.map_cons,List.map_nil,Ty.zMj,Ty.zQn,Ty.zMf,beq_self_eq_true,YAO,zGI,hr',decide_true,h6];first|refine zIf (zcu _ 5) (.inl rfl) ?_|refine zIj (zcu _ 5) (.inl rfl) ?_))
  |refine drA zqV 5 0 ?_
  |refine drA zqV 6 0 ?_
  |refine drA zqV 7 0 ?_
  |refine drA zqV 13 0 ?_
  |refine zJ9 ?_ zqV Try.f47.ntmps rfl (by decide)
  |skip)<;>simp only[h,↓zaL,↓zHC,WY,reduceIte,yA,yB,yC,yD,reduceCtorEq,yE,yF,W1,W1B,WS,W3,yH,yI,yJ,yK,yL,yM,zqW,zqU,stP hs hr hne,znE,znD,yN,yO,zOX,zGy,zG6,zGx,implies_true,List.map_cons,List.map_nil,Ty.zMj,Ty.zQn,Ty.zMf,beq_self_eq_true,YAO,zGI,hr',decide_true,h6,zFY]
end
end
section
theorem zrm:∀ {L:List BT} {n:Int} {i:Nat},(∀j,j<i->(L.getD j default).1≠n)->∀p,L[i]?=some p->p.1=n->zNg L n=some p.2
 |q::L,n,0,_,p,hp,e=>by
  simp only[List.getElem?_cons_zero,YAM]at hp
  subst hp
  rw[zNg,if_pos e]
 |q::L,n,i+1,h,p,hp,e=>by
  rw[zNg,if_neg (show¬q.1=n from h 0 (by omega))]
  exact zrm (i:=i) (fun j hj=>h (j+1) (by omega)) p (by simpa using hp) e
 | [],n,i,h,p,hp,e=>by simp at hp
theorem zro{L:List BT}{n:Int}(h:∀j,j<L.length->(L.getD j default).1≠n):zNg L n=none:=by
 induction L with
 |nil=>rfl
 |cons q L ih=>
  rw[zNg,if_neg (show¬q.1=n from h 0 (by simp))]
  exact ih fun j hj=>h (j+1) (by simpa using hj)
section
variable {F : List AObj} {s a : Nat} {bx : AObj}
theorem zry(n:Int)(u:T)(L:List BT)(hl:L.length<=1000000):MtC (T.var n).ty u.ty L (bdL (zHp (.var n) u L).1) (zHp (.var n) u L).2 (zHp (.var n) u L).1.length:=by
 intro F s a bx hs hr hne
 have hbl:=zb8 L
 have hmax:L.length<=maxLen:=by rw[zPC];omega
 have hr':(a<F.length)=True:=eq_true hr
 have b2:(L.length+1<=9223372036854775807)=True:=by simp only[YAb,iff_true];omega
 have b3:((L.length+1)*48<=140737488355328)=True:=by simp only[YAb,iff_true];omega
 have hww:=zcu u.ty 5
 rw[zdC]at hww
 unfold zAd
 simp only[T.ty]
 refine eO zqV Try.func47 Try.results47 fun ok=> ?_
 have h:=YAN
 repeat' (first
  |(with_reducible first|apply bA|apply bB|apply bC|apply bD|apply bE|apply bF)<;>intro h
  |refine drA zqV 5 0 ?_
  |refine drA zqV 6 0 ?_
  |refine drA zqV 7 0 ?_
  |refine drA zqV 13 0 ?_
  |skip)<;>simp only[h,↓zaL,↓zHC,WY,reduceIte,yA,yB,yC,yD,reduceCtorEq,yE,yF,W1,W1B,WS,zqW,zqU,stP hs hr hne,znE,znD,yN,yO,zOX,zGy,zG6,zGx,implies_true,Ty.zMj,Ty.zQn,Ty.zMf,List.map_nil,beq_self_eq_true]
 refine zCN [8,2,3,4] ?_
 simp only[List.map_cons,List.map_nil,↓zaL,↓zHC,WY,reduceIte,yA,yB,yC,yD,reduceCtorEq,yE,yF,W1,W1B,WS]
 refine zJ1 1 (fun i:Nat=> [(8,.int .i64 i)]) (fun _=>stF (F++ [.box [.int .i64 6,.int .i64 n,.sl [] .no],.box [.int .i64 u.ty.kind,.int .i64 u.ty.num,.sl (u.ty.kids.map emb) .no]]) s a bx (.tok L.length 4)) (fun i=>i<=L.length/\∀j,j<i->(L.getD j default).1≠n) (fun i=>L.length-i) zqV 0 rfl rfl ⟨YAX _,fun j hj=>absurd hj (Nat.not_lt_zero _)⟩ (by decide) ?_
 rintro i ⟨hi,h3⟩
 simp only[List.drop_succ_cons,List.drop_zero,List.cons_append,List.nil_append]
 by_cases hlt:i<L.length
 ·have hlt':i<(bdL L).length:=by omega
  have hg:L[i]?=some L[i]:=YAI hlt
  have hgd:L.getD i default=L[i]:=by simp[hlt]
  have hat:(bdL L).getD i default=((L[i]).1,(L[i]).2.ty):=by
   rw[YAF,bdL,List.getElem?_map,hg];rfl
  by_cases e:(L[i]).1=n
  ·have hlk:=zrm h3 _ hg e
   have hsm:=zsR (L[i]).2.ty u.ty
   rw[T.zc0]at hsm
   simp only[zHp,hlk]
   generalize L[i]=p at*
   obtain⟨m,w⟩:=p
   simp only at e hat hsm
   subst e
   have h:=YAN
   repeat' (first
    |(with_reducible first|apply bA|apply bB|apply bC|apply bD|apply bE|apply bF)<;>intro h
    |((first|apply bG|apply bH);simp only[yP,yQ,W2,W2B,zqW,zqU,stP hs hr hne,znE,znD,yN,yO,zOX,zGy,zG6,zGx,implies_true,beq_self_eq_true,hlt,hlt',hbl,zOY hlt',hat,zGI,hr',decide_true,YAK];first|refine zIf (hsm) (.inl rfl) ?_|refine zIj (hsm) (.inl rfl) ?_)
    |refine drA zqV 5 0 ?_
    |refine drA zqV 6 0 ?_
    |refine drA zqV 7 0 ?_
    |refine drA zqV 13 0 ?_
    |skip)<;>simp only[h,↓zaL,↓zHC,WY,reduceIte,yA,yB,yC,yD,reduceCtorEq,yE,yF,W1,W1B,WS,zqW,zqU,stP hs hr hne,znE,znD,yN,yO,zOX,zGy,zG6,zGx,implies_true,beq_self_eq_true,hlt,hlt',hbl,zOY hlt',hat,zGI,hr',decide_true,YAK]
  ·have eb:((L[i]).1==n)=false:=YAZ.2 e
   have h:=YAN
   repeat' (first
    |(with_reducible first|apply bA|apply bB|apply bC|apply bD|apply bE|apply bF)<;>intro h
    |refine drA zqV 5 0 ?_
    |refine drA zqV 6 0 ?_
    |refine drA zqV 7 0 ?_
    |refine drA zqV 13 0 ?_
    |skip)<;>simp only[h,↓zaL,↓zHC,WY,reduceIte,yA,yB,yC,yD,reduceCtorEq,yE,yF,W1,W1B,WS,zqW,zqU,stP hs hr hne,znE,znD,yN,yO,zOX,zGy,zG6,zGx,implies_true,eb,hlt,hlt',hbl,zOY hlt',hat,zGI,hr',decide_true,YAK]
   refine⟨i+1,⟨hlt,fun j hj=> ?_⟩,by omega,zap rfl ?_⟩
   ·by_cases ej:j=i
    ·subst ej;rw[hgd];exact e
    ·exact h3 j (by omega)
   ·simp only[WK,↓zaL,↓zHC,yA,reduceIte,yN,yO,yR,yP,yQ,yB,yC,zbX hlt hmax]
 ·have hi':i=L.length:=by omega
  subst hi'
  have hlk:=zro h3
  have ap:List.map embB (bdL (L++ [(n,u)]))=List.map embB (bdL L)++ [embB (n,u.ty)]:=by simp[bdL]
  simp only[zHp,hlk,ap]
  have h:=YAN
  repeat' (first
   |(with_reducible first|apply bA|apply bB|apply bC|apply bD|apply bE|apply bF)<;>intro h
   |((first|apply bG|apply bH);simp only[yP,yQ,W2,W2B,zqW,zqU,stP hs hr hne,znE,znD,yN,yO,zOX,zGy,zG6,zGx,zGH,implies_true,hlt,hbl,b2,b3,zGI,hr',decide_true,YAK,YAJ,List.length_singleton,Nat.lt_irrefl,Int.lt_irrefl];first|refine zIf (hww) (.inl rfl) ?_|refine zIj (hww) (.inl rfl) ?_)
   |refine drA zqV 5 0 ?_
   |refine drA zqV 6 0 ?_
   |refine drA zqV 7 0 ?_
   |refine drA zqV 13 0 ?_
   |skip)<;>simp only[h,↓zaL,↓zHC,WY,reduceIte,yA,yB,yC,yD,reduceCtorEq,yE,yF,W1,W1B,WS,zqW,zqU,stP hs hr hne,znE,znD,yN,yO,zOX,zGy,zG6,zGx,zGH,implies_true,hlt,hbl,b2,b3,zGI,hr',decide_true,YAK,YAJ,List.length_singleton,Nat.lt_irrefl,Int.lt_irrefl]
  all_goals (rw[<-ap];exact zOX _ _)
end
theorem zrp:∀(t u:T) (L:List BT),L.length+t.size<=1000000->∃X n',MtC t.ty u.ty L X (zHp t u L).2 n'/\((zHp t u L).2=true->X=bdL (zHp t u L).1/\n'=(zHp t u L).1.length):=by
 have nek:∀k:Fin 4,(((k.val:Int)+1)==6)=false:=fun k=>by have:=k.isLt;rw[YAZ];omega
 have fail:∀ {t u:T} {L:List BT},(t.ty.kind==6)=false->(t.ty.kind !=u.ty.kind)=true->(zHp t u L)=(L,false)->∃X n',MtC t.ty u.ty L X (zHp t u L).2 n'/\((zHp t u L).2=true->X=bdL (zHp t u L).1/\n'=(zHp t u L).1.length):=by
  intro t u L h6 hk e
  rw[e]
  exact⟨_,_,zrs h6 hk L,fun h=>(by cases h)⟩
 have bne5:∀(k:Fin 4) (m:Int),5<=m->(((k.val:Int)+1) !=m)=true/\(m !=((k.val:Int)+1))=true:=fun k m hm=>by
  have:=k.isLt;exact⟨by rw[bne_iff_ne];omega,by rw[bne_iff_ne];omega⟩
 intro t
 induction t with
 |var n=>intro u L hl;exact⟨_,_,zry n u L (by omega),fun _=>⟨rfl,rfl⟩⟩
 |base k=>
  intro u L hl
  cases u with
  |base k'=>
   by_cases e:k=k'
   ·subst e
    have:zHp (.base k) (.base k) L=(L,true):=by simp[zHp]
    rw[this]
    exact⟨_,_,zrr (nek k) L,fun _=>⟨rfl,rfl⟩⟩
   ·refine fail (nek k) ?_ (by simp[zHp,e])
    show(((k.val:Int)+1) !=((k'.val:Int)+1))=true
    rw[bne_iff_ne]
    intro h
    exact e (Fin.ext (by omega))
  |dyn=>exact fail (nek k) (bne5 k 5 (by decide)).1 rfl
  |var n=>exact fail (nek k) (bne5 k 6 (by decide)).1 rfl
  |pair c d=>exact fail (nek k) (bne5 k 7 (by decide)).1 rfl
  |list c=>exact fail (nek k) (bne5 k 8 (by decide)).1 rfl
  |fn c d=>exact fail (nek k) (bne5 k 9 (by decide)).1 rfl
 |dyn=>
  intro u L hl
  cases u with
  |dyn=>exact⟨_,_,zrr rfl L,fun _=>⟨rfl,rfl⟩⟩
  |base k=>exact fail rfl (bne5 k 5 (by decide)).2 rfl
  |_=>exact fail rfl rfl rfl
 |pair a b ih1 ih2=>
  intro u L hl
  simp only[T.size]at hl
  cases u with
  |pair c d=>
   obtain⟨X1,n1,c1,d1⟩:=ih1 c L (by omega)
   have e:zHp (.pair a b) (.pair c d) L=if(zHp a c L).2=true then zHp b d (zHp a c L).1 else((zHp a c L).1,false):=rfl
   cases hc:(zHp a c L).2 with
   |false=>
    rw[e,hc,if_neg (by decide)]
    rw[hc]at c1
    exact⟨_,_,zrw rfl c1,fun h=>(by cases h)⟩
   |true=>
    rw[e,hc,if_pos rfl]
    obtain⟨rfl,rfl⟩:=d1 hc
    rw[hc]at c1
    obtain⟨X2,n2,c2,d2⟩:=ih2 d (zHp a c L).1 (by have:=(zcF a c L).2;omega)
    cases hd:(zHp b d (zHp a c L).1).2 with
    |false=>rw[hd]at c2;exact⟨_,_,zrx rfl c1 c2,fun h=>(by cases h)⟩
    |true=>
     obtain⟨e1,e2⟩:=d2 hd
     rw[hd]at c2
     exact⟨_,_,zrv rfl c1 c2,fun _=>⟨e1,e2⟩⟩
  |base k=>exact fail rfl (bne5 k 7 (by decide)).2 rfl
  |_=>exact fail rfl rfl rfl
 |fn a b ih1 ih2=>
  intro u L hl
  simp only[T.size]at hl
  cases u with
  |fn c d=>
   obtain⟨X1,n1,c1,d1⟩:=ih1 c L (by omega)
   have e:zHp (.fn a b) (.fn c d) L=if(zHp a c L).2=true then zHp b d (zHp a c L).1 else((zHp a c L).1,false):=rfl
   cases hc:(zHp a c L).2 with
   |false=>
    rw[e,hc,if_neg (by decide)]
    rw[hc]at c1
    exact⟨_,_,zrw rfl c1,fun h=>(by cases h)⟩
   |true=>
    rw[e,hc,if_pos rfl]
    obtain⟨rfl,rfl⟩:=d1 hc
    rw[hc]at c1
    obtain⟨X2,n2,c2,d2⟩:=ih2 d (zHp a c L).1 (by have:=(zcF a c L).2;omega)
    cases hd:(zHp b d (zHp a c L).1).2 with
    |false=>rw[hd]at c2;exact⟨_,_,zrx rfl c1 c2,fun h=>(by cases h)⟩
    |true=>
     obtain⟨e1,e2⟩:=d2 hd
     rw[hd]at c2
     exact⟨_,_,zrv rfl c1 c2,fun _=>⟨e1,e2⟩⟩
  |base k=>exact fail rfl (bne5 k 9 (by decide)).2 rfl
  |_=>exact fail rfl rfl rfl
 |list a ih1=>
  intro u L hl
  simp only[T.size]at hl
  cases u with
  |list c=>
   obtain⟨X1,n1,c1,d1⟩:=ih1 c L (by omega)
   have e:zHp (.list a) (.list c) L=zHp a c L:=rfl
   rw[e]
   cases hc:(zHp a c L).2 with
   |false=>
    rw[hc]at c1
    exact⟨_,_,zru rfl c1,fun h=>(by cases h)⟩
   |true=>
    obtain⟨e1,e2⟩:=d1 hc
    rw[hc]at c1
    exact⟨_,_,zrt rfl c1,fun _=>⟨e1,e2⟩⟩
  |base k=>exact fail rfl (bne5 k 8 (by decide)).2 rfl
  |_=>exact fail rfl rfl rfl
theorem zrq(F:List AObj)(b1 b2:AObj)(t u:T)(hs:t.size<=1000000):∃X n',((zHp t u []).2=true->X=bdL (zHp t u []).1)/\
 zAA Try.prog 47 [emb t.ty,emb u.ty,.sl [] .full] (F++ [b1,b2]) fun x G=>x= .tup [.sl (X.map embB) (.own (F.length+2)),.bool (zHp t u []).2]/\G=F++ [b1,b2,.tok n' 4]:=by
 obtain⟨X,n',c,d⟩:=zrp t u [] (by simpa using hs)
 have key:∀k,stF (F++ [b1,b2,.tok 0 4]) F.length (F.length+2) b1 (.tok k 4)=F++ [b1,b2,.tok k 4]:=fun k=>by
  unfold stF
  rw[zCX rfl,zCY rfl]
  rfl
 have h:=c (F++ [b1,b2,.tok 0 4]) F.length (F.length+2) b1 (by simp) (by simp) (by omega)
 rw[show([]:List BT).length=0 from rfl,key,key]at h
 refine⟨X,n',fun e=>(d e).1,?_⟩
 have h2:=zlp (P:=Try.prog) (f:=47) (args:=[emb t.ty,emb u.ty,.sl [] .full]) (F:=F++ [b1,b2]) (k:=2) (size:=4) rfl (by
  rw[List.append_assoc]
  simp only[YAJ,List.length_cons,List.length_nil]
  exact h)
 exact h2.mono fun x G hx=>hx.2
theorem zsI{t u:T}(ht:t.ok=true)(hu:u.ok=true)(hs:t.size<=1000000):zA0 Try.prog 23 [emb t.ty,emb u.ty] (zO7 t.ty u.ty):=by
 refine zSZ (zcV t.ty u.ty) ?_
 have e:=zcG t u []
 rw[zO7,if_pos ⟨by rw[T.zT5];exact ht,by rw[T.zT5];exact hu⟩,zX5,zX5,e]
 intro F
 obtain⟨X,n',hX,qf⟩:=zrq F (.box [.int .i64 t.ty.kind,.int .i64 t.ty.num,.sl (t.ty.kids.map emb) .no]) (.box [.int .i64 u.ty.kind,.int .i64 u.ty.num,.sl (u.ty.kids.map emb) .no]) t u hs
 cases hm:(zHp t u []).2 with
 |true=>
  simp only[if_true]
  obtain rfl:=hX hm
  rw[hm]at qf
  unfold zAd
  refine eD C_ok Try.func23 Try.results23 fun ok=> ?_
  have h:=YAN
  repeat' (first
   |(with_reducible first|apply bA|apply bB|apply bC|apply bD|apply bE|apply bF)<;>intro h
   |skip)<;>simp only[h,↓zaL,↓zHC,WY,reduceIte,yA,yB,yC,yD,reduceCtorEq,yE,yF,W1,W1B,WS,yO,yN,zTh,zTg]
  refine fsCall qf (.inl rfl) fun x G hG hlen=> ?_
  obtain⟨rfl,rfl⟩:=hG
  refine⟨fun hbel=> ?_,?_⟩
  ·rw[List.take_left' rfl]at hbel⊢
   exact hbel
  ·have h:=YAN
   repeat' (first
    |(with_reducible first|apply bA|apply bB|apply bC|apply bD|apply bE|apply bF)<;>intro h
    |skip)<;>simp only[h,↓zaL,↓zHC,WY,reduceIte,yA,yB,yC,yD,reduceCtorEq,yE,yF,W1,W1B,WS,yO,yN,zTh,zTg,zOX,zOZ]
   all_goals exact List.take_left' rfl
 |false=>
  simp only[if_false,YAB]
  rw[hm]at qf
  unfold zAd
  refine eD C_ok Try.func23 Try.results23 fun ok=> ?_
  have h:=YAN
  repeat' (first
   |(with_reducible first|apply bA|apply bB|apply bC|apply bD|apply bE|apply bF)<;>intro h
   |skip)<;>simp only[h,↓zaL,↓zHC,WY,reduceIte,yA,yB,yC,yD,reduceCtorEq,yE,yF,W1,W1B,WS,yO,yN,zTh,zTg]
  refine fsCall qf (.inl rfl) fun x G hG hlen=> ?_
  obtain⟨rfl,rfl⟩:=hG
  refine⟨fun hbel=> ?_,?_⟩
  ·rw[List.take_left' rfl]at hbel⊢
   exact hbel
  ·have h:=YAN
   repeat' (first
    |(with_reducible first|apply bA|apply bB|apply bC|apply bD|apply bE|apply bF)<;>intro h
    |skip)<;>simp only[h,↓zaL,↓zHC,WY,reduceIte,yA,yB,yC,yD,reduceCtorEq,yE,yF,W1,W1B,WS,yO,yN,zTh,zTg,zOX,zOZ]
   all_goals exact List.take_left' rfl
end
section
def CUn:Cfg:= {C with zwr:=fun f=>f==48}
theorem zqe:zAb Try.prog CUn:=C_ok
theorem zqf(t:Nat):CUn.ty t=C.ty t:=rfl
theorem zqd(t:Nat):CUn.inpl t=false:=rfl
theorem zs5{t u:T}(ht:t.ok=true)(hu:u.ok=true){f:Nat}{r:Bool}{R':List BT}(h:beV f [] t (apT u)=some (r,R'))(hl:R'.length<=1000000)(F:List AObj)(b1 b2:AObj):∃v',
 zAd Try.prog 48 [.bptr (F.length+2) 0,emb t.ty,emb (apT u).ty] (F++ [b1,b2,.box [.sl [] .full]]) (.bool r) (F++ [b1,b2,.box [.ms (F.length+3) v' R'.length],.arr v' 4 ((bdR R').map embB)]):=by
 have e0:frN []=4194308:=rfl
 obtain⟨v',c⟩:=zsv (p:=F.length+2) (q:=F.length+3) (by omega) f [] t (apT u) r R' trivial (fun n t h=>by cases h) (by rw[e0];exact zr4 ht) (by rw[e0];exact zqj hu) h hl 0
 refine⟨v',?_⟩
 have key:∀v (R:List BT),hpU (F++ [b1,b2,.box [.ms (F.length+3) 0 0],.arr 0 4 []]) (F.length+2) (F.length+3) v R=F++ [b1,b2,.box [.ms (F.length+3) v R.length],.arr v 4 ((bdR R).map embB)]:=fun v R=>by
  unfold hpU stF ubx uar
  rw[zCY rfl,zCY rfl]
  rfl
 have h:=c (F++ [b1,b2,.box [.ms (F.length+3) 0 0],.arr 0 4 []]) (by simp) (by simp)
 rw[key,key]at h
 refine zb6 (p:=F.length+2) (off:=0) (size:=4) (cs:=[.sl [] .full]) (zCU rfl) rfl ?_
 rw[zCY rfl,List.append_assoc]
 simp only[YAJ,List.length_cons,List.length_nil]
 exact h
theorem zsT{t u:T}(ht:t.ok=true)(hu:u.ok=true)(hs:nodes u.ty<=1048576){f:Nat}{r:Bool}{R':List BT}(h:beV f [] t (apT u)=some (r,R'))(hl:R'.length<=1000000):zA0 Try.prog 25 [emb t.ty,emb u.ty] (.bool r):=by
 refine zSZ rfl ?_
 intro F
 have qa:=zsC hu hs
 obtain⟨v',c⟩:=zs5 ht hu h hl F (.box [.int .i64 t.ty.kind,.int .i64 t.ty.num,.sl (t.ty.kids.map emb) .no]) (.box [.int .i64 u.ty.kind,.int .i64 u.ty.num,.sl (u.ty.kids.map emb) .no])
 unfold zAd
 refine eD zqe Try.func25 Try.results25 fun ok=> ?_
 have h:=YAN
 repeat' (first
  |(with_reducible first|apply bA|apply bB|apply bC|apply bD|apply bE|apply bF)<;>intro h
  |((first|apply bG|apply bH);simp only[yP,yQ,W2,W2B,zqf,zqd,yO,yN,zTh,zTg];first|refine zIf (qa) (.inl rfl) ?_|refine zIj (qa) (.inl rfl) ?_|refine zIl rfl trivial (c) (.inl rfl) (fun hb=>by rw[List.take_left' rfl]at hb⊢;exact hb) ?_)
  |refine drA zqe 2 0 ?_
  |skip)<;>simp only[h,↓zaL,↓zHC,WY,reduceIte,yA,yB,yC,yD,reduceCtorEq,yE,yF,W1,W1B,WS,zqf,zqd,yO,yN,zTh,zTg]
 all_goals exact List.take_left' rfl
end
end Go.Proofs.Ytmpegnogdgbleaa
