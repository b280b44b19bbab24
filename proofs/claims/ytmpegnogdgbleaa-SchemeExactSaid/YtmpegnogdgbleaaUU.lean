/- Whether an instance is below another one: what Under answers. No condition. -/
import Derived.Test.YtmpegnogdgbleaaUZ
import Derived.Test.YtmpegnogdgbleaaE9
set_option linter.unusedSimpArgs false
set_option linter.unusedVariables false
set_option maxHeartbeats 4000000
set_option maxRecDepth 100000
namespace Go.Proofs.Ytmpegnogdgbleaa
open Go Go.Ab
open Nat renaming reduceEqDiff -> yA, reduceAdd -> yB, reduceLT -> yC, reduceLeDiff -> yD, reduceMul -> yE, reducePow -> yF, reduceBEq -> yG
open AV renaming belL -> yO, bel -> yN, normL -> yQ, norm -> yP
open AObj renaming bel -> yR
attribute [local irreducible] zA0 zAA zAa zAi zAj GoIf GoGb zAk GoO GoD GoX GoDX GoG GoDG GoGv zAl Go zAB
def UndT(t u:T):Prop:=∃σ τ:Int->T,(∀n,Gnd (σ n))/\(∀n,Gnd (τ n))/\zDd (putS σ t) (putS τ u)=true
theorem zjn:OkG ([],[],[]):=⟨⟨fun n h=>(by cases h),fun n h=>(by cases h),fun n h=>(by cases h)⟩,fun n=>rfl,fun n i h=>(by cases h),fun n i h=>(by cases h)⟩
theorem zh7:Cg [] []:=fun φ _ _ n r h=>by cases h
theorem zi7:Kok []:=fun n=> .inl rfl
theorem zlC{t u:T}(h:gbelow t u ([],[],[])=none):¬UndT t u:=by
 rintro⟨σ,τ,hσ,hτ,hb⟩
 obtain⟨s',ρ',e,_⟩:=(ziY u t zjn).co (fun _=> .base 0) σ τ ⟨⟨fun n h=>(by cases h),fun n h=>(by cases h),fun n h=>(by cases h)⟩,hσ,hτ,fun n i h=>(by cases h),fun n i h=>(by cases h)⟩ hb
 rw[h]at e;cases e
theorem zlE{t u:T}{s:GS}(h:gbelow t u ([],[],[])=some s):UndT t u ↔ ∃ρ,Mdl s.1 ρ:=by
 have B:=ziY u t zjn
 obtain⟨ok,_,_⟩:=B.ok s h
 constructor
 ·rintro⟨σ,τ,hσ,hτ,hb⟩
  obtain⟨s',ρ',e,F⟩:=B.co (fun _=> .base 0) σ τ ⟨⟨fun n h=>(by cases h),fun n h=>(by cases h),fun n h=>(by cases h)⟩,hσ,hτ,fun n i h=>(by cases h),fun n i h=>(by cases h)⟩ hb
  rw[h]at e;cases e
  exact⟨ρ',F.md⟩
 ·rintro⟨ρ,M⟩
  have key:∀(A:List (Int×Nat)),(∀n i,zjU A n=some i->i<s.1.length)->∃σ:Int->T,(∀n,Gnd (σ n))/\∀n i,zjU A n=some i->σ n=ρ i:=by
   intro A hA
   refine⟨fun n=>match zjU A n with|some i=>ρ i|none=> .base 0,fun n=> ?_,fun n i h=> ?_⟩
   ·cases hn:zjU A n with
    |some i=>simp only[hn];exact M.gr i (hA n i hn)
    |none=>simp only[hn];exact⟨rfl,rfl⟩
   ·simp only[h]
  obtain⟨σ,s1,s2⟩:=key s.2.1 ok.ma
  obtain⟨τ,t1,t2⟩:=key s.2.2 ok.mb
  exact⟨σ,τ,s1,t1,(B.so s h ρ σ τ ⟨M,s1,t1,s2,t2⟩).2⟩
theorem zlD{t u:T}{s:GS}(h:gbelow t u ([],[],[])=some s):∃f,s.1.length<f/\((zju (zjq f) (s.1,List.replicate s.1.length 0) (List.range s.1.length)).1=true ↔ UndT t u):=by
 have B:=ziY u t zjn
 obtain⟨ok,_,_⟩:=B.ok s h
 obtain⟨C,K⟩:=ziU u t zjn zh7 zi7 h
 rw[zlE h]
 have so:∀f,(zju (zjq f) (s.1,List.replicate s.1.length 0) (List.range s.1.length)).1=true->∃ρ,Mdl s.1 ρ:=fun f hT=>zjd ok.gr ok.ar C K (zjp ok.gr hT)
 by_cases hM:∃ρ,Mdl s.1 ρ
 ·obtain⟨ρ,M⟩:=hM
  have hm:∀k,∃m,∀n,n<k->(ρ n).size<m:=by
   intro k
   induction k with
   |zero=>exact⟨0,fun n h=>by cases h⟩
   |succ k ih=>
    obtain⟨m,hm⟩:=ih
    refine⟨max m ((ρ k).size+1),fun n hn=> ?_⟩
    by_cases e:n=k
    ·subst e;omega
    ·have:=hm n (by omega);omega
  obtain⟨m,hm⟩:=hm s.1.length
  exact⟨s.1.length+1+m,by omega,fun _=>⟨ρ,M⟩,fun _=>zjo ok.gr ok.ar M fun n hn=>by have:=hm n hn;omega⟩
 ·exact⟨s.1.length+1,by omega,so _,fun h=>absurd h hM⟩
def unK(F:List AObj)(t u:Ty)(A B:List (Int×Nat))(v:Nat)(N:List Nd):List AObj:=F++ [bxT t,bxT u,.map (embM (mz A)),.map (embM (mz B)),.box [.ms (F.length+5) v N.length,.mp (F.length+2),.mp (F.length+3)],.arr v 3 (N.map embK)]
theorem zk4(F:List AObj)(t u:Ty)(A A' B B':List (Int×Nat))(v v':Nat)(N N':List Nd):hpK (unK F t u A B v N) (F.length+4) (F.length+5) F.length (F.length+2) (F.length+3) (F.length+1) v' N' A' B' (bxT t) (bxT u)=unK F t u A' B' v' N':=by
 unfold hpK sxd stF unK
 rw[zCX rfl,zCY rfl,zCY rfl,zCY rfl,zCY rfl,zCY rfl]
 rfl
theorem zk3(F:List AObj)(t u:Ty)(A B:List (Int×Nat))(v:Nat)(N:List Nd):SxdD (unK F t u A B v N) (F.length+4) (F.length+5) F.length (F.length+2) (F.length+3) (F.length+1):=by
 refine⟨?_,?_,?_,?_,?_,?_,⟨by omega,by omega,by omega,by omega,by omega⟩,⟨by omega,by omega,by omega,by omega⟩,⟨by omega,by omega,by omega⟩,by omega,by omega,by omega⟩<;>simp[unK]
def unT(F:List AObj)(t u:Ty)(A B:List (Int×Nat))(v:Nat)(N:List Nd)(st:List Nat):List AObj:=F++ [bxT t,bxT u,.map (embM (mz A)),.map (embM (mz B)),.box [.ms (F.length+5) v N.length,.mp (F.length+2),.mp (F.length+3)],.arr v 3 (N.map embK),stK st]
theorem zk8(F:List AObj)(t u:Ty)(A B:List (Int×Nat))(v:Nat)(N N':List Nd)(st st':List Nat):hpK (unT F t u A B v N st) (F.length+4) (F.length+5) F.length (F.length+2) (F.length+3) (F.length+6) v N' A B (bxT t) (stK st')=unT F t u A B v N' st':=by
 unfold hpK sxd stF unT
 rw[zCX rfl,zCY rfl,zCY rfl,zCY rfl,zCY rfl,zCY rfl]
 rfl
theorem zk7(F:List AObj)(t u:Ty)(A B:List (Int×Nat))(v:Nat)(N:List Nd)(st:List Nat):SxdD (unT F t u A B v N st) (F.length+4) (F.length+5) F.length (F.length+2) (F.length+3) (F.length+6):=by
 refine⟨?_,?_,?_,?_,?_,?_,⟨by omega,by omega,by omega,by omega,by omega⟩,⟨by omega,by omega,by omega,by omega⟩,⟨by omega,by omega,by omega⟩,by omega,by omega,by omega⟩<;>simp[unT]
theorem zjK{F:List AObj}{t u:Ty}{ok:Bool}{A B:List (Int×Nat)}{v:Nat}{N:List Nd}
 (h:zAd Try.prog 41 [.bptr (F.length+4) 0,emb t,emb u] (unK F t u [] [] 0 []) (.bool ok) (unK F t u A B v N)):
 zAA Try.prog 41 [.bptr (F.length+4) 0,emb t,emb u] (F++ [bxT t,bxT u,.map [],.map [],.box [.sl [] .full,.mp (F.length+2),.mp (F.length+3)]])
  fun x G=>x= .bool ok/\G=unK F t u A B v N:=by
 refine zb6 (p:=F.length+4) (off:=0) (size:=3) (cs:=[.sl [] .full,.mp (F.length+2),.mp (F.length+3)]) (zCU rfl) rfl ?_
 rw[zCY rfl,List.append_assoc]
 simp only[YAJ,List.length_cons,List.length_nil]
 exact h
structure UnS where
 i:Nat
 N:List Nd
 st:List Nat
structure UnI (f len:Nat) (R:Bool) (x:UnS):Prop where
 gr:Gr x.N
 ar:Ar x.N
 ln:x.N.length=len
 ls:x.st.length=len
 le:x.i<=len
 zz:zs x.st<f
 run:(zju (zjq f) (x.N,x.st) (List.range' x.i (len-x.i))).1=R
def CU2:Cfg:= {C with inpl:=fun d=>d==30}
theorem zhN:zAb Try.prog CU2:=C_ok
theorem zhO(t:Nat):CU2.ty t=C.ty t:=rfl
theorem zhM(t:Nat):CU2.inpl t=(t==30):=rfl
theorem zjL(t u:T)(ht:right t.ty=true)(hu:right u.ty=true)(hsz:t.size+u.size<=900000){r:Bool}(hr:r=true ↔ UndT t u):zA0 Try.prog 16 [emb t.ty,emb u.ty] (.bool r):=by
 refine zSZ rfl fun F=> ?_
 have q1:=zEj t.ty
 have q2:=zEj u.ty
 rw[if_pos ht]at q1
 rw[if_pos hu]at q2
 obtain⟨v,s,e1,k⟩:=zir (g:=F.length+4) (q:=F.length+5) (c:=F.length) (a:=F.length+2) (b:=F.length+3) (d:=F.length+1) (x3:=bxT t.ty) (x6:=bxT u.ty) u t (s:=([],[],[])) 0 zjn (by simp only[List.length_nil];omega)
 have qb:=k (unK F t.ty u.ty [] [] 0 []) (zk3 F t.ty u.ty [] [] 0 [])
 rw[zk4,zk4]at qb
 have qc:=zjK qb
 clear qb k
 cases hg:gbelow t u ([],[],[])with
 |none=>
  have hr0:r=false:=by
   cases r with
   |false=>rfl
   |true=>exact absurd (hr.1 rfl) (zlC hg)
  subst hr0
  rw[hg]at qc
  simp only[Option.isSome_none]at qc
  generalize t.ty=ty1 at*
  generalize u.ty=ty2 at*
  unfold zAd
  refine eD zhN Try.func16 Try.results16 fun ok=> ?_
  have h:=YAN
  repeat' (first
   |(with_reducible first|apply bA|apply bB|apply bC|apply bD|apply bE|apply bF)<;>intro h
   |((first|apply bG|apply bH);simp only[yP,yQ,W2,W2B,zhO,zhM,YAO,yO,yN,zTh,zTg];first|refine zIf (q1) (.inl rfl) ?_|refine zIf (q2) (.inl rfl) ?_|refine zIj (q1) (.inl rfl) ?_|refine zIj (q2) (.inl rfl) ?_)
   |skip)<;>simp only[h,↓zaL,↓zHC,WY,reduceIte,yA,yB,yC,yD,reduceCtorEq,yE,yF,W1,W1B,WS,zhO,zhM,YAO,yO,yN,zTh,zTg]
  refine fsCall qc (.inl rfl) fun x G hG hlen=> ?_
  obtain⟨rfl,rfl⟩:=hG
  refine⟨fun hbel=> ?_,?_⟩
  ·rw[List.take_left' rfl]at hbel
   rw[unK,List.take_left' rfl];exact hbel
  ·simp only[unK,bxT]
   have h:=YAN
   repeat' (first
    |(with_reducible first|apply bA|apply bB|apply bC|apply bD|apply bE|apply bF)<;>intro h
    |skip)<;>simp only[h,↓zaL,↓zHC,WY,reduceIte,yA,yB,yC,yD,reduceCtorEq,yE,yF,W1,W1B,WS,zhO,zhM,yO,yN,zTh,zTg]
   all_goals first|exact List.take_left' rfl|exact⟨rfl,List.take_left' rfl⟩|trace_state
 |some s1=>
  have e2:=(e1 _ hg).symm
  subst e2
  obtain⟨f,hf,hrun⟩:=zlD hg
  obtain⟨ok,_,hle⟩:=(ziY u t zjn).ok s hg
  simp only[List.length_nil]at hle
  rw[hg]at qc
  simp only[Option.isSome_some]at qc
  obtain⟨N,A,B⟩:=s
  simp only at qc hf hrun hle
  have hgr:Gr N:=ok.gr
  have har:Ar N:=ok.ar
  have hR:(zju (zjq f) (N,List.replicate N.length 0) (List.range N.length)).1=r:=by
   rw[Bool.eq_iff_iff,hrun,hr]
  have z0:zs (List.replicate N.length 0)<f:=by
   refine Nat.lt_of_le_of_lt ?_ hf
   unfold zs
   refine Nat.le_trans List.countP_le_length ?_
   simp
  clear hrun hr ok e1 hg
  have kop:=fun(N':List Nd) (st:List Nat) (i:Nat) h1 h2 h3 h4 h5=>zi8 (g:=F.length+4) (q:=F.length+5) (c:=F.length) (a:=F.length+2) (b:=F.length+3) (d:=F.length+6) (x3:=bxT t.ty) f (N',st) i v A B h1 h2 h3 h4 h5 (unT F t.ty u.ty A B v N' st) (zk7 F t.ty u.ty A B v N' st)
  simp only[zk8]at kop
  generalize t.ty=ty1 at*
  generalize u.ty=ty2 at*
  have w2:Int.toNat (N.length:Int)=N.length:=by simp
  have n16:((N.length:Int)*8<=140737488355328)=True:=by simp only[YAb,iff_true];omega
  have n18:((N.length:Int)*((8:Nat):Int)<=((140737488355328:Nat):Int))=True:=by simp only[YAb,iff_true];omega
  have n17:((0:Int)<=(N.length:Int))=True:=by simp
  have hmax:N.length<=maxLen:=by rw[zPC];omega
  unfold zAd
  refine eD zhN Try.func16 Try.results16 fun ok=> ?_
  have h:=YAN
  repeat' (first
   |(with_reducible first|apply bA|apply bB|apply bC|apply bD|apply bE|apply bF)<;>intro h
   |((first|apply bG|apply bH);simp only[yP,yQ,W2,W2B,zhO,zhM,YAO,yO,yN,zTh,zTg];first|refine zIf (q1) (.inl rfl) ?_|refine zIf (q2) (.inl rfl) ?_|refine zIj (q1) (.inl rfl) ?_|refine zIj (q2) (.inl rfl) ?_)
   |skip)<;>simp only[h,↓zaL,↓zHC,WY,reduceIte,yA,yB,yC,yD,reduceCtorEq,yE,yF,W1,W1B,WS,zhO,zhM,YAO,yO,yN,zTh,zTg]
  refine fsCall qc (.inl rfl) fun x G hG hlen=> ?_
  obtain⟨rfl,rfl⟩:=hG
  refine⟨fun hbel=> ?_,?_⟩
  ·rw[List.take_left' rfl]at hbel
   rw[unK,List.take_left' rfl];exact hbel
  ·simp only[unK,bxT]
   have h:=YAN
   repeat' (first
    |(with_reducible first|apply bA|apply bB|apply bC|apply bD|apply bE|apply bF)<;>intro h
    |skip)<;>simp only[h,↓zaL,↓zHC,WY,reduceIte,yA,yB,yC,yD,reduceCtorEq,yE,yF,W1,W1B,WS,zhO,zhM,yG,w2,n16,n17,n18,yO,yN,zTh,zTg]
   have hst0:AObj.arr 0 1 (List.replicate N.length (.int .i64 0))=stK (List.replicate N.length 0):=by
    simp only[stK,List.map_replicate];rfl
   refine zCN [36,5,6,35] ?_
   simp only[List.map_cons,List.map_nil,↓zaL,↓zHC,WY,reduceIte,yA,yB,yC,yD,reduceCtorEq,yE,yF,W1,W1B,WS]
   refine zJ1 1 (fun s:UnS=> [(36,.int .i64 s.i)]) (fun s=>F++ [bxT ty1,bxT ty2,.map (embM (mz A)),.map (embM (mz B)),.box [.ms (F.length+5) v N.length,.mp (F.length+2),.mp (F.length+3)],.arr v 3 (s.N.map embK),stK s.st]) (UnI f N.length r) (fun s=>N.length-s.i) zhN ⟨0,N,List.replicate N.length 0⟩ rfl ?_ ⟨hgr,har,rfl,by simp,YAX _,z0,by simp only[Nat.sub_zero];rw[<-List.range_eq_range'];exact hR⟩ (by decide) ?_
   ·simp only[bxT,<-hst0]
   rintro⟨i,N1,st⟩ ⟨g1,a1,l1,ls1,hi,hz,hrun⟩
   simp only at g1 a1 l1 ls1 hi hz hrun
   simp only[List.drop_succ_cons,List.drop_zero,List.cons_append,List.nil_append]
   by_cases hlt:i<N.length
   ·have k1:=kop N1 st i g1 a1 (by omega) (by omega) hz
    have o1:=zjs f (N1,st) i g1 (by simp only;omega)
    rw[show N.length-i=(N.length-(i+1))+1 by omega,List.range'_succ]at hrun
    rw[zju]at hrun
    rcases he:zjq f (N1,st) i with ⟨b2,N2,st2⟩
    simp only[he]at k1 o1 hrun
    have l2:N2.length=N.length:=by rw[o1.sm.len];exact l1
    have ls2:st2.length=N.length:=by rw[o1.ln];exact ls1
    simp only[unT,l1,l2]at k1
    cases b2 with
    |false=>
     simp only[YAB,if_false]at hrun
     subst hrun
     have h:=YAN
     repeat' (first
      |(with_reducible first|apply bA|apply bB|apply bC|apply bD|apply bE|apply bF)<;>intro h
      |((first|apply bG|apply bH);simp only[yP,yQ,W2,W2B,zhO,zhM,hlt,YAO,yO,yN,zTh,zTg];refine zIA (k1) (.inl rfl) (fun hb=>by rw[List.take_left' rfl]at hb⊢;exact hb) ?_)
      |skip)<;>simp only[h,↓zaL,↓zHC,WY,reduceIte,yA,yB,yC,yD,reduceCtorEq,yE,yF,W1,W1B,WS,zhO,zhM,hlt,YAO,yO,yN,zTh,zTg]
     all_goals first|exact List.take_left' rfl|exact⟨rfl,List.take_left' rfl⟩|trace_state
    |true=>
     simp only[if_true]at hrun
     have h:=YAN
     repeat' (first
      |(with_reducible first|apply bA|apply bB|apply bC|apply bD|apply bE|apply bF)<;>intro h
      |((first|apply bG|apply bH);simp only[yP,yQ,W2,W2B,zhO,zhM,hlt,YAO,yO,yN,zTh,zTg];refine zIA (k1) (.inl rfl) (fun hb=>by rw[List.take_left' rfl]at hb⊢;exact hb) ?_)
      |skip)<;>simp only[h,↓zaL,↓zHC,WY,reduceIte,yA,yB,yC,yD,reduceCtorEq,yE,yF,W1,W1B,WS,zhO,zhM,hlt,YAO,yO,yN,zTh,zTg]
     refine⟨⟨i+1,N2,st2⟩,⟨o1.sm.gr g1,fun n=>by rw[o1.sm.ks,o1.sm.kd];exact a1 n,l2,ls2,hlt,Nat.lt_of_le_of_lt o1.zz hz,hrun⟩,by simp only;omega,zap ?_ ?_⟩
     ·rfl
     ·simp only[WK,↓zaL,↓zHC,yA,reduceIte,yN,yO,yR,yP,yQ,yB,yC,zbX hlt hmax]
   ·have hlt':(i<N.length)=False:=by simp[hlt]
    rw[show N.length-i=0 by omega]at hrun
    have hrt:r=true:=by rw[<-hrun];rfl
    subst hrt
    have h:=YAN
    repeat' (first
     |(with_reducible first|apply bA|apply bB|apply bC|apply bD|apply bE|apply bF)<;>intro h
     |skip)<;>simp only[h,↓zaL,↓zHC,WY,reduceIte,yA,yB,yC,yD,reduceCtorEq,yE,yF,W1,W1B,WS,zhO,zhM,hlt',yO,yN,zTh,zTg]
    all_goals first|exact List.take_left' rfl|exact⟨rfl,List.take_left' rfl⟩|trace_state
end Go.Proofs.Ytmpegnogdgbleaa
