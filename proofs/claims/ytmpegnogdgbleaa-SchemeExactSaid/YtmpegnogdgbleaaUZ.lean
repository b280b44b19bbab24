/- Walks: a graph of nodes with kids: below of any types, open. No condition. -/
import Derived.Test.YtmpegnogdgbleaaUY
import Derived.Test.YtmpegnogdgbleaaPUb
set_option linter.unusedSimpArgs false
set_option linter.unusedVariables false
set_option maxHeartbeats 4000000
set_option maxRecDepth 100000
namespace Go.Proofs.Ytmpegnogdgbleaa
open Go Go.Ab
open Nat renaming reduceEqDiff -> yA, reduceAdd -> yB, reduceLT -> yC, reduceLeDiff -> yD, reduceMul -> yE, reducePow -> yF
open Int renaming reduceAdd -> yH, reduceLT -> yI, reduceToNat -> yJ, reduceBEq -> yK, reduceBNe -> yL, reduceLE -> yM
open AV renaming belL -> yO, bel -> yN, normL -> yQ, norm -> yP
open AObj renaming bel -> yR
attribute [local irreducible] zA0 zAA zAa zAi zAj GoIf GoGb zAk GoO GoD GoX GoDX GoG GoDG GoGv zAl Go zAB
section
variable {F : List AObj} {g q c a b d : Nat} {x3 x6 : AObj}
def BelC(g q c a b d:Nat)(x3 x6:AObj)(t u:T)(v:Nat)(s:GS)(o:Option GS):Prop:=
 ∃v' s',(∀s1,o=some s1->s1=s')/\∀F:List AObj,SxdD F g q c a b d->zAd Try.prog 41 [.bptr g 0,emb t.ty,emb u.ty] (hpK F g q c a b d v s.1 s.2.1 s.2.2 x3 x6) (.bool o.isSome) (hpK F g q c a b d v' s'.1 s'.2.1 s'.2.2 x3 x6)
theorem zhm(t u:T){s:GS}(ok:OkG s)(v:Nat)(h5:(u.ty.kind==5)=false)(h6:((t.ty.kind==6)||(u.ty.kind==6))=true)(hsz:s.1.length+t.size+u.size<=1000000):BelC g q c a b d x3 x6 t u v s (gjoin t u s):=by
 obtain⟨N,A,B⟩:=s
 simp only at hsz
 cases hs:t.stat with
 |false=>
  have e:gjoin t u (N,A,B)=none:=by unfold gjoin;simp only;rw[if_neg (by simp[hs])]
  rw[e]
  exact⟨v,(N,A,B),fun s1 h=>(by cases h),fun F hD=>ziw hD t.ty u.ty h5 h6 (by rw[zdC,hs]) v N A B⟩
 |true=>
  have R:PutR t N A (putF t N A):=zj9 t ok.gr ok.ar ok.ma
  have hB:∀n i,zjU B n=some i->i<(putF t N A).1.length:=fun n i h=>YAW (ok.mb n i h) R.le
  have Q:PutR u (putF t N A).1 B (putF u (putF t N A).1 B):=zj9 u R.gr R.ar (M:=B) hB
  have i1:(putF t N A).2.2<(putF u (putF t N A).1 B).1.length:=YAW R.ix Q.le
  have l1:=zj8 t N A
  have l2:=zj8 u (putF t N A).1 B
  obtain⟨v1,p1⟩:=zi9 (g:=g) (q:=q) (c:=c) (a:=a) (b:=b) (d:=d) (x3:=x3) (x6:=x6) t v N A B (by omega)
  obtain⟨v2,p2⟩:=zjA (g:=g) (q:=q) (c:=c) (a:=a) (b:=b) (d:=d) (x3:=x3) (x6:=x6) u v1 (putF t N A).1 (putF t N A).2.1 B (by omega)
  have p3:=fun F hD=>zil (F:=F) (g:=g) (q:=q) (c:=c) (a:=a) (b:=b) (d:=d) (x3:=x3) (x6:=x6) hD v2 (putF t N A).2.1 (putF u (putF t N A).1 B).2.1 Q.gr Q.ar i1 Q.ix (by omega)
  refine⟨v2,((zkQ (3*rts (putF u (putF t N A).1 B).1+1) (putF u (putF t N A).1 B).1 [((putF t N A).2.2,(putF u (putF t N A).1 B).2.2)]).2,(putF t N A).2.1,(putF u (putF t N A).1 B).2.1),?_,fun F hD=> ?_⟩
  ·intro s1 h
   unfold gjoin at h
   simp only at h
   split at h
   ·cases h;rfl
   ·cases h
  ·have e:(gjoin t u (N,A,B)).isSome=(zkQ (3*rts (putF u (putF t N A).1 B).1+1) (putF u (putF t N A).1 B).1 [((putF t N A).2.2,(putF u (putF t N A).1 B).2.2)]).1:=by
    unfold gjoin
    simp only[hs,true_and]
    split
    ·rename_i h;rw[h];rfl
    ·rename_i h;rw[Bool.not_eq_true]at h;rw[h];rfl
   rw[e]
   exact ziu hD t.ty u.ty h5 h6 (by rw[zdC,hs]) p1 p2 p3
theorem zho{t u:T}{v:Nat}{s:GS}(h:∀F:List AObj,SxdD F g q c a b d->zAd Try.prog 41 [.bptr g 0,emb t.ty,emb u.ty] (hpK F g q c a b d v s.1 s.2.1 s.2.2 x3 x6) (.bool false) (hpK F g q c a b d v s.1 s.2.1 s.2.2 x3 x6)):BelC g q c a b d x3 x6 t u v s none:=
 ⟨v,s,fun s1 h=>(by cases h),h⟩
theorem zhq{t u:T}{v:Nat}{s:GS}(h:∀F:List AObj,SxdD F g q c a b d->zAd Try.prog 41 [.bptr g 0,emb t.ty,emb u.ty] (hpK F g q c a b d v s.1 s.2.1 s.2.2 x3 x6) (.bool true) (hpK F g q c a b d v s.1 s.2.1 s.2.2 x3 x6)):BelC g q c a b d x3 x6 t u v s (some s):=
 ⟨v,s,fun s1 h=>(by cases h;rfl),h⟩
theorem zhn{t u:T}{v:Nat}{s:GS}(h5:(u.ty.kind==5)=false)(h6:(t.ty.kind==6)=false)(h6':(u.ty.kind==6)=false)(hk:(t.ty.kind !=u.ty.kind)=true):BelC g q c a b d x3 x6 t u v s none:=
 zho fun F hD=>ziv hD t.ty u.ty h5 h6 h6' hk v s.1 s.2.1 s.2.2
theorem zhr{k:Int}{cc:T->T->T}(hc:∀x y,(cc x y).ty= .mk k 0 [x.ty,y.ty])(h5:(k==5)=false)(h6:(k==6)=false){x y x' y':T}{v:Nat}{s:GS}{o:Option GS}{f:GS->Option GS}
 (i1:BelC g q c a b d x3 x6 x x' v s o) (i2:∀v1 s1,o=some s1->BelC g q c a b d x3 x6 y y' v1 s1 (f s1)):BelC g q c a b d x3 x6 (cc x y) (cc x' y') v s (o.bind f):=by
 obtain⟨v1,s1,e1,k1⟩:=i1
 cases o with
 |none=>
  refine⟨v1,s1,fun s2 h=>(by cases h),fun F hD=> ?_⟩
  rw[hc,hc]
  exact ziz hD k h5 h6 k1
 |some s2=>
  obtain rfl:=e1 _ rfl
  obtain⟨v3,s3,e3,k3⟩:=i2 v1 _ rfl
  refine⟨v3,s3,e3,fun F hD=> ?_⟩
  rw[hc,hc]
  exact ziy hD k h5 h6 k1 k3
theorem zhp{x x':T}{v:Nat}{s:GS}{o:Option GS}(i1:BelC g q c a b d x3 x6 x x' v s o):BelC g q c a b d x3 x6 (.list x) (.list x') v s o:=by
 obtain⟨v1,s1,e1,k1⟩:=i1
 exact⟨v1,s1,e1,fun F hD=>zix hD 8 rfl rfl k1⟩
theorem kbase{k:Fin 4}:(((k.val:Int)+1)==5)=false/\(((k.val:Int)+1)==6)=false/\∀m:Int,5<=m->(((k.val:Int)+1) !=m)=true/\(m !=((k.val:Int)+1))=true:=by
 have:=k.isLt
 refine⟨by rw[YAZ];omega,by rw[YAZ];omega,fun m hm=>⟨by rw[bne_iff_ne];omega,by rw[bne_iff_ne];omega⟩⟩
theorem zir:∀(u t:T) {s:GS} (v:Nat),OkG s->s.1.length+t.size+u.size<=1000000->BelC g q c a b d x3 x6 t u v s (gbelow t u s):=by
 intro u
 induction u with
 |dyn=>
  intro t s v ok hsz
  have:gbelow t .dyn s=some s:=by cases t<;>rfl
  rw[this]
  exact zhq fun F hD=>zit hD t.ty (T.ty .dyn) rfl v s.1 s.2.1 s.2.2
 |var n=>
  intro t s v ok hsz
  have:=zhm (g:=g) (q:=q) (c:=c) (a:=a) (b:=b) (d:=d) (x3:=x3) (x6:=x6) t (.var n) ok v rfl (by rw[show((T.var n).ty.kind==6)=true from rfl,Bool.or_true]) hsz
  cases t<;>exact this
 |base k=>
  intro t s v ok hsz
  obtain⟨e5,e6,en⟩:=kbase (k:=k)
  cases t with
  |var n=>exact zhm (.var n) (.base k) ok v e5 rfl hsz
  |base k'=>
   rw[gbelow]
   split
   ·rename_i e;subst e
    exact zhq fun F hD=>zis hD _ e5 e6 v s.1 s.2.1 s.2.2
   ·rename_i e
    exact zhn e5 (kbase (k:=k')).2.1 e6 (by
     show(((k'.val:Int)+1) !=((k.val:Int)+1))=true
     rw[bne_iff_ne]
     intro h
     exact e (Fin.ext (by omega)))
  |dyn=>exact zhn e5 rfl e6 (en 5 (by decide)).2
  |pair x y=>exact zhn e5 rfl e6 (en 7 (by decide)).2
  |list x=>exact zhn e5 rfl e6 (en 8 (by decide)).2
  |fn x y=>exact zhn e5 rfl e6 (en 9 (by decide)).2
 |pair x' y' i1 i2=>
  intro t s v ok hsz
  cases t with
  |var n=>exact zhm (.var n) (.pair x' y') ok v rfl rfl hsz
  |base k=>exact zhn rfl (kbase (k:=k)).2.1 rfl ((kbase (k:=k)).2.2 7 (by decide)).1
  |dyn=>exact zhn rfl rfl rfl rfl
  |list x=>exact zhn rfl rfl rfl rfl
  |fn x y=>exact zhn rfl rfl rfl rfl
  |pair x y=>
   simp only[T.size]at hsz
   refine zhr (cc:= .pair) (fun _ _=>rfl) rfl rfl (i1 x v ok (by omega)) fun v1 s1 e=> ?_
   have B:=(ziY x' x ok).ok s1 e
   exact i2 y v1 B.1 (by omega)
 |fn x' y' i1 i2=>
  intro t s v ok hsz
  cases t with
  |var n=>exact zhm (.var n) (.fn x' y') ok v rfl rfl hsz
  |base k=>exact zhn rfl (kbase (k:=k)).2.1 rfl ((kbase (k:=k)).2.2 9 (by decide)).1
  |dyn=>exact zhn rfl rfl rfl rfl
  |list x=>exact zhn rfl rfl rfl rfl
  |pair x y=>exact zhn rfl rfl rfl rfl
  |fn x y=>
   simp only[T.size]at hsz
   refine zhr (cc:= .fn) (fun _ _=>rfl) rfl rfl (i1 x v ok (by omega)) fun v1 s1 e=> ?_
   have B:=(ziY x' x ok).ok s1 e
   exact i2 y v1 B.1 (by omega)
 |list x' i1=>
  intro t s v ok hsz
  cases t with
  |var n=>exact zhm (.var n) (.list x') ok v rfl rfl hsz
  |base k=>exact zhn rfl (kbase (k:=k)).2.1 rfl ((kbase (k:=k)).2.2 8 (by decide)).1
  |dyn=>exact zhn rfl rfl rfl rfl
  |pair x y=>exact zhn rfl rfl rfl rfl
  |fn x y=>exact zhn rfl rfl rfl rfl
  |list x=>
   simp only[T.size]at hsz
   exact zhp (i1 x v ok (by omega))
end
theorem zjv{g:OS->Nat->Bool×OS}{s:OS}{i:Nat}:zju g s [i]=g s i:=by
 simp only[zju]
 split
 ·rename_i h;rw[<-h]
 ·rfl
theorem zjw{g:OS->Nat->Bool×OS}{s:OS}{i j:Nat}:zju g s [i,j]=if(g s i).1=true then g (g s i).2 j else g s i:=by
 rw[zju]
 split
 ·rw[zjv]
 ·rfl
def zs(l:List Nat):Nat:=l.countP fun x=>x==0
theorem zla:∀(l:List Nat) (i v:Nat),v≠0->zs (l.set i v)<=zs l/\(i<l.length->l.getD i 0=0->zs (l.set i v)+1<=zs l)
 | [],i,v,_=>⟨YAV _,fun h=>by cases h⟩
 |x::l,0,v,h=>by
  have hv:(v==0)=false:=by rw[YAZ];exact h
  refine⟨?_,fun _ h0=> ?_⟩
  ·simp only[zs,List.set_cons_zero,List.countP_cons,hv,YAB,if_false];omega
  ·simp only[List.getD_cons_zero]at h0
   subst h0
   simp only[zs,List.set_cons_zero,List.countP_cons,hv,YAB,if_false,beq_self_eq_true,if_true];omega
 |x::l,i+1,v,h=>by
  obtain⟨h1,h2⟩:=zla l i v h
  simp only[zs]at h1 h2
  refine⟨?_,fun hi h0=> ?_⟩
  ·simp only[zs,List.set_cons_succ,List.countP_cons];omega
  ·simp only[List.getD_cons_succ]at h0
   simp only[List.length_cons]at hi
   have:=h2 (by omega) h0
   simp only[zs,List.set_cons_succ,List.countP_cons];omega
structure OpG (s e:OS):Prop where
 sm:Sm s.1 e.1
 ln:e.2.length=s.2.length
 zz:zs e.2<=zs s.2
theorem OpG.refl(s:OS):OpG s s:=⟨Sm.refl _,rfl,YAV _⟩
theorem OpG.trans{s e q:OS}(h:OpG s e)(k:OpG e q):OpG s q:=⟨h.sm.trans k.sm,k.ln.trans h.ln,Nat.le_trans k.zz h.zz⟩
theorem zjy{g:OS->Nat->Bool×OS}(H:∀(s:OS) (n:Nat),Gr s.1->n<s.1.length->OpG s (g s n).2):
 ∀(ks:List Nat) (s:OS),Gr s.1->(∀n∈ks,n<s.1.length)->OpG s (zju g s ks).2:=by
 intro ks
 induction ks with
 |nil=>intro s _ _;exact OpG.refl _
 |cons k ks ih=>
  intro s hg hk
  have h1:=H s k hg (hk k (by simp))
  rw[zju]
  split
  ·exact h1.trans (ih _ (h1.sm.gr hg) fun n hn=>by rw[h1.sm.len];exact hk n (YAT _ hn))
  ·exact h1
theorem zjs:∀(f:Nat) (s:OS) (n:Nat),Gr s.1->n<s.1.length->OpG s (zjq f s n).2:=by
 intro f
 induction f with
 |zero=>intro s n _ _;exact OpG.refl _
 |succ f ih=>
  intro s n hg hn
  obtain⟨e,sm⟩:=zkK hg hn
  have e:RtO s.1 n (zkJ s.1 n).2:=e
  rw[zjq]
  generalize zkJ s.1 n=r at e sm⊢
  have hr:r.2<s.1.length:=e.lt hg hn
  split
  ·exact⟨sm,rfl,YAV _⟩
  ·have L:=zjy (g:=zjq f) (fun s n a b=>ih s n a b) (kds r.1 r.2) (r.1,s.2.set r.2 1) (sm.gr hg) (fun k hk=>(sm.gr hg).kd r.2 (by rw[sm.len];exact hr) k hk)
   have L0:OpG s (r.1,s.2.set r.2 1):=⟨sm,by simp,(zla s.2 r.2 1 (by decide)).1⟩
   simp only
   split
   ·have L1:=L0.trans L
    exact⟨L1.sm,by simp only[List.length_set];exact L1.ln,Nat.le_trans (zla _ _ 2 (by decide)).1 L1.zz⟩
   ·exact L0.trans L
section
variable {F : List AObj} {g q c a b d : Nat} {x3 : AObj}
def stK(st:List Nat):AObj:= .arr 0 1 (st.map natA)
theorem zjh{st:List Nat}{r:Nat}(h:r<st.length):(st.map natA).getD r .any= .int .i64 (st.getD r 0:Nat):=by
 simp[natA,h]
theorem zji(st:List Nat)(r v:Nat):(st.map natA).set r (.int .i64 v)=(st.set r v).map natA:=by
 rw[List.map_set];rfl
theorem krO{bb v v' v1 v2 n n' z:Nat}{es:List AV}{M1 M2:List (AV×AV)}{N':List Nd}{A' B':List (Int×Int)}{x6:AObj}{st:List Nat}(h:SxdD F g q c a b d)
 (hb:∀x∈(sxd F g q c a b d (.box [.ms q v n,.mp a,.mp b]) (.arr v1 z es) x3 (.map M1) (.map M2) x6).take bb,x.bel bb=true):∀x∈(sxd F g q c a b d (.box [.ms q v' n',.mp a,.mp b]) (.arr v2 3 (N'.map embK)) x3 (.map (embM A')) (.map (embM B')) (.arr 0 1 (st.map natA))).take bb,x.bel bb=true:=
 zXz h (fun h=>by simpa only[yR,yO,yN]using h) (by simp only[yR,zjX]) (zGW _ _) (zGW _ _) (fun _=>by simp only[yR,zjg]) hb
theorem zi8:∀(f:Nat) (s:OS) (n v:Nat) (A B:List (Int×Nat)),Gr s.1->Ar s.1->n<s.1.length->s.2.length=s.1.length->zs s.2<f->
 ∀F:List AObj,SxdD F g q c a b d->zAd Try.prog 42 [.bptr g 0,.int .i64 n,.ms d 0 s.1.length] (hpK F g q c a b d v s.1 A B x3 (stK s.2)) (.bool (zjq f s n).1) (hpK F g q c a b d v (zjq f s n).2.1 A B x3 (stK (zjq f s n).2.2)):=by
 intro f
 induction f with
 |zero=>intro s n v A B _ _ _ _ h;omega
 |succ f ih=>
  intro s n v A B hg ha hn hls hz F hD
  have hP:=sxdP hD
  obtain⟨e,sm⟩:=zkK hg hn
  have e:RtO s.1 n (zkJ s.1 n).2:=e
  have q1:=fun F hD=>zjJ (F:=F) (g:=g) (q:=q) (c:=c) (a:=a) (b:=b) (d:=d) (x3:=x3) (x6:=stK s.2) hD v A B hg n hn
  rw[zjq]
  generalize zkJ s.1 n=r at e sm q1⊢
  obtain⟨N1,r⟩:=r
  simp only at e sm q1⊢
  have hr0:r<s.1.length:=e.lt hg hn
  have hl:N1.length=s.1.length:=sm.len
  have hg1:=sm.gr hg
  have ha1:Ar N1:=fun n=>by rw[sm.ks,sm.kd];exact ha n
  have hr:r<N1.length:=by rw[hl];exact hr0
  have hrs:r<s.2.length:=by rw[hls];exact hr0
  have hrs1:r<(s.2.set r 1).length:=by rw[List.length_set];exact hrs
  have hq:(r<s.1.length)=True:=by simp[hr0]
  obtain⟨N,st⟩:=s
  simp only at*
  have hN:r<N.length:=hr0
  have ns1:=zji st r 1
  have ns2:=zji (st.set r 1) r 2
  simp only[Int.natCast_one,Int.cast_ofNat_Int]at ns1 ns2
  have hgk:=zjY hr
  by_cases h0:0<st.getD r 0
  ·rw[if_pos h0]
   have c0:(((st.getD r 0:Nat):Int)>0)=True:=by simp only[YAb,iff_true];omega
   have c1:(((st.getD r 0:Nat):Int)==2)=decide (st.getD r 0=2):=by
    rw[Bool.eq_iff_iff,beq_iff_eq,YAa];omega
   unfold zAd
   refine eD C_ok Try.func42 Try.results42 fun ok=> ?_
   have h:=YAN
   repeat' (first
    |(with_reducible first|apply bA|apply bB|apply bC|apply bD|apply bE|apply bF)<;>intro h
    |((first|apply bG|apply bH);simp only[yP,yQ,W2,W2B,W3,yH,yI,yJ,yK,yL,yM,hpK,stK,hP,hl,hr,hr0,hrs,hrs1,hls,hN,hgk,YAK,List.length_set,List.map_cons,List.map_nil,zjh hrs,ns1,yO,yN,implies_true,zTh,zTg,c0,c1];refine zIA (q1 _ (by first|exact hD|exact hD.app _)) (.inl rfl) (fun hb=>krB (by first|exact hD|exact hD.app _) hb) ?_)
    |refine zJ9 ?_ C_ok Try.f42.ntmps rfl (by decide)
    |skip)<;>simp only[h,↓zaL,↓zHC,WY,reduceIte,yA,yB,yC,yD,reduceCtorEq,yE,yF,W1,W1B,WS,W3,yH,yI,yJ,yK,yL,yM,hpK,stK,hP,hl,hr,hr0,hrs,hrs1,hls,hN,hgk,YAK,List.length_set,List.map_cons,List.map_nil,zjh hrs,ns1,yO,yN,implies_true,zTh,zTg,c0,c1,zFY]
   all_goals first|rfl|trace_state
  rw[if_neg h0]
  have c0:(((st.getD r 0:Nat):Int)>0)=False:=by simp only[YAb,iff_false];omega
  have hz1:zs (st.set r 1)<f:=by have:=(zla st r 1 (by decide)).2 hrs (by omega);omega
  have hkd:=hg1.kd r hr
  have hs1:(st.set r 1).length=N1.length:=by rw[List.length_set];omega
  rcases zhk ha1 (x:=r) (y:=r) rfl with ⟨k1,_⟩|⟨i,_,k1,_⟩|⟨i,j,_,_,k1,_⟩
  ·rw[k1]at hgk⊢
   simp only[zju,if_true]
   simp only[List.map_nil]at hgk
   unfold zAd
   refine eD C_ok Try.func42 Try.results42 fun ok=> ?_
   have h:=YAN
   repeat' (first
    |(with_reducible first|apply bA|apply bB|apply bC|apply bD|apply bE|apply bF)<;>intro h
    |((first|apply bG|apply bH);simp only[yP,yQ,W2,W2B,W3,yH,yI,yJ,yK,yL,yM,hpK,stK,hP,hl,hr,hr0,hrs,hrs1,hls,hN,hgk,YAK,List.length_set,List.map_cons,List.map_nil,zjh hrs,ns1,yO,yN,implies_true,zTh,zTg,c0,ns2,zjh hrs1,zGy];refine zIA (q1 _ (by first|exact hD|exact hD.app _)) (.inl rfl) (fun hb=>krB (by first|exact hD|exact hD.app _) hb) ?_)
    |refine zJ9 ?_ C_ok Try.f42.ntmps rfl (by decide)
    |skip)<;>simp only[h,↓zaL,↓zHC,WY,reduceIte,yA,yB,yC,yD,reduceCtorEq,yE,yF,W1,W1B,WS,W3,yH,yI,yJ,yK,yL,yM,hpK,stK,hP,hl,hr,hr0,hrs,hrs1,hls,hN,hgk,YAK,List.length_set,List.map_cons,List.map_nil,zjh hrs,ns1,yO,yN,implies_true,zTh,zTg,c0,ns2,zjh hrs1,zGy,zFY]
   all_goals first|rfl|trace_state
  ·rw[k1]at hgk hkd⊢
   simp only[List.map_cons,List.map_nil,natA]at hgk
   have q2:=ih (N1,st.set r 1) i v A B hg1 ha1 (hkd i (by simp)) hs1 hz1
   have o2:=zjs f (N1,st.set r 1) i hg1 (hkd i (by simp))
   rw[zjv]
   rcases he2:zjq f (N1,st.set r 1) i with ⟨b2,N2,st2⟩
   simp only[he2]at q2 o2⊢
   have hl2:N2.length=N.length:=by rw[o2.sm.len,hl]
   have hst2:st2.length=N.length:=by rw[o2.ln,List.length_set,hls]
   have hrs2:r<st2.length:=by omega
   have ns3:=zji st2 r 2
   simp only[Int.cast_ofNat_Int]at ns3
   simp only[hpK,stK,hl,hl2]at q2
   cases b2
   ·simp only[YAB,if_false]
    unfold zAd
    refine eD C_ok Try.func42 Try.results42 fun ok=> ?_
    have h:=YAN
    repeat' (first
     |(with_reducible first|apply bA|apply bB|apply bC|apply bD|apply bE|apply bF)<;>intro h
     |((first|apply bG|apply bH);simp only[yP,yQ,W2,W2B,W3,yH,yI,yJ,yK,yL,yM,hpK,stK,hP,hl,hr,hr0,hrs,hrs1,hls,hN,hgk,YAK,List.length_set,List.map_cons,List.map_nil,zjh hrs,ns1,yO,yN,implies_true,zTh,zTg,c0,hl2];first|refine zIA (q1 _ (by first|exact hD|exact hD.app _)) (.inl rfl) (fun hb=>krB (by first|exact hD|exact hD.app _) hb) ?_|refine zIA (q2 _ (by first|exact hD|exact hD.app _)) (.inl rfl) (fun hb=>krO (by first|exact hD|exact hD.app _) hb) ?_)
     |refine zJ9 ?_ C_ok Try.f42.ntmps rfl (by decide)
     |skip)<;>simp only[h,↓zaL,↓zHC,WY,reduceIte,yA,yB,yC,yD,reduceCtorEq,yE,yF,W1,W1B,WS,W3,yH,yI,yJ,yK,yL,yM,hpK,stK,hP,hl,hr,hr0,hrs,hrs1,hls,hN,hgk,YAK,List.length_set,List.map_cons,List.map_nil,zjh hrs,ns1,yO,yN,implies_true,zTh,zTg,c0,hl2,zFY]
    all_goals first|rfl|trace_state
   ·simp only[if_true]
    unfold zAd
    refine eD C_ok Try.func42 Try.results42 fun ok=> ?_
    have h:=YAN
    repeat' (first
     |(with_reducible first|apply bA|apply bB|apply bC|apply bD|apply bE|apply bF)<;>intro h
     |((first|apply bG|apply bH);simp only[yP,yQ,W2,W2B,W3,yH,yI,yJ,yK,yL,yM,hpK,stK,hP,hl,hr,hr0,hrs,hrs1,hls,hN,hgk,YAK,List.length_set,List.map_cons,List.map_nil,zjh hrs,ns1,yO,yN,implies_true,zTh,zTg,c0,ns3,zjh hrs2,hrs2,hst2,hl2];first|refine zIA (q1 _ (by first|exact hD|exact hD.app _)) (.inl rfl) (fun hb=>krB (by first|exact hD|exact hD.app _) hb) ?_|refine zIA (q2 _ (by first|exact hD|exact hD.app _)) (.inl rfl) (fun hb=>krO (by first|exact hD|exact hD.app _) hb) ?_)
     |refine zJ9 ?_ C_ok Try.f42.ntmps rfl (by decide)
     |skip)<;>simp only[h,↓zaL,↓zHC,WY,reduceIte,yA,yB,yC,yD,reduceCtorEq,yE,yF,W1,W1B,WS,W3,yH,yI,yJ,yK,yL,yM,hpK,stK,hP,hl,hr,hr0,hrs,hrs1,hls,hN,hgk,YAK,List.length_set,List.map_cons,List.map_nil,zjh hrs,ns1,yO,yN,implies_true,zTh,zTg,c0,ns3,zjh hrs2,hrs2,hst2,hl2,zFY]
    all_goals first|rfl|trace_state
  ·rw[k1]at hgk hkd⊢
   simp only[List.map_cons,List.map_nil,natA]at hgk
   have q2:=ih (N1,st.set r 1) i v A B hg1 ha1 (hkd i (by simp)) hs1 hz1
   have o2:=zjs f (N1,st.set r 1) i hg1 (hkd i (by simp))
   rw[zjw]
   rcases he2:zjq f (N1,st.set r 1) i with ⟨b2,N2,st2⟩
   simp only[he2]at q2 o2⊢
   have hl2:N2.length=N.length:=by rw[o2.sm.len,hl]
   have hst2:st2.length=N.length:=by rw[o2.ln,List.length_set,hls]
   have hj:=hkd j (by simp)
   have q3:=ih (N2,st2) j v A B (o2.sm.gr hg1) (fun n=>by rw[o2.sm.ks,o2.sm.kd];exact ha1 n) (by rw[hl2,<-hl];exact hj) (by rw[hst2,hl2]) (Nat.lt_of_le_of_lt o2.zz hz1)
   have o3:=zjs f (N2,st2) j (o2.sm.gr hg1) (by rw[hl2,<-hl];exact hj)
   simp only[hpK,stK,hl,hl2]at q2
   cases b2
   ·simp only[YAB,if_false]
    clear q3 o3
    unfold zAd
    refine eD C_ok Try.func42 Try.results42 fun ok=> ?_
    have h:=YAN
    repeat' (first
     |(with_reducible first|apply bA|apply bB|apply bC|apply bD|apply bE|apply bF)<;>intro h
     |((first|apply bG|apply bH);simp only[yP,yQ,W2,W2B,W3,yH,yI,yJ,yK,yL,yM,hpK,stK,hP,hl,hr,hr0,hrs,hrs1,hls,hN,hgk,YAK,List.length_set,List.map_cons,List.map_nil,zjh hrs,ns1,yO,yN,implies_true,zTh,zTg,c0,hl2];first|refine zIA (q1 _ (by first|exact hD|exact hD.app _)) (.inl rfl) (fun hb=>krB (by first|exact hD|exact hD.app _) hb) ?_|refine zIA (q2 _ (by first|exact hD|exact hD.app _)) (.inl rfl) (fun hb=>krO (by first|exact hD|exact hD.app _) hb) ?_)
     |refine zJ9 ?_ C_ok Try.f42.ntmps rfl (by decide)
     |skip)<;>simp only[h,↓zaL,↓zHC,WY,reduceIte,yA,yB,yC,yD,reduceCtorEq,yE,yF,W1,W1B,WS,W3,yH,yI,yJ,yK,yL,yM,hpK,stK,hP,hl,hr,hr0,hrs,hrs1,hls,hN,hgk,YAK,List.length_set,List.map_cons,List.map_nil,zjh hrs,ns1,yO,yN,implies_true,zTh,zTg,c0,hl2,zFY]
    all_goals first|rfl|trace_state
   ·simp only[if_true]
    rcases he3:zjq f (N2,st2) j with ⟨b3,N3,st3⟩
    simp only[he3]at q3 o3⊢
    have hl3:N3.length=N.length:=by rw[o3.sm.len,hl2]
    have hst3:st3.length=N.length:=by rw[o3.ln,hst2]
    have hrs3:r<st3.length:=by omega
    have ns3:=zji st3 r 2
    simp only[Int.cast_ofNat_Int]at ns3
    simp only[hpK,stK,hl2,hl3]at q3
    cases b3
    ·simp only[YAB,if_false]
     unfold zAd
     refine eD C_ok Try.func42 Try.results42 fun ok=> ?_
     have h:=YAN
     repeat' (first
      |(with_reducible first|apply bA|apply bB|apply bC|apply bD|apply bE|apply bF)<;>intro h
      |((first|apply bG|apply bH);simp only[yP,yQ,W2,W2B,W3,yH,yI,yJ,yK,yL,yM,hpK,stK,hP,hl,hr,hr0,hrs,hrs1,hls,hN,hgk,YAK,List.length_set,List.map_cons,List.map_nil,zjh hrs,ns1,yO,yN,implies_true,zTh,zTg,c0,hst2,hl2,hl3];first|refine zIA (q1 _ (by first|exact hD|exact hD.app _)) (.inl rfl) (fun hb=>krB (by first|exact hD|exact hD.app _) hb) ?_|refine zIA (q2 _ (by first|exact hD|exact hD.app _)) (.inl rfl) (fun hb=>krO (by first|exact hD|exact hD.app _) hb) ?_|refine zIA (q3 _ (by first|exact hD|exact hD.app _)) (.inl rfl) (fun hb=>krO (by first|exact hD|exact hD.app _) hb) ?_)
      |refine zJ9 ?_ C_ok Try.f42.ntmps rfl (by decide)
      |skip)<;>simp only[h,↓zaL,↓zHC,WY,reduceIte,yA,yB,yC,yD,reduceCtorEq,yE,yF,W1,W1B,WS,W3,yH,yI,yJ,yK,yL,yM,hpK,stK,hP,hl,hr,hr0,hrs,hrs1,hls,hN,hgk,YAK,List.length_set,List.map_cons,List.map_nil,zjh hrs,ns1,yO,yN,implies_true,zTh,zTg,c0,hst2,hl2,hl3,zFY]
     all_goals first|rfl|trace_state
    ·simp only[if_true]
     unfold zAd
     refine eD C_ok Try.func42 Try.results42 fun ok=> ?_
     have h:=YAN
     repeat' (first
      |(with_reducible first|apply bA|apply bB|apply bC|apply bD|apply bE|apply bF)<;>intro h
      |((first|apply bG|apply bH);simp only[yP,yQ,W2,W2B,W3,yH,yI,yJ,yK,yL,yM,hpK,stK,hP,hl,hr,hr0,hrs,hrs1,hls,hN,hgk,YAK,List.length_set,List.map_cons,List.map_nil,zjh hrs,ns1,yO,yN,implies_true,zTh,zTg,c0,ns3,zjh hrs3,hrs3,hst2,hl2,hst3,hl3];first|refine zIA (q1 _ (by first|exact hD|exact hD.app _)) (.inl rfl) (fun hb=>krB (by first|exact hD|exact hD.app _) hb) ?_|refine zIA (q2 _ (by first|exact hD|exact hD.app _)) (.inl rfl) (fun hb=>krO (by first|exact hD|exact hD.app _) hb) ?_|refine zIA (q3 _ (by first|exact hD|exact hD.app _)) (.inl rfl) (fun hb=>krO (by first|exact hD|exact hD.app _) hb) ?_)
      |refine zJ9 ?_ C_ok Try.f42.ntmps rfl (by decide)
      |skip)<;>simp only[h,↓zaL,↓zHC,WY,reduceIte,yA,yB,yC,yD,reduceCtorEq,yE,yF,W1,W1B,WS,W3,yH,yI,yJ,yK,yL,yM,hpK,stK,hP,hl,hr,hr0,hrs,hrs1,hls,hN,hgk,YAK,List.length_set,List.map_cons,List.map_nil,zjh hrs,ns1,yO,yN,implies_true,zTh,zTg,c0,ns3,zjh hrs3,hrs3,hst2,hl2,hst3,hl3,zFY]
     all_goals first|rfl|trace_state
end
end Go.Proofs.Ytmpegnogdgbleaa
