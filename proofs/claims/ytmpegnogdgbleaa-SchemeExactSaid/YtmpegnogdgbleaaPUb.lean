/- Lemmas: graphs of types in plain Lean, second part. No condition. -/
import Derived.Test.YtmpegnogdgbleaaPUa
set_option linter.unusedSimpArgs false
set_option linter.unusedVariables false
namespace Go.Proofs.Ytmpegnogdgbleaa
open Go Go.Ab
section
abbrev GS:=List Nd×List (Int×Nat)×List (Int×Nat)
noncomputable def gjoin(a b:T)(s:GS):Option GS:=
 let r:=putF a s.1 s.2.1
 let q:=putF b r.1 s.2.2
 let e:=zkQ (3*rts q.1+1) q.1 [(r.2.2,q.2.2)]
 if a.stat=true/\e.1=true then some (e.2,r.2.1,q.2.1)else none
noncomputable def gbelow:T->T->GS->Option GS
 |_,.dyn,s=>some s
 |a,.var n,s=>gjoin a (.var n) s
 | .var n,b,s=>gjoin (.var n) b s
 | .base k,.base k',s=>if k=k' then some s else none
 | .pair a a',.pair b b',s=>(gbelow a b s).bind (gbelow a' b')
 | .fn a a',.fn b b',s=>(gbelow a b s).bind (gbelow a' b')
 | .list a,.list b,s=>gbelow a b s
 |_,_,_=>none
structure OkG (s:GS):Prop where
 gr:Gr s.1
 ar:Ar s.1
 ma:∀n i,zjU s.2.1 n=some i->i<s.1.length
 mb:∀n i,zjU s.2.2 n=some i->i<s.1.length
structure Fit (s:GS) (ρ:Nat->T) (σ τ:Int->T):Prop where
 md:Mdl s.1 ρ
 sa:∀n,Gnd (σ n)
 sb:∀n,Gnd (τ n)
 ma:∀n i,zjU s.2.1 n=some i->σ n=ρ i
 mb:∀n i,zjU s.2.2 n=some i->τ n=ρ i
structure BelR (a b:T) (s:GS) (o:Option GS):Prop where
 ok:∀s',o=some s'->OkG s'/\s.1.length<=s'.1.length/\s'.1.length<=s.1.length+a.size+b.size
 so:∀s',o=some s'->∀ρ σ τ,Fit s' ρ σ τ->Fit s ρ σ τ/\zDd (putS σ a) (putS τ b)=true
 co:∀ρ σ τ,Fit s ρ σ τ->zDd (putS σ a) (putS τ b)=true->∃s' ρ',o=some s'/\Fit s' ρ' σ τ
theorem zkE{σ:Int->T}(h:∀n,Gnd (σ n)):∀a:T,a.stat=true->Gnd (putS σ a):=by
 intro a
 induction a with
 |var n=>intro _;exact h n
 |dyn=>intro h;cases h
 |base k=>intro _;exact⟨rfl,rfl⟩
 |pair a b i1 i2=>
  intro hs
  simp only[T.stat,YAA]at hs
  exact(zh4.gd _ _).2 ⟨i1 hs.1,i2 hs.2⟩
 |fn a b i1 i2=>
  intro hs
  simp only[T.stat,YAA]at hs
  exact(zh3.gd _ _).2 ⟨i1 hs.1,i2 hs.2⟩
 |list a i1=>intro hs;exact i1 hs
theorem zic{a b:T}{s:GS}(g:OkG s)(hab:∀σ τ:Int->T,(∀n,Gnd (σ n))->(∀n,Gnd (τ n))->zDd (putS σ a) (putS τ b)=true->a.stat=true):BelR a b s (gjoin a b s):=by
 obtain⟨N,A,B⟩:=s
 have R:=zj9 a g.gr g.ar g.ma
 have Q:=zj9 b R.gr R.ar (M:=B) (fun n i h=>YAW (g.mb n i h) R.le)
 have i1:(putF a N A).2.2<(putF b (putF a N A).1 B).1.length:=YAW R.ix Q.le
 have S:=zkS (3*rts (putF b (putF a N A).1 B).1+1) (td:=[((putF a N A).2.2,(putF b (putF a N A).1 B).2.2)]) Q.gr Q.ar (fun p hp=>by
  simp only[List.mem_cons,List.not_mem_nil,or_false]at hp
  rw[hp];exact⟨i1,Q.ix⟩) (by simp)
 unfold gjoin
 simp only at R Q S i1⊢
 generalize putF a N A=r at*
 generalize putF b r.1 B=q at*
 generalize zkQ (3*rts q.1+1) q.1 [(r.2.2,q.2.2)]=e at*
 have one:∀ρ:Nat->T,(∀p∈[(r.2.2,q.2.2)],ρ p.1=ρ p.2) ↔ ρ r.2.2=ρ q.2.2:=fun ρ=>by simp
 refine⟨fun s' h=> ?_,fun s' h ρ σ τ F=> ?_,fun ρ σ τ F hb=> ?_⟩
 ·split at h
  ·cases h
   refine⟨⟨S.gr,fun n=>by rw[S.ks,S.kd];exact Q.ar n,fun n i hi=> ?_,fun n i hi=> ?_⟩,?_,?_⟩
   ·have:=R.mm n i hi;have:=Q.le;simp only[S.len];omega
   ·have:=Q.mm n i hi;simp only[S.len];omega
   ·have:=R.le;have:=Q.le;simp only[S.len];omega
   ·have:=R.up;have:=Q.up;simp only[S.len];omega
  ·cases h
 ·split at h
  ·rename_i hc
   cases h
   obtain⟨M1,k⟩:=(S.tt hc.2 ρ).1 F.md
   have k:=(one ρ).1 k
   have M2:=Q.dn ρ M1
   refine⟨⟨R.dn ρ M2,F.sa,F.sb,fun n i h=>F.ma n i (R.ex n i h),fun n i h=>F.mb n i (Q.ex n i h)⟩,?_⟩
   have h1:=R.so ρ σ M2 F.ma
   have h2:=Q.so ρ τ M1 F.mb
   rw[<-zh0 _ _ (zkE F.sa a hc.1).1 h1,k]
   exact h2
  ·cases h
 ·have hs:=hab σ τ F.sa F.sb hb
  have hg:=zkE F.sa a hs
  obtain⟨ρ1,e1,M1,x1,m1⟩:=R.co ρ σ _ F.md F.sa F.ma hg (zhz _)
  obtain⟨ρ2,e2,M2,x2,m2⟩:=Q.co ρ1 τ _ M1 F.sb (fun n i h=>by rw[e1 i (g.mb n i h)];exact F.mb n i h) hg hb
  have hk:∀p∈[(r.2.2,q.2.2)],ρ2 p.1=ρ2 p.2:=(one ρ2).2 (by rw[x2,e2 _ R.ix,x1])
  have he:e.1=true:=by
   cases h:e.1 with
   |true=>rfl
   |false=>exact absurd hk (S.ff h ρ2 M2)
  refine⟨_,ρ2,if_pos ⟨hs,he⟩,(S.tt he ρ2).2 ⟨M2,hk⟩,F.sa,F.sb,fun n i h=> ?_,m2⟩
  rw[e2 i (R.mm n i h)];exact m1 n i h
end
section
theorem zhx(a:T):zDd a .dyn=true:=by cases a<;>rfl
theorem zkg{σ:Int->T}:∀a:T,(putS σ a).stat=true->a.stat=true:=by
 intro a
 induction a with
 |pair a b i1 i2=>
  intro h;simp only[putS,T.stat,YAA]at h⊢;exact⟨i1 h.1,i2 h.2⟩
 |fn a b i1 i2=>
  intro h;simp only[putS,T.stat,YAA]at h⊢;exact⟨i1 h.1,i2 h.2⟩
 |list a i1=>intro h;simp only[putS,T.stat]at h⊢;exact i1 h
 |dyn=>intro h;exact h
 |_=>intro _;rfl
theorem zhs{a b:T}{s:GS}(h:∀σ τ:Int->T,zDd (putS σ a) (putS τ b)=true->False):BelR a b s none:=
 ⟨fun s' h=>(by cases h),fun s' h=>(by cases h),fun ρ σ τ _ hb=>(h σ τ hb).elim⟩
theorem zhu{a b:T}{s:GS}(g:OkG s)(h:∀σ τ:Int->T,zDd (putS σ a) (putS τ b)=true):BelR a b s (some s):=
 ⟨fun s' e=>(by cases e;exact⟨g,YAV _,by omega⟩),fun s' e ρ σ τ F=>(by cases e;exact⟨F,h σ τ⟩),fun ρ σ τ F _=>⟨s,ρ,rfl,F⟩⟩
theorem zhv{k:Int}{c:T->T->T}(B:Bin k c){a a' b b':T}{s:GS}{o:Option GS}{f:GS->Option GS}(h1:BelR a b s o)(h2:∀s1,o=some s1->BelR a' b' s1 (f s1)):BelR (c a a') (c b b') s (o.bind f):=by
 refine⟨fun s' h=> ?_,fun s' h ρ σ τ F=> ?_,fun ρ σ τ F hb=> ?_⟩
 ·obtain⟨s1,e1,e2⟩:=Option.bind_eq_some_iff.1 h
  obtain⟨k1,k2,k3⟩:=h1.ok s1 e1
  obtain⟨k4,k5,k6⟩:=(h2 s1 e1).ok s' e2
  refine⟨k4,by omega,?_⟩
  rw[B.sz,B.sz];omega
 ·obtain⟨s1,e1,e2⟩:=Option.bind_eq_some_iff.1 h
  obtain⟨F1,q2⟩:=(h2 s1 e1).so s' e2 ρ σ τ F
  obtain⟨F2,q1⟩:=h1.so s1 e1 ρ σ τ F1
  exact⟨F2,by rw[B.ps,B.ps,B.bw];exact⟨q1,q2⟩⟩
 ·rw[B.ps,B.ps,B.bw]at hb
  obtain⟨s1,ρ1,e1,F1⟩:=h1.co ρ σ τ F hb.1
  obtain⟨s2,ρ2,e2,F2⟩:=(h2 s1 e1).co ρ1 σ τ F1 hb.2
  exact⟨s2,ρ2,by rw[e1];exact e2,F2⟩
theorem zht{a b:T}{s:GS}{o:Option GS}(h:BelR a b s o):BelR (.list a) (.list b) s o:=by
 refine⟨fun s' e=> ?_,h.so,h.co⟩
 obtain⟨k1,k2,k3⟩:=h.ok s' e
 exact⟨k1,k2,by simp only[T.size];omega⟩
theorem ziY:∀(b a:T) {s:GS},OkG s->BelR a b s (gbelow a b s):=by
 intro b
 induction b with
 |dyn=>intro a s g;cases a<;>exact zhu g fun σ τ=>zhx _
 |var n=>
  intro a s g
  have:=zic (a:=a) (b:= .var n) g fun σ τ hσ hτ h=>by
   have e:=zh0 _ _ (hτ n).1 h
   refine zkg (σ:=σ) a ?_
   rw[e];exact(hτ n).1
  cases a<;>exact this
 |base k=>
  intro a s g
  cases a with
  |var n=>exact zic g fun _ _ _ _ _=>rfl
  |base k'=>
   rw[gbelow]
   split
   ·rename_i e;exact zhu g fun σ τ=>by simp only[putS,zDd,e,decide_true]
   ·rename_i e;exact zhs fun σ τ h=>by simp only[putS,zDd,YAa]at h;exact e h
  |_=>exact zhs fun σ τ h=>by simp[putS,zDd]at h
 |pair b b' i1 i2=>
  intro a s g
  cases a with
  |var n=>exact zic g fun _ _ _ _ _=>rfl
  |pair a a'=>exact zhv zh4 (i1 a g) fun s1 e=>i2 a' ((i1 a g).ok s1 e).1
  |_=>exact zhs fun σ τ h=>by simp[putS,zDd]at h
 |fn b b' i1 i2=>
  intro a s g
  cases a with
  |var n=>exact zic g fun _ _ _ _ _=>rfl
  |fn a a'=>exact zhv zh3 (i1 a g) fun s1 e=>i2 a' ((i1 a g).ok s1 e).1
  |_=>exact zhs fun σ τ h=>by simp[putS,zDd]at h
 |list b i1=>
  intro a s g
  cases a with
  |var n=>exact zic g fun _ _ _ _ _=>rfl
  |list a=>exact zht (i1 a g)
  |_=>exact zhs fun σ τ h=>by simp[putS,zDd]at h
end
section
abbrev OS:=List Nd×List Nat
def zju(g:OS->Nat->Bool×OS):OS->List Nat->Bool×OS
 |s,[]=>(true,s)
 |s,k::ks=>if(g s k).1=true then zju g (g s k).2 ks else g s k
noncomputable def zjq:Nat->OS->Nat->Bool×OS
 |0,s,_=>(false,s)
 |f+1,s,n=>
  let r:=zkJ s.1 n
  if 0<s.2.getD r.2 0 then(decide (s.2.getD r.2 0=2),(r.1,s.2))
  else
   let e:=zju (zjq f) (r.1,s.2.set r.2 1) (kds r.1 r.2)
   if e.1=true then(true,(e.2.1,e.2.2.set r.2 2))else e
theorem T.zkh{v x:T}(h:x∈v.sub):x.size<v.size:=by
 cases v<;>simp only[T.sub,List.mem_cons,List.not_mem_nil,or_false]at h
 ·rcases h with rfl|rfl<;>simp only[T.size]<;>omega
 ·subst h;simp only[T.size];omega
 ·rcases h with rfl|rfl<;>simp only[T.size]<;>omega
theorem Mdl.kid{N:List Nd}{ρ:Nat->T}(M:Mdl N ρ){n k:Nat}(hn:n<N.length)(h0:knd N n≠0)(hk:k∈kds N n):(ρ k).size<(ρ n).size:=by
 refine T.zkh ?_
 rw[(M.kd n hn h0).2]
 exact List.mem_map.2 ⟨k,hk,rfl⟩
theorem Ar.zi3{N:List Nd}(a:Ar N){n:Nat}(h0:knd N n=0):kds N n=[]:=by
 have:=a n
 rw[h0]at this
 exact List.eq_nil_of_length_eq_zero this
end
section
structure OpR (s e:OS):Prop where
 sm:Sm s.1 e.1
 st:∀r,e.2.getD r 0=1->s.2.getD r 0=1
 b2:(∀r,s.2.getD r 0<=2)->∀r,e.2.getD r 0<=2
theorem OpR.refl(s:OS):OpR s s:=⟨Sm.refl _,fun _ h=>h,fun h=>h⟩
theorem OpR.trans{s e q:OS}(h:OpR s e)(k:OpR e q):OpR s q:=⟨h.sm.trans k.sm,fun r x=>h.st r (k.st r x),fun x=>k.b2 (h.b2 x)⟩
theorem zIb(l:List Nat)(i j v:Nat):(l.set i v).getD j 0=if i=j/\i<l.length then v else l.getD j 0:=by
 simp only[YAF,List.getElem?_set]
 by_cases h:i=j
 ·subst h
  by_cases h2:i<l.length
  ·simp[h2]
  ·simp[h2,YAR (Nat.le_of_not_lt h2)]
 ·simp[h]
theorem zjx{ρ:Nat->T}{g:OS->Nat->Bool×OS}{m:Nat}
 (H:∀(s:OS) (n:Nat),Gr s.1->Ar s.1->Mdl s.1 ρ->n<s.1.length->(ρ n).size<m->(∀r,s.2.getD r 0<=2)->(∀r,s.2.getD r 0=1->(ρ n).size<(ρ r).size)->(g s n).1=true/\OpR s (g s n).2):
 ∀(ks:List Nat) (s:OS),Gr s.1->Ar s.1->Mdl s.1 ρ->(∀n∈ks,n<s.1.length/\(ρ n).size<m/\∀r,s.2.getD r 0=1->(ρ n).size<(ρ r).size)->(∀r,s.2.getD r 0<=2)->(zju g s ks).1=true/\OpR s (zju g s ks).2:=by
 intro ks
 induction ks with
 |nil=>intro s _ _ _ _ _;exact⟨rfl,OpR.refl _⟩
 |cons k ks ih=>
  intro s hg ha hM hk h2
  obtain⟨a1,a2,a3⟩:=hk k (by simp)
  obtain⟨t1,t2⟩:=H s k hg ha hM a1 a2 h2 a3
  rw[zju,if_pos t1]
  obtain⟨u1,u2⟩:=ih (g s k).2 (t2.sm.gr hg) (fun n=>by rw[t2.sm.ks,t2.sm.kd];exact ha n) ((t2.sm.md ρ hg).2 hM)
   (fun n hn=>by
    obtain⟨b1,b2,b3⟩:=hk n (YAT _ hn)
    exact⟨by rw[t2.sm.len];exact b1,b2,fun r hr=>b3 r (t2.st r hr)⟩) (t2.b2 h2)
  exact⟨u1,t2.trans u2⟩
theorem zjr{ρ:Nat->T}:∀(f:Nat) (s:OS) (n:Nat),Gr s.1->Ar s.1->Mdl s.1 ρ->n<s.1.length->(ρ n).size<f->(∀r,s.2.getD r 0<=2)->(∀r,s.2.getD r 0=1->(ρ n).size<(ρ r).size)->(zjq f s n).1=true/\OpR s (zjq f s n).2:=by
 intro f
 induction f with
 |zero=>intro s n _ _ _ _ h;omega
 |succ f ih=>
  intro s n hg ha hM hn hf h2 h1
  obtain⟨⟨d,e⟩,sm⟩:=zkK hg hn
  rw[zjq]
  generalize zkJ s.1 n=r at e sm⊢
  have er:ρ r.2=ρ n:=hM.rt hg e hn
  have hr:r.2<s.1.length:=hg.zkO e hn
  have ha':Ar r.1:=fun n=>by rw[sm.ks,sm.kd];exact ha n
  have hM':=(sm.md ρ hg).2 hM
  have hr':r.2<r.1.length:=by rw[sm.len];exact hr
  by_cases h0:0<s.2.getD r.2 0
  ·rw[if_pos h0]
   have h3:s.2.getD r.2 0≠1:=fun h=>by have:=h1 _ h;rw[er]at this;omega
   have h4:=h2 r.2
   exact⟨decide_eq_true (by omega),⟨sm,fun _ h=>h,fun h=>h⟩⟩
  ·rw[if_neg h0]
   have hb:∀q,(s.2.set r.2 1).getD q 0<=2:=fun q=>by
    rw[zIb];split
    ·omega
    ·exact h2 q
   have L:=zjx (ρ:=ρ) (m:=f) (g:=zjq f) (fun s n a b c d e g h=>ih s n a b c d e g h) (kds r.1 r.2) (r.1,s.2.set r.2 1) (sm.gr hg) ha' hM' (fun k hk=>by
    have hne:knd r.1 r.2≠0:=fun h=>by rw[ha'.zi3 h]at hk;cases hk
    have hs:=hM'.kid hr' hne hk
    refine⟨(sm.gr hg).kd _ hr' k hk,by rw[er]at hs;omega,fun q hq=> ?_⟩
    simp only at hq
    rw[zIb]at hq
    split at hq
    ·rename_i hh;rw[<-hh.1];exact hs
    ·have:=h1 q hq;rw[er]at hs;omega) hb
   simp only
   generalize zju (zjq f) (r.1,s.2.set r.2 1) (kds r.1 r.2)=x at L⊢
   obtain⟨l1,l2⟩:=L
   rw[if_pos l1]
   refine⟨rfl,⟨sm.trans l2.sm,fun q hq=> ?_,fun h q=> ?_⟩⟩
   ·simp only at hq
    rw[zIb]at hq
    split at hq
    ·omega
    ·rename_i hne
     have:=l2.st q hq
     simp only at this
     rw[zIb]at this
     split at this
     ·rename_i hh
      exfalso
      have:=l2.st q hq
      exact hne ⟨hh.1,by have:=hh.2;by_cases hl:r.2<x.2.2.length;exact hl;rw[<-hh.1]at hq;simp[YAR (Nat.le_of_not_lt hl)]at hq⟩
     ·exact this
   ·simp only
    rw[zIb]
    split
    ·omega
    ·exact l2.b2 hb q
end
section
def RtO(N:List Nd)(n r:Nat):Prop:=∃d,Rt N d n r
section
variable {N N' : List Nd}
theorem RtO.one{n r s:Nat}(h:RtO N n r)(k:RtO N n s):r=s:=by
 obtain⟨d,h⟩:=h;obtain⟨e,k⟩:=k;exact(h.one k).2
theorem RtO.self{n:Nat}(h:lnk N n=n):RtO N n n:=⟨0,.here h⟩
theorem RtO.link{n r:Nat}(h:RtO N n r):RtO N (lnk N n) r:=by
 obtain⟨d,h⟩:=h
 cases h with
 |here h=>rw[h];exact⟨0,.here h⟩
 |step _ h=>exact⟨_,h⟩
theorem RtO.root{n r:Nat}(h:RtO N n r):lnk N r=r:=by obtain⟨_,h⟩:=h;exact h.root
theorem Gr.rtO(g:Gr N){n:Nat}(hn:n<N.length):∃r,RtO N n r:=by
 obtain⟨d,r,h⟩:=g.rt n hn;exact⟨r,d,h⟩
theorem RtO.lt(g:Gr N){n r:Nat}(h:RtO N n r)(hn:n<N.length):r<N.length:=by
 obtain⟨_,h⟩:=h;exact g.zkO h hn
theorem Sm.rtO(s:Sm N N')(g:Gr N){n r:Nat}(hn:n<N.length):RtO N' n r ↔ RtO N n r:=by
 have go:∀ {q:Nat},RtO N n q->RtO N' n q:=fun⟨d,h⟩=>by
  obtain⟨e,_,k⟩:=s.rt _ _ _ h
  exact⟨e,k⟩
 refine⟨fun h=> ?_,go⟩
 obtain⟨q,k⟩:=g.rtO hn
 rw[h.one (go k)];exact k
def Cpt(N:List Nd)(φ:Nat->Nat):Prop:=∀n r,n<N.length->RtO N n r->φ r=φ n
def CgC(N:List Nd)(φ:Nat->Nat):Prop:=∀n r,n<N.length->knd N n≠0->RtO N n r->knd N r=knd N n/\(kds N n).map φ=(kds N r).map φ
def Cg(N:List Nd)(td:List (Nat×Nat)):Prop:=∀φ,Cpt N φ->(∀p∈td,φ p.1=φ p.2)->CgC N φ
theorem Sm.cpt(s:Sm N N')(g:Gr N){φ:Nat->Nat}:Cpt N' φ ↔ Cpt N φ:=by
 constructor
 ·intro h n r hn k;exact h n r (by rw[s.len];exact hn) ((s.rtO g hn).2 k)
 ·intro h n r hn k
  rw[s.len]at hn
  exact h n r hn ((s.rtO g hn).1 k)
theorem Sm.cg(s:Sm N N')(g:Gr N){td:List (Nat×Nat)}(C:Cg N td):Cg N' td:=by
 intro φ hφ hp n r hn h0 k
 rw[s.len]at hn
 rw[s.kd]at h0
 rw[s.kd,s.kd,s.ks,s.ks]
 exact C φ ((s.cpt g).1 hφ) hp n r hn h0 ((s.rtO g hn).1 k)
theorem Cg.join{x y:Nat}{td':List (Nat×Nat)}(g:Gr N)(hx:x<N.length)(hxy:x≠y)(lx:lnk N x=x)(ly:lnk N y=y)
 (C:∀φ,Cpt N φ->φ x=φ y->(∀p∈td',φ p.1=φ p.2)->CgC N φ)
 (hk:∀φ:Nat->Nat,(∀p∈td',φ p.1=φ p.2)->knd N x≠0->knd N y=knd N x/\(kds N x).map φ=(kds N y).map φ):Cg (setL N x y) td':=by
 intro φ hφ hp n r hn h0 hr
 rw[zkW]at hn
 rw[zi6 hx]at h0
 have nw:∀m s,RtO N m s->RtO (setL N x y) m (if s=x then y else s):=fun m s ⟨e,h⟩=>Rt.join hx hxy lx ly h
 have exy:φ y=φ x:=by
  have:=nw x x (RtO.self lx)
  rw[if_pos rfl]at this
  exact hφ x y (by rw[zkW];exact hx) this
 have old:Cpt N φ:=fun m s hm hs=>by
  have k:=hφ m _ (by rw[zkW];exact hm) (nw m s hs)
  split at k
  ·rename_i e;rw[e,<-exy];exact k
  ·exact k
 obtain⟨r0,h1⟩:=g.rtO hn
 obtain⟨k1,k2⟩:=C φ old exy.symm hp n r0 hn h0 h1
 rw[zi6 hx,zi6 hx,zi2 hx,zi2 hx,hr.one (nw n r0 h1)]
 split
 ·rename_i e
  rw[e]at k1 k2
  obtain⟨k3,k4⟩:=hk φ hp (by rw[k1];exact h0)
  exact⟨k3.trans k1,k2.trans k4⟩
 ·exact⟨k1,k2⟩
theorem Cg.add(g:Gr N)(C:Cg N [])(k:Int){ks:List Nat}:Cg (addN N k ks) []:=by
 intro φ hφ _ n r hn h0 hr
 rw[zhf]at hn
 have en:lnk (addN N k ks) N.length=N.length:=by simp only[lnk,zhg]
 by_cases e:n=N.length
 ·have:r=n:=hr.one (RtO.self (by rw[e];exact en))
  rw[this];exact⟨rfl,rfl⟩
 ·have hn':n<N.length:=by omega
  have nw:∀m s,m<N.length->RtO N m s->RtO (addN N k ks) m s:=fun m s hm ⟨d,h⟩=>⟨d,h.add g k ks hm⟩
  obtain⟨r0,h1⟩:=g.rtO hn'
  have h2:=h1.lt g hn'
  rw[hr.one (nw n r0 hn' h1),zi5 h2,zi5 hn',zi0 h2,zi0 hn']
  rw[zi5 hn']at h0
  exact C φ (fun m s hm hs=>hφ m s (by rw[zhf];omega) (nw m s hm hs)) (fun p hp=>by cases hp) n r0 hn' h0 h1
end
theorem zlV{φ:Nat->Nat}:∀ {a b:List Nat},a.length=b.length->(∀p∈a.zip b,φ p.1=φ p.2)->a.map φ=b.map φ:=by
 intro a
 induction a with
 |nil=>intro b h _;rw[List.eq_nil_of_length_eq_zero h.symm]
 |cons x a ih=>
  intro b h hp
  cases b with
  |nil=>simp at h
  |cons y b=>
   simp only[List.length_cons,Nat.add_right_cancel_iff]at h
   simp only[List.map_cons]
   rw[hp (x,y) (by simp),ih h fun p k=>hp p (by simp[List.zip_cons_cons,k])]
theorem zkR:∀(f:Nat) {N:List Nd} {td:List (Nat×Nat)},Gr N->Ar N->(∀p∈td,p.1<N.length/\p.2<N.length)->3*rts N+td.length<=f->Cg N td->(zkQ f N td).1=true->Cg (zkQ f N td).2 []:=by
 intro f
 induction f with
 |zero=>
  intro N td g ha ht hf C _
  obtain rfl:td=[]:=List.eq_nil_of_length_eq_zero (by omega)
  exact C
 |succ f ih=>
  intro N td g ha ht hf C hT
  cases td with
  |nil=>exact C
  |cons p td=>
   obtain⟨a,b⟩:=p
   obtain⟨ha1,hb1⟩:=ht (a,b) (by simp)
   have ht':∀p∈td,p.1<N.length/\p.2<N.length:=fun p hp=>ht p (YAT _ hp)
   obtain⟨⟨d1,e1⟩,s1⟩:=zkK g ha1
   rw[zkQ]at hT⊢
   generalize hr1:zkJ N a=r1 at e1 s1 hT⊢
   obtain⟨N1,x⟩:=r1
   simp only at e1 s1 hT⊢
   have g1:=s1.gr g
   obtain⟨⟨d2,e2⟩,s2⟩:=zkK g1 (n:=b) (by rw[s1.len];exact hb1)
   generalize hr2:zkJ N1 b=r2 at e2 s2 hT⊢
   obtain⟨N2,y⟩:=r2
   simp only at e2 s2 hT⊢
   have s:=s1.trans s2
   have g2:=s2.gr g1
   have hx:x<N2.length:=by rw[s.len];exact g.zkO e1 ha1
   have hy:y<N2.length:=by rw[s2.len];exact g1.zkO e2 (by rw[s1.len];exact hb1)
   have lx:lnk N2 x=x:=(s.lk x (by rw[<-s.len];exact hx)).2 e1.root
   have ly:lnk N2 y=y:=(s2.lk y (by rw[<-s2.len];exact hy)).2 e2.root
   have rx:RtO N2 a x:=(s.rtO g ha1).2 ⟨d1,e1⟩
   have ry:RtO N2 b y:=(s2.rtO g1 (by rw[s1.len];exact hb1)).2 ⟨d2,e2⟩
   have ha2:a<N2.length:=by rw[s.len];exact ha1
   have hb2:b<N2.length:=by rw[s.len];exact hb1
   have C2:=s.cg g C
   have a2:Ar N2:=fun n=>by rw[s.ks,s.kd];exact ha n
   have hrt:rts N2=rts N:=s.rts
   have t2:∀p∈td,p.1<N2.length/\p.2<N2.length:=fun p hp=>by rw[s.len];exact ht' p hp
   simp only[List.length_cons]at hf
   have CC:∀φ:Nat->Nat,Cpt N2 φ->φ x=φ y->(∀p∈td,φ p.1=φ p.2)->CgC N2 φ:=fun φ h e hp=>C2 φ h fun p hq=>by
    rcases List.mem_cons.1 hq with rfl|hq
    ·simp only
     rw[<-h a x ha2 rx,<-h b y hb2 ry];exact e
    ·exact hp p hq
   by_cases hxy:x=y
   ·rw[if_pos hxy]at hT⊢
    exact ih g2 a2 t2 (by omega) (fun φ h hp=>CC φ h (by rw[hxy]) hp) hT
   ·rw[if_neg hxy]at hT⊢
    have J:∀(u v:Nat) (tn:List (Nat×Nat)),u<N2.length->v<N2.length->u≠v->lnk N2 u=u->lnk N2 v=v->(∀φ:Nat->Nat,φ u=φ v->φ x=φ y)->
     (∀p∈tn,p.1<N2.length/\p.2<N2.length)->tn.length<=2->(∀φ:Nat->Nat,(∀p∈tn,φ p.1=φ p.2)->knd N2 u≠0->knd N2 v=knd N2 u/\(kds N2 u).map φ=(kds N2 v).map φ)->
     (zkQ f (setL N2 u v) (tn++td)).1=true->Cg (zkQ f (setL N2 u v) (tn++td)).2 []:=by
     intro u v tn hu hv huv lu lv hab htn hl hk hq
     have gj:=g2.join hu hv huv lu lv
     have hlen:(setL N2 u v).length=N2.length:=zkW _ _
     refine ih (td:=tn++td) gj (fun n=>by rw[zi2 hu,zi6 hu];exact a2 n)
      (fun p hp=>by rw[hlen];exact(List.mem_append.1 hp).elim (htn p) (t2 p))
      (by have:=zkP hu huv lu;rw[YAJ];omega) (Cg.join g2 hu huv lu lv ?_ ?_) hq
     ·intro φ h e hp;exact CC φ h (hab φ e) fun p k=>hp p (List.mem_append.2 (.inr k))
     ·intro φ hp;exact hk φ fun p k=>hp p (List.mem_append.2 (.inl k))
    by_cases hkx:knd N2 x=0
    ·rw[if_pos hkx]at hT⊢
     exact J x y [] hx hy hxy lx ly (fun φ e=>e) (fun p hp=>by cases hp) (by simp) (fun _ _ h=>absurd hkx h) hT
    ·rw[if_neg hkx]at hT⊢
     by_cases hky:knd N2 y=0
     ·rw[if_pos hky]at hT⊢
      exact J y x [] hy hx (Ne.symm hxy) ly lx (fun φ e=>e.symm) (fun p hp=>by cases hp) (by simp) (fun _ _ h=>absurd hky h) hT
     ·rw[if_neg hky]at hT⊢
      by_cases hk:knd N2 x≠knd N2 y
      ·rw[if_pos hk]at hT;cases hT
      ·rw[if_neg hk]at hT⊢
       have hk:knd N2 x=knd N2 y:=Decidable.not_not.1 hk
       refine J x y _ hx hy hxy lx ly (fun φ e=>e) (fun p hp=> ?_) ?_ (fun φ hp _=>⟨hk.symm,zlV (by rw[a2,a2,hk]) fun p h=>hp p (List.mem_reverse.2 h)⟩) hT
       ·rw[List.mem_reverse]at hp
        have:=List.of_mem_zip (a:=p.1) (b:=p.2) hp
        exact⟨g2.kd x hx _ this.1,g2.kd y hy _ this.2⟩
       ·rw[List.length_reverse,List.length_zip,a2 x]
        have:=zhj (knd N2 x);omega
def Kok(N:List Nd):Prop:=∀n,knd N n=0\/(∃k:Fin 4,knd N n=k.val+1)\/knd N n=7\/knd N n=8\/knd N n=9
theorem Kok.add{N:List Nd}(h:Kok N){k:Int}{ks:List Nat}(hk:k=0\/(∃b:Fin 4,k=b.val+1)\/k=7\/k=8\/k=9):Kok (addN N k ks):=by
 intro n
 by_cases e:n<N.length
 ·rw[zi5 e];exact h n
 ·by_cases e2:n=N.length
  ·subst e2;simp only[knd,zhg];exact hk
  ·simp only[knd,zhh (N:=N) (n:=n) (by omega)];exact h n
theorem zj7:∀(t:T) {N:List Nd} {M:List (Int×Nat)},Gr N->Ar N->(∀n i,zjU M n=some i->i<N.length)->Cg N []->Kok N->Cg (putF t N M).1 []/\Kok (putF t N M).1:=by
 intro t
 induction t with
 |dyn=>intro N M g a hM C K;exact⟨C.add g 0,K.add (.inl rfl)⟩
 |base k=>intro N M g a hM C K;exact⟨C.add g _,K.add (.inr (.inl ⟨k,rfl⟩))⟩
 |var n=>
  intro N M g a hM C K
  rw[putF]
  split
  ·exact⟨C,K⟩
  ·exact⟨C.add g 0,K.add (.inl rfl)⟩
 |list x ih=>
  intro N M g a hM C K
  have R:=zj9 x g a hM
  obtain⟨c1,k1⟩:=ih g a hM C K
  exact⟨c1.add R.gr 8,k1.add (by simp)⟩
 |pair x y i1 i2=>
  intro N M g a hM C K
  have R:=zj9 x g a hM
  obtain⟨c1,k1⟩:=i1 g a hM C K
  have Q:=zj9 y R.gr R.ar R.mm
  obtain⟨c2,k2⟩:=i2 R.gr R.ar R.mm c1 k1
  exact⟨c2.add Q.gr 7,k2.add (by simp)⟩
 |fn x y i1 i2=>
  intro N M g a hM C K
  have R:=zj9 x g a hM
  obtain⟨c1,k1⟩:=i1 g a hM C K
  have Q:=zj9 y R.gr R.ar R.mm
  obtain⟨c2,k2⟩:=i2 R.gr R.ar R.mm c1 k1
  exact⟨c2.add Q.gr 9,k2.add (by simp)⟩
theorem zib{a b:T}{s s':GS}(g:OkG s)(C:Cg s.1 [])(K:Kok s.1)(h:gjoin a b s=some s'):Cg s'.1 []/\Kok s'.1:=by
 obtain⟨N,A,B⟩:=s
 have R:=zj9 a g.gr g.ar g.ma
 have hB:∀n i,zjU B n=some i->i<(putF a N A).1.length:=fun n i h=>YAW (g.mb n i h) R.le
 have Q:=zj9 b R.gr R.ar (M:=B) hB
 have i1:(putF a N A).2.2<(putF b (putF a N A).1 B).1.length:=YAW R.ix Q.le
 obtain⟨c1,k1⟩:=zj7 a g.gr g.ar g.ma C K
 obtain⟨c2,k2⟩:=zj7 b R.gr R.ar (M:=B) hB c1 k1
 have hlt:∀p∈[((putF a N A).2.2,(putF b (putF a N A).1 B).2.2)],p.1<(putF b (putF a N A).1 B).1.length/\p.2<(putF b (putF a N A).1 B).1.length:=fun p hp=>by
  simp only[List.mem_cons,List.not_mem_nil,or_false]at hp
  rw[hp];exact⟨i1,Q.ix⟩
 have S:=zkS (3*rts (putF b (putF a N A).1 B).1+1) (td:=[((putF a N A).2.2,(putF b (putF a N A).1 B).2.2)]) Q.gr Q.ar hlt (by simp)
 have Z:=zkR (3*rts (putF b (putF a N A).1 B).1+1) (td:=[((putF a N A).2.2,(putF b (putF a N A).1 B).2.2)]) Q.gr Q.ar hlt (by simp) (fun φ h hp=>c2 φ h fun p hq=>by cases hq)
 unfold gjoin at h
 simp only at h
 split at h
 ·rename_i hc
  cases h
  exact⟨Z hc.2,fun n=>by rw[S.kd];exact k2 n⟩
 ·cases h
theorem ziU:∀(b a:T) {s s':GS},OkG s->Cg s.1 []->Kok s.1->gbelow a b s=some s'->Cg s'.1 []/\Kok s'.1:=by
 intro b
 induction b with
 |dyn=>intro a s s' g C K h;cases a<;>(cases h;exact⟨C,K⟩)
 |var n=>intro a s s' g C K h;cases a<;>exact zib g C K h
 |base k=>
  intro a s s' g C K h
  cases a with
  |var n=>exact zib g C K h
  |base k'=>
   rw[gbelow]at h
   split at h
   ·cases h;exact⟨C,K⟩
   ·cases h
  |_=>cases h
 |pair b b' i1 i2=>
  intro a s s' g C K h
  cases a with
  |var n=>exact zib g C K h
  |pair a a'=>
   obtain⟨s1,e1,e2⟩:=Option.bind_eq_some_iff.1 h
   obtain⟨c1,k1⟩:=i1 a g C K e1
   exact i2 a' ((ziY b a g).ok s1 e1).1 c1 k1 e2
  |_=>cases h
 |fn b b' i1 i2=>
  intro a s s' g C K h
  cases a with
  |var n=>exact zib g C K h
  |fn a a'=>
   obtain⟨s1,e1,e2⟩:=Option.bind_eq_some_iff.1 h
   obtain⟨c1,k1⟩:=i1 a g C K e1
   exact i2 a' ((ziY b a g).ok s1 e1).1 c1 k1 e2
  |_=>cases h
 |list b i1=>
  intro a s s' g C K h
  cases a with
  |var n=>exact zib g C K h
  |list a=>exact i1 a g C K h
  |_=>cases h
end
section
def Kid(N:List Nd)(q r:Nat):Prop:=∃k∈kds N r,RtO N k q
theorem zi1{N:List Nd}{n:Nat}(h:¬n<N.length):kds N n=[]:=by
 simp[kds,YAR (Nat.le_of_not_lt h)]
theorem Sm.acc{N N':List Nd}(s:Sm N N')(g:Gr N){r:Nat}(h:Acc (Kid N) r):Acc (Kid N') r:=by
 induction h with
 |intro r _ ih=>
  refine Acc.intro r fun q ⟨k,hk,hq⟩=>ih q ⟨k,?_,?_⟩
  ·rw[<-s.ks];exact hk
  ·rw[s.ks]at hk
   by_cases hr:r<N.length
   ·exact(s.rtO g (g.kd r hr k hk)).1 hq
   ·rw[zi1 hr]at hk;cases hk
def InvO(s:OS):Prop:=∀r,s.2.getD r 0=2->Acc (Kid s.1) r
structure OpS (s e:OS):Prop where
 sm:Sm s.1 e.1
 mo:∀r,s.2.getD r 0=2->e.2.getD r 0=2
 ln:e.2.length=s.2.length
 iv:InvO s->InvO e
theorem OpS.refl(s:OS):OpS s s:=⟨Sm.refl _,fun _ h=>h,rfl,fun h=>h⟩
theorem OpS.trans{s e q:OS}(h:OpS s e)(k:OpS e q):OpS s q:=⟨h.sm.trans k.sm,fun r x=>k.mo r (h.mo r x),k.ln.trans h.ln,fun x=>k.iv (h.iv x)⟩
theorem zjz{g:OS->Nat->Bool×OS}
 (H:∀(s:OS) (n:Nat),Gr s.1->n<s.1.length->s.2.length=s.1.length->(g s n).1=true->OpS s (g s n).2/\∀r,RtO s.1 n r->(g s n).2.2.getD r 0=2):
 ∀(ks:List Nat) (s:OS),Gr s.1->(∀n∈ks,n<s.1.length)->s.2.length=s.1.length->(zju g s ks).1=true->OpS s (zju g s ks).2/\∀k∈ks,∀r,RtO s.1 k r->(zju g s ks).2.2.getD r 0=2:=by
 intro ks
 induction ks with
 |nil=>intro s _ _ _ _;exact⟨OpS.refl _,fun k hk=>by cases hk⟩
 |cons k ks ih=>
  intro s hg hk hl hT
  rw[zju]at hT⊢
  split at hT
  ·rename_i h1
   rw[if_pos h1]
   obtain⟨o1,r1⟩:=H s k hg (hk k (by simp)) hl h1
   obtain⟨o2,r2⟩:=ih (g s k).2 (o1.sm.gr hg) (fun n hn=>by rw[o1.sm.len];exact hk n (YAT _ hn)) (by rw[o1.ln,o1.sm.len];exact hl) hT
   refine⟨o1.trans o2,fun n hn r hr=> ?_⟩
   rcases List.mem_cons.1 hn with rfl|hm
   ·exact o2.mo r (r1 r hr)
   ·exact r2 n hm r ((o1.sm.rtO hg (hk n hn)).2 hr)
  ·rename_i h1;exact absurd hT h1
theorem zjt:∀(f:Nat) (s:OS) (n:Nat),Gr s.1->n<s.1.length->s.2.length=s.1.length->(zjq f s n).1=true->OpS s (zjq f s n).2/\∀r,RtO s.1 n r->(zjq f s n).2.2.getD r 0=2:=by
 intro f
 induction f with
 |zero=>intro s n _ _ _ h;cases h
 |succ f ih=>
  intro s n hg hn hl hT
  obtain⟨e,sm⟩:=zkK hg hn
  rw[zjq]at hT⊢
  generalize zkJ s.1 n=r at e sm hT⊢
  have e:RtO s.1 n r.2:=e
  have hr:r.2<s.1.length:=e.lt hg hn
  by_cases h0:0<s.2.getD r.2 0
  ·rw[if_pos h0]at hT⊢
   refine⟨⟨sm,fun _ h=>h,rfl,fun h q hq=>sm.acc hg (h q hq)⟩,fun q hq=> ?_⟩
   rw[<-e.one hq];exact of_decide_eq_true hT
  ·rw[if_neg h0]at hT⊢
   simp only at hT⊢
   have h1:(zju (zjq f) (r.1,s.2.set r.2 1) (kds r.1 r.2)).1=true:=by
    by_cases h:(zju (zjq f) (r.1,s.2.set r.2 1) (kds r.1 r.2)).1=true
    ·exact h
    ·rw[if_neg h]at hT;exact hT
   have L:=zjz (g:=zjq f) (fun s n a b c d=>ih s n a b c d) (kds r.1 r.2) (r.1,s.2.set r.2 1) (sm.gr hg) (fun k hk=>(sm.gr hg).kd r.2 (by rw[sm.len];exact hr) k hk) (by simp only[List.length_set];rw[sm.len];exact hl) h1
   rw[if_pos h1]
   generalize zju (zjq f) (r.1,s.2.set r.2 1) (kds r.1 r.2)=x at L⊢
   obtain⟨l1,l2⟩:=L
   have hxl:x.2.2.length=s.1.length:=by rw[l1.ln];simp only[List.length_set];exact hl
   have hself:(x.2.2.set r.2 2).getD r.2 0=2:=by rw[zIb,if_pos ⟨rfl,by rw[hxl];exact hr⟩]
   have hmo:∀q,s.2.getD q 0=2->(s.2.set r.2 1).getD q 0=2:=fun q hq=>by
    rw[zIb,if_neg (fun h=>h0 (by rw[h.1,hq];omega))];exact hq
   refine⟨⟨sm.trans l1.sm,fun q hq=> ?_,?_,fun iv q hq=> ?_⟩,fun q hq=> ?_⟩
   ·simp only
    rw[zIb]
    split
    ·rfl
    ·exact l1.mo q (hmo q hq)
   ·simp only[List.length_set];rw[hxl,hl]
   ·have iv1:InvO (r.1,s.2.set r.2 1):=fun p hp=>by
     simp only at hp⊢
     rw[zIb]at hp
     split at hp
     ·omega
     ·exact sm.acc hg (iv p hp)
    have iv2:=l1.iv iv1
    simp only at hq⊢
    by_cases hqr:q=r.2
    ·refine Acc.intro q fun p ⟨k,hk,hp⟩=>iv2 p ?_
     rw[l1.sm.ks,hqr]at hk
     exact l2 k hk p ((l1.sm.rtO (sm.gr hg) ((sm.gr hg).kd r.2 (by rw[sm.len];exact hr) k hk)).1 hp)
    ·rw[zIb,if_neg (fun h=>hqr h.1.symm)]at hq
     exact iv2 q hq
   ·rw[<-e.one hq];exact hself
open Classical in
noncomputable def rtC(N:List Nd)(n:Nat):Nat:=if h:∃r,RtO N n r then h.choose else n
theorem zkN{N:List Nd}{n r:Nat}(h:RtO N n r):rtC N n=r:=by
 have e:∃r,RtO N n r:=⟨r,h⟩
 rw[rtC,dif_pos e]
 exact e.choose_spec.one h
def bkF(k:Int):Fin 4:=if h:1<=k/\k<=4 then⟨(k-1).toNat,by omega⟩else 0
def shape(k:Int):List T->T
 | [a]=> .list a
 | [a,b]=>if k=7 then .pair a b else .fn a b
 |_=> .base (bkF k)
theorem zkY(k:Int):∀l:List T,(∀a∈l,Gnd a)->Gnd (shape k l):=by
 intro l h
 match l with
 | []=>exact⟨rfl,rfl⟩
 | [a]=>exact h a (by simp)
 | [a,b]=>
  simp only[shape]
  split
  ·exact(zh4.gd _ _).2 ⟨h a (by simp),h b (by simp)⟩
  ·exact(zh3.gd _ _).2 ⟨h a (by simp),h b (by simp)⟩
 |_::_::_::_=>exact⟨rfl,rfl⟩
theorem zkZ{k:Int}{l:List T}(hl:l.length=ar k)(h0:k≠0)(hk:k=0\/(∃b:Fin 4,k=b.val+1)\/k=7\/k=8\/k=9):(shape k l).kind=k/\(shape k l).sub=l:=by
 rcases hk with h|⟨b,rfl⟩|rfl|rfl|rfl
 ·exact absurd h h0
 ·have:ar ((b.val:Int)+1)=0:=by
   have:=b.isLt
   unfold ar
   rw[if_neg (by omega),if_neg (by omega)]
  rw[this]at hl
  rw[List.eq_nil_of_length_eq_zero hl]
  have:=b.isLt
  refine⟨?_,rfl⟩
  simp only[shape,T.kind,bkF]
  rw[dif_pos (by omega)]
  simp only
  omega
 ·match l,hl with
  | [a,b],_=>exact⟨rfl,rfl⟩
 ·match l,hl with
  | [a],_=>exact⟨rfl,rfl⟩
 ·match l,hl with
  | [a,b],_=>exact⟨rfl,rfl⟩
open Classical in
noncomputable def valN(N:List Nd)(wf:WellFounded (Kid N)):Nat->T:=
 wf.fix fun n rec=>shape (knd N n) ((kds N n).map fun k=>if h:Kid N (rtC N k) n then rec (rtC N k) h else .dyn)
theorem zlN{N:List Nd}(wf:WellFounded (Kid N))(g:Gr N)(n:Nat):valN N wf n=shape (knd N n) ((kds N n).map fun k=>valN N wf (rtC N k)):=by
 unfold valN
 rw[WellFounded.fix_eq]
 congr 1
 refine List.map_congr_left fun k hk=> ?_
 rw[dif_pos]
 by_cases hn:n<N.length
 ·obtain⟨r,hr⟩:=g.rtO (g.kd n hn k hk)
  rw[zkN hr];exact⟨k,hk,hr⟩
 ·rw[zi1 hn]at hk;cases hk
theorem zjd{N:List Nd}(g:Gr N)(a:Ar N)(C:Cg N [])(K:Kok N)(wf:WellFounded (Kid N)):∃ρ,Mdl N ρ:=by
 refine⟨fun n=>valN N wf (rtC N n),fun n hn=> ?_,fun n hn=> ?_,fun n hn h0=> ?_⟩
 ·generalize rtC N n=r
  show Gnd (valN N wf r)
  induction r using wf.induction with
  |_ r ih=>
   rw[zlN wf g]
   refine zkY _ _ fun v hv=> ?_
   obtain⟨k,hk,rfl⟩:=List.mem_map.1 hv
   by_cases hr:r<N.length
   ·obtain⟨q,hq⟩:=g.rtO (g.kd r hr k hk)
    rw[zkN hq]
    exact ih q ⟨k,hk,hq⟩
   ·rw[zi1 hr]at hk;cases hk
 ·obtain⟨r,hr⟩:=g.rtO hn
  rw[zkN hr,zkN hr.link]
 ·obtain⟨r,hr⟩:=g.rtO hn
  obtain⟨c1,c2⟩:=C (rtC N) (fun m s hm hs=>by rw[zkN hs,zkN (RtO.self hs.root)]) (fun p hp=>by cases hp) n r hn h0 hr
  rw[zkN hr,zlN wf g,c1]
  have e:(kds N r).map (fun k=>valN N wf (rtC N k))=(kds N n).map (fun k=>valN N wf (rtC N k)):=by
   have:=congrArg (List.map (valN N wf)) c2
   simp only[List.map_map]at this
   exact this.symm
  rw[e]
  exact zkZ (by rw[YAK,a n]) h0 (K n)
theorem zlQ{N:List Nd}(h:∀k,k<N.length->∀q,RtO N k q->Acc (Kid N) q)(g:Gr N):WellFounded (Kid N):=by
 refine⟨fun n=>Acc.intro n fun q ⟨k,hk,hq⟩=> ?_⟩
 by_cases hn:n<N.length
 ·exact h k (g.kd n hn k hk) q hq
 ·rw[zi1 hn]at hk;cases hk
theorem zjp{f:Nat}{N:List Nd}(g:Gr N)(hT:(zju (zjq f) (N,List.replicate N.length 0) (List.range N.length)).1=true):WellFounded (Kid N):=by
 obtain⟨o,h2⟩:=zjz (g:=zjq f) (fun s n a b c d=>zjt f s n a b c d) (List.range N.length) (N,List.replicate N.length 0) g (fun n hn=>List.mem_range.1 hn) (by simp) hT
 have iv:=o.iv (fun r hr=>by
  simp only[YAF,List.getElem?_replicate]at hr
  split at hr<;>simp at hr)
 have w:WellFounded (Kid (zju (zjq f) (N,List.replicate N.length 0) (List.range N.length)).2.1):=zlQ (fun k hk q hq=>by
  rw[o.sm.len]at hk
  exact iv q (h2 k (List.mem_range.2 hk) q ((o.sm.rtO g hk).1 hq))) (o.sm.gr g)
 refine⟨fun n=> ?_⟩
 have:=w.apply n
 induction this with
 |intro n _ ih=>
  refine Acc.intro n fun q ⟨k,hk,hq⟩=>ih q ⟨k,by rw[o.sm.ks];exact hk,?_⟩
  by_cases hn:n<N.length
  ·exact(o.sm.rtO g (g.kd n hn k hk)).2 hq
  ·rw[zi1 hn]at hk;cases hk
theorem zjo{f:Nat}{N:List Nd}{ρ:Nat->T}(g:Gr N)(a:Ar N)(M:Mdl N ρ)(hf:∀n,n<N.length->(ρ n).size<f):(zju (zjq f) (N,List.replicate N.length 0) (List.range N.length)).1=true:=by
 have e0:∀r,(List.replicate N.length 0:List Nat).getD r 0=0:=fun r=>by
  simp only[YAF,List.getElem?_replicate]
  split<;>rfl
 refine(zjx (ρ:=ρ) (m:=f) (g:=zjq f) (fun s n a b c d e g h=>zjr f s n a b c d e g h) (List.range N.length) (N,List.replicate N.length 0) g a M (fun n hn=>⟨List.mem_range.1 hn,hf n (List.mem_range.1 hn),fun r hr=> ?_⟩) (fun r=> ?_)).1
 ·simp only at hr;rw[e0]at hr;cases hr
 ·simp only;rw[e0];omega
end
end Go.Proofs.Ytmpegnogdgbleaa
