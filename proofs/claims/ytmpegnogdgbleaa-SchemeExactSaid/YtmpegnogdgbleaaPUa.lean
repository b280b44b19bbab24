/- Lemmas: graphs of types in plain Lean, first part. No condition. -/
import Derived.Test.YtmpegnogdgbleaaEM
import Derived.Test.YtmpegnogdgbleaaPCa
set_option linter.unusedSimpArgs false
set_option linter.unusedVariables false
namespace Go.Proofs.Ytmpegnogdgbleaa
open Go Go.Ab
section
def T.sub:T->List T
 | .pair a b=> [a,b]
 | .list a=> [a]
 | .fn a b=> [a,b]
 |_=> []
abbrev Nd:=Int×Nat×List Nat
def knd(N:List Nd)(n:Nat):Int:=(N.getD n (0,n,[])).1
def lnk(N:List Nd)(n:Nat):Nat:=(N.getD n (0,n,[])).2.1
def kds(N:List Nd)(n:Nat):List Nat:=(N.getD n (0,n,[])).2.2
def setL(N:List Nd)(n m:Nat):List Nd:=N.set n (knd N n,m,kds N n)
section
variable {N : List Nd}
theorem zkW(n m:Nat):(setL N n m).length=N.length:=by simp[setL]
theorem zkV{n:Nat}(hn:n<N.length)(m j:Nat):(setL N n m).getD j (0,j,[])=if j=n then(knd N n,m,kds N n)else N.getD j (0,j,[]):=by
 unfold setL
 by_cases h:j=n
 ·subst h;simp[hn]
 ·rw[if_neg h]
  simp only[YAF]
  rw[List.getElem?_set_ne (by omega)]
theorem zjR{n:Nat}(hn:n<N.length)(m j:Nat):lnk (setL N n m) j=if j=n then m else lnk N j:=by
 unfold lnk;rw[zkV hn];split<;>rfl
theorem zi6{n:Nat}(hn:n<N.length)(m j:Nat):knd (setL N n m) j=knd N j:=by
 rw[knd,zkV hn]
 split
 ·rename_i h;rw[h]
 ·rfl
theorem zi2{n:Nat}(hn:n<N.length)(m j:Nat):kds (setL N n m) j=kds N j:=by
 rw[kds,zkV hn]
 split
 ·rename_i h;rw[h]
 ·rfl
end
inductive Rt (N:List Nd):Nat->Nat->Nat->Prop
 |here {n:Nat}:lnk N n=n->Rt N 0 n n
 |step {d n r:Nat}:lnk N n≠n->Rt N d (lnk N n) r->Rt N (d+1) n r
section
variable {N : List Nd}
theorem Rt.root{d n r:Nat}(h:Rt N d n r):lnk N r=r:=by
 induction h with
 |here h=>exact h
 |step _ _ ih=>exact ih
theorem Rt.one{d n r:Nat}(h:Rt N d n r):∀ {d' r':Nat},Rt N d' n r'->d=d'/\r=r':=by
 induction h with
 |here h=>
  intro d' r' k
  cases k with
  |here _=>exact⟨rfl,rfl⟩
  |step h1 _=>exact absurd h h1
 |step h _ ih=>
  intro d' r' k
  cases k with
  |here h1=>exact absurd h1 h
  |step _ h2=>obtain⟨rfl,rfl⟩:=ih h2;exact⟨rfl,rfl⟩
theorem Rt.halve{n:Nat}(hn:n<N.length):∀(e:Nat) {m s:Nat},Rt N e m s->∃e',e'<=e/\Rt (setL N n (lnk N (lnk N n))) e' m s:=by
 intro e
 induction e using Nat.strongRecOn with
 |_ e ih=>
  intro m s h
  by_cases hm:m=n
  ·subst hm
   cases h with
   |here h=>exact⟨0,YAV _,.here (by rw[zjR hn,if_pos rfl,h,h])⟩
   |step h1 h2=>
    rename_i d
    cases h2 with
    |here h3=>
     obtain⟨e',he,k⟩:=ih 0 (by omega) (Rt.here h3)
     refine⟨e'+1,by omega,.step ?_ ?_⟩
     ·rw[zjR hn,if_pos rfl,h3];exact h1
     ·rw[zjR hn,if_pos rfl];rw[h3]at k⊢;exact k
    |step h3 h4=>
     rename_i d
     obtain⟨e',he,k⟩:=ih d (by omega) h4
     refine⟨e'+1,by omega,.step ?_ ?_⟩
     ·rw[zjR hn,if_pos rfl]
      intro e0
      rw[e0]at h4
      have:=(h4.one (Rt.step h1 (Rt.step h3 (by rw[e0];exact h4)))).1
      omega
     ·rw[zjR hn,if_pos rfl];exact k
  ·cases h with
   |here h=>exact⟨0,YAV _,.here (by rw[zjR hn,if_neg hm];exact h)⟩
   |step h1 h2=>
    rename_i d
    obtain⟨e',he,k⟩:=ih d (by omega) h2
    exact⟨e'+1,by omega,.step (by rw[zjR hn,if_neg hm];exact h1) (by rw[zjR hn,if_neg hm];exact k)⟩
theorem Rt.join{x y:Nat}(hx:x<N.length)(hxy:x≠y)(h1:lnk N x=x)(h2:lnk N y=y){e m s:Nat}(h:Rt N e m s):∃e',Rt (setL N x y) e' m (if s=x then y else s):=by
 induction h with
 |here h=>
  rename_i n
  by_cases hn:n=x
  ·rw[if_pos hn]
   refine⟨1,.step (by rw[zjR hx,if_pos hn,hn];exact hxy.symm) ?_⟩
   rw[zjR hx,if_pos hn]
   exact .here (by rw[zjR hx,if_neg hxy.symm];exact h2)
  ·rw[if_neg hn]
   exact⟨0,.here (by rw[zjR hx,if_neg hn];exact h)⟩
 |step h3 h4 ih=>
  rename_i d n r
  obtain⟨e',k⟩:=ih
  have hn:n≠x:=fun e=>h3 (by rw[e];exact h1)
  exact⟨e'+1,.step (by rw[zjR hx,if_neg hn];exact h3) (by rw[zjR hx,if_neg hn];exact k)⟩
end
structure Mdl (N:List Nd) (ρ:Nat->T):Prop where
 gr:∀n,n<N.length->(ρ n).stat=true/\(ρ n).closed=true
 ln:∀n,n<N.length->ρ (lnk N n)=ρ n
 kd:∀n,n<N.length->knd N n≠0->(ρ n).kind=knd N n/\(ρ n).sub=(kds N n).map ρ
structure Gr (N:List Nd):Prop where
 ln:∀n,n<N.length->lnk N n<N.length
 kd:∀n,n<N.length->∀k∈kds N n,k<N.length
 rt:∀n,n<N.length->∃d r,Rt N d n r
section
variable {N : List Nd} {ρ : Nat -> T}
theorem Gr.zkO(g:Gr N){d n r:Nat}(h:Rt N d n r)(hn:n<N.length):r<N.length:=by
 induction h with
 |here _=>exact hn
 |step _ _ ih=>exact ih (g.ln _ hn)
theorem Mdl.rt(g:Gr N)(M:Mdl N ρ){d n r:Nat}(h:Rt N d n r)(hn:n<N.length):ρ r=ρ n:=by
 induction h with
 |here _=>rfl
 |step _ _ ih=>rw[ih (g.ln _ hn)];exact M.ln _ hn
theorem Mdl.set(M:Mdl N ρ){n p:Nat}(hn:n<N.length)(h:ρ p=ρ n):Mdl (setL N n p) ρ:=by
 refine⟨fun j hj=>M.gr j (by rwa[zkW]at hj),fun j hj=> ?_,fun j hj hk=> ?_⟩
 ·rw[zkW]at hj
  rw[zjR hn]
  split
  ·rename_i e;rw[e];exact h
  ·exact M.ln j hj
 ·rw[zkW]at hj
  rw[zi6 hn]at hk⊢
  rw[zi2 hn]
  exact M.kd j hj hk
theorem Mdl.unset{n p:Nat}(M:Mdl (setL N n p) ρ)(hn:n<N.length)(h:ρ (lnk N n)=ρ n):Mdl N ρ:=by
 refine⟨fun j hj=>M.gr j (by rwa[zkW]),fun j hj=> ?_,fun j hj hk=> ?_⟩
 ·by_cases e:j=n
  ·rw[e];exact h
  ·have:=M.ln j (by rwa[zkW])
   rwa[zjR hn,if_neg e]at this
 ·have:=M.kd j (by rwa[zkW]) (by rwa[zi6 hn])
  rwa[zi6 hn,zi2 hn]at this
theorem Mdl.zkX{n p:Nat}(M:Mdl (setL N n p) ρ)(hn:n<N.length):ρ p=ρ n:=by
 have:=M.ln n (by rwa[zkW])
 rwa[zjR hn,if_pos rfl]at this
theorem Mdl.halve(g:Gr N){n:Nat}(hn:n<N.length):Mdl (setL N n (lnk N (lnk N n))) ρ ↔ Mdl N ρ:=by
 constructor
 ·intro M
  refine M.unset hn ?_
  by_cases e:lnk N n=n
  ·rw[e]
  ·have h1:=M.zkX hn
   have h2:=M.ln (lnk N n) (by rw[zkW];exact g.ln n hn)
   rw[zjR hn,if_neg e]at h2
   rw[<-h2,h1]
 ·intro M
  exact M.set hn (by rw[M.ln _ (g.ln n hn),M.ln n hn])
theorem Gr.halve(g:Gr N){n:Nat}(hn:n<N.length):Gr (setL N n (lnk N (lnk N n))):=by
 refine⟨fun j hj=> ?_,fun j hj=> ?_,fun j hj=> ?_⟩
 ·rw[zkW]at hj⊢
  rw[zjR hn]
  split
  ·exact g.ln _ (g.ln _ hn)
  ·exact g.ln _ hj
 ·rw[zkW]at hj⊢
  rw[zi2 hn];exact g.kd j hj
 ·rw[zkW]at hj
  obtain⟨d,r,h⟩:=g.rt j hj
  obtain⟨e,_,k⟩:=Rt.halve hn d h
  exact⟨e,r,k⟩
theorem Gr.join(g:Gr N){x y:Nat}(hx:x<N.length)(hy:y<N.length)(hxy:x≠y)(h1:lnk N x=x)(h2:lnk N y=y):Gr (setL N x y):=by
 refine⟨fun j hj=> ?_,fun j hj=> ?_,fun j hj=> ?_⟩
 ·rw[zkW]at hj⊢
  rw[zjR hx]
  split
  ·exact hy
  ·exact g.ln _ hj
 ·rw[zkW]at hj⊢
  rw[zi2 hx];exact g.kd j hj
 ·rw[zkW]at hj
  obtain⟨d,r,h⟩:=g.rt j hj
  obtain⟨e,k⟩:=Rt.join hx hxy h1 h2 h
  exact⟨e,_,k⟩
end
end
section
structure Sm (N N':List Nd):Prop where
 gr:Gr N->Gr N'
 len:N'.length=N.length
 kd:∀n,knd N' n=knd N n
 ks:∀n,kds N' n=kds N n
 md:∀ρ,Gr N->(Mdl N' ρ ↔ Mdl N ρ)
 rt:∀e m s,Rt N e m s->∃e',e'<=e/\Rt N' e' m s
 lk:∀n,n<N.length->(lnk N' n=n ↔ lnk N n=n)
theorem Sm.refl(N:List Nd):Sm N N:=⟨id,rfl,fun _=>rfl,fun _=>rfl,fun _ _=>Iff.rfl,fun e _ _ h=>⟨e,YAV _,h⟩,fun _ _=>Iff.rfl⟩
theorem Sm.trans{N N1 N2:List Nd}(h:Sm N N1)(k:Sm N1 N2):Sm N N2:=by
 refine⟨fun g=>k.gr (h.gr g),by rw[k.len,h.len],fun n=>by rw[k.kd,h.kd],fun n=>by rw[k.ks,h.ks],fun ρ g=>(k.md ρ (h.gr g)).trans (h.md ρ g),fun e m s r=> ?_,fun n hn=>(k.lk n (by rw[h.len];exact hn)).trans (h.lk n hn)⟩
 obtain⟨e1,h1,r1⟩:=h.rt e m s r
 obtain⟨e2,h2,r2⟩:=k.rt e1 m s r1
 exact⟨e2,by omega,r2⟩
theorem Sm.halve{N:List Nd}(g:Gr N){n:Nat}(hn:n<N.length):Sm N (setL N n (lnk N (lnk N n))):=by
 refine⟨fun _=>g.halve hn,zkW _ _,zi6 hn _,zi2 hn _,fun ρ _=>Mdl.halve g hn,fun e m s h=>Rt.halve hn e h,fun j hj=> ?_⟩
 rw[zjR hn]
 by_cases e:j=n
 ·rw[if_pos e,e]
  constructor
  ·intro h
   obtain⟨d,r,k⟩:=g.rt n hn
   cases k with
   |here k=>exact k
   |step k1 k2=>
    cases k2 with
    |here k3=>rw[k3]at h;exact absurd h k1
    |step k3 k4=>
     have:=(k4.one (r':=r) (d':=_) (by rw[h];exact Rt.step k1 (Rt.step k3 k4))).1
     omega
  ·intro h;rw[h,h]
 ·rw[if_neg e]
def zUD:Nat->List Nd->Nat->List Nd×Nat
 |0,N,n=>(N,n)
 |f+1,N,n=>if lnk N n=n then(N,n)else zUD f (setL N n (lnk N (lnk N n))) (lnk N (lnk N n))
theorem zkL:∀(f:Nat) {N:List Nd} {n d r:Nat},Gr N->n<N.length->Rt N d n r->d<=f->(zUD f N n).2=r/\Sm N (zUD f N n).1:=by
 intro f
 induction f with
 |zero=>
  intro N n d r g hn h hd
  obtain rfl:d=0:=by omega
  cases h with
  |here h=>exact⟨rfl,Sm.refl _⟩
 |succ f ih=>
  intro N n d r g hn h hd
  rw[zUD]
  cases h with
  |here h=>rw[if_pos h];exact⟨rfl,Sm.refl _⟩
  |step h1 h2=>
   rw[if_neg h1]
   have s:=Sm.halve g hn
   have g':=s.gr g
   have hl:lnk N (lnk N n)<(setL N n (lnk N (lnk N n))).length:=by rw[s.len];exact g.ln _ (g.ln _ hn)
   have key:∃d',d'<=f/\Rt (setL N n (lnk N (lnk N n))) d' (lnk N (lnk N n)) r:=by
    cases h2 with
    |here h3=>
     obtain⟨e,he,k⟩:=s.rt _ _ _ (Rt.here h3)
     exact⟨e,by omega,by rw[h3]at k⊢;exact k⟩
    |step h3 h4=>
     obtain⟨e,he,k⟩:=s.rt _ _ _ h4
     exact⟨e,by omega,k⟩
   obtain⟨d',h5,h6⟩:=key
   obtain⟨k1,k2⟩:=ih g' hl h6 h5
   exact⟨k1,s.trans k2⟩
def rts(N:List Nd):Nat:=((List.range N.length).filter fun n=>decide (lnk N n=n)).length
theorem Sm.rts{N N':List Nd}(s:Sm N N'):rts N'=rts N:=by
 unfold Go.Proofs.Ytmpegnogdgbleaa.rts
 rw[s.len]
 congr 1
 apply List.filter_congr
 intro n hn
 rw[decide_eq_decide]
 exact s.lk n (List.mem_range.1 hn)
theorem ziP{α:Type}(p q:α->Bool)(a:α):∀(l:List α),(∀x∈l,q x=true->p x=true)->a∈l->p a=true->q a=false->(l.filter q).length<(l.filter p).length:=by
 intro l
 induction l with
 |nil=>intro _ h;cases h
 |cons x l ih=>
  intro h hm hp hq
  have hle:(l.filter q).length<=(l.filter p).length:=by
   clear ih hm
   induction l with
   |nil=>exact YAV _
   |cons y l ih2=>
    have h2:=ih2 (fun z hz=>h z (by rcases List.mem_cons.1 hz with rfl|hz<;>simp_all))
    have h3:=h y (by simp)
    simp only[List.filter_cons]
    cases hqy:q y
    ·cases hpy:p y<;>simp<;>omega
    ·rw[h3 hqy];simp;omega
  rcases List.mem_cons.1 hm with rfl|hm
  ·simp only[List.filter_cons,hp,hq];simp;omega
  ·have:=ih (fun z hz=>h z (YAT _ hz)) hm hp hq
   have h3:=h x (by simp)
   simp only[List.filter_cons]
   cases hqx:q x
   ·cases hpx:p x<;>simp<;>omega
   ·rw[h3 hqx];simp;omega
theorem zkP{N:List Nd}{x y:Nat}(hx:x<N.length)(hxy:x≠y)(h1:lnk N x=x):rts (setL N x y)<rts N:=by
 unfold rts
 rw[zkW]
 refine ziP _ _ x _ (fun n _ h=> ?_) (List.mem_range.2 hx) (decide_eq_true h1) ?_
 ·have h:=of_decide_eq_true h
  rw[zjR hx]at h
  split at h
  ·rename_i e;exact absurd (h.symm▸e).symm hxy
  ·exact decide_eq_true h
 ·rw[decide_eq_false_iff_not,zjR hx,if_pos rfl];exact hxy.symm
end
section
open Classical in
noncomputable def dep(N:List Nd)(n:Nat):Nat:=if h:∃d r,Rt N d n r then h.choose else 0
noncomputable def zkJ(N:List Nd)(n:Nat):List Nd×Nat:=zUD (dep N n) N n
theorem zkK{N:List Nd}(g:Gr N){n:Nat}(hn:n<N.length):(∃d,Rt N d n (zkJ N n).2)/\Sm N (zkJ N n).1:=by
 obtain⟨d,r,h⟩:=g.rt n hn
 have hd:dep N n=d:=by
  have e:∃d r,Rt N d n r:=⟨d,r,h⟩
  rw[dep,dif_pos e]
  obtain⟨r',h'⟩:=e.choose_spec
  exact(h'.one h).1
 obtain⟨k1,k2⟩:=zkL d g hn h (YAV _)
 unfold zkJ
 rw[hd]
 exact⟨⟨d,by rw[k1];exact h⟩,k2⟩
def ar(k:Int):Nat:=if k=8 then 1 else if k=7\/k=9 then 2 else 0
theorem zhj(k:Int):ar k<=2:=by unfold ar;split<;>(try split)<;>omega
def Ar(N:List Nd):Prop:=∀n,(kds N n).length=ar (knd N n)
noncomputable def zkQ:Nat->List Nd->List (Nat×Nat)->Bool×List Nd
 |0,N,_=>(true,N)
 |_+1,N,[]=>(true,N)
 |f+1,N,(a,b)::td=>
  let r1:=zkJ N a
  let r2:=zkJ r1.1 b
  if r1.2=r2.2 then zkQ f r2.1 td
  else if knd r2.1 r1.2=0 then zkQ f (setL r2.1 r1.2 r2.2) td
  else if knd r2.1 r2.2=0 then zkQ f (setL r2.1 r2.2 r1.2) td
  else if knd r2.1 r1.2≠knd r2.1 r2.2 then(false,r2.1)
  else zkQ f (setL r2.1 r1.2 r2.2) (((kds r2.1 r1.2).zip (kds r2.1 r2.2)).reverse++td)
theorem zjb{ρ:Nat->T}:∀ {a b:List Nat},a.map ρ=b.map ρ->∀p∈a.zip b,ρ p.1=ρ p.2:=by
 intro a
 induction a with
 |nil=>intro b _ p hp;simp at hp
 |cons x a ih=>
  intro b h p hp
  cases b with
  |nil=>simp at hp
  |cons y b=>
   simp only[List.map_cons,List.cons.injEq]at h
   simp only[List.zip_cons_cons,List.mem_cons]at hp
   rcases hp with rfl|hp
   ·exact h.1
   ·exact ih h.2 p hp
theorem Mdl.join{N:List Nd}{ρ:Nat->T}{x y:Nat}(hx:x<N.length)(h:lnk N x=x):Mdl (setL N x y) ρ ↔ (Mdl N ρ/\ρ x=ρ y):=by
 constructor
 ·intro M;exact⟨M.unset hx (by rw[h]),(M.zkX hx).symm⟩
 ·intro M;exact M.1.set hx M.2.symm
structure SameR (N:List Nd) (td:List (Nat×Nat)) (r:Bool×List Nd):Prop where
 gr:Gr r.2
 len:r.2.length=N.length
 kd:∀n,knd r.2 n=knd N n
 ks:∀n,kds r.2 n=kds N n
 tt:r.1=true->∀ρ,Mdl r.2 ρ ↔ (Mdl N ρ/\∀p∈td,ρ p.1=ρ p.2)
 ff:r.1=false->∀ρ,Mdl N ρ->¬∀p∈td,ρ p.1=ρ p.2
theorem zkS:∀(f:Nat) {N:List Nd} {td:List (Nat×Nat)},Gr N->Ar N->(∀p∈td,p.1<N.length/\p.2<N.length)->3*rts N+td.length<=f->SameR N td (zkQ f N td):=by
 intro f
 induction f with
 |zero=>
  intro N td g ha ht hf
  obtain rfl:td=[]:=List.eq_nil_of_length_eq_zero (by omega)
  exact⟨g,rfl,fun _=>rfl,fun _=>rfl,fun _ ρ=>⟨fun h=>⟨h,fun p hp=>by cases hp⟩,fun h=>h.1⟩,fun h=>by cases h⟩
 |succ f ih=>
  intro N td g ha ht hf
  cases td with
  |nil=>exact⟨g,rfl,fun _=>rfl,fun _=>rfl,fun _ ρ=>⟨fun h=>⟨h,fun p hp=>by cases hp⟩,fun h=>h.1⟩,fun h=>by cases h⟩
  |cons p td=>
   obtain⟨a,b⟩:=p
   obtain⟨ha1,hb1⟩:=ht (a,b) (by simp)
   have ht':∀p∈td,p.1<N.length/\p.2<N.length:=fun p hp=>ht p (YAT _ hp)
   obtain⟨⟨d1,e1⟩,s1⟩:=zkK g ha1
   rw[zkQ]
   generalize hr1:zkJ N a=r1 at e1 s1⊢
   obtain⟨N1,x⟩:=r1
   simp only at e1 s1⊢
   have g1:=s1.gr g
   obtain⟨⟨d2,e2⟩,s2⟩:=zkK g1 (n:=b) (by rw[s1.len];exact hb1)
   generalize hr2:zkJ N1 b=r2 at e2 s2⊢
   obtain⟨N2,y⟩:=r2
   simp only at e2 s2⊢
   have s:=s1.trans s2
   have g2:=s2.gr g1
   have hx:x<N2.length:=by rw[s.len];exact g.zkO e1 ha1
   have hy:y<N2.length:=by rw[s2.len];exact g1.zkO e2 (by rw[s1.len];exact hb1)
   have lx:lnk N2 x=x:=(s.lk x (by rw[<-s.len];exact hx)).2 e1.root
   have ly:lnk N2 y=y:=(s2.lk y (by rw[<-s2.len];exact hy)).2 e2.root
   have hxa:∀ρ,Mdl N ρ->ρ x=ρ a/\ρ y=ρ b:=fun ρ M=>⟨M.rt g e1 ha1,((s1.md ρ g).2 M).rt g1 e2 (by rw[s1.len];exact hb1)⟩
   have hM:∀ρ,Mdl N2 ρ ↔ Mdl N ρ:=fun ρ=>s.md ρ g
   have a2:Ar N2:=fun n=>by rw[s.ks,s.kd];exact ha n
   have hrt:rts N2=rts N:=s.rts
   have t2:∀p∈td,p.1<N2.length/\p.2<N2.length:=fun p hp=>by rw[s.len];exact ht' p hp
   simp only[List.length_cons]at hf
   have hcons:∀ρ:Nat->T,(∀p∈(a,b)::td,ρ p.1=ρ p.2) ↔ (ρ a=ρ b/\∀p∈td,ρ p.1=ρ p.2):=fun ρ=>by simp
   by_cases hxy:x=y
   ·rw[if_pos hxy]
    have r:=ih g2 a2 t2 (by omega)
    refine⟨r.gr,by rw[r.len,s.len],fun n=>by rw[r.kd,s.kd],fun n=>by rw[r.ks,s.ks],fun h ρ=> ?_,fun h ρ M=> ?_⟩
    ·rw[r.tt h ρ,hM,hcons]
     constructor
     ·rintro⟨M,k⟩
      obtain⟨k1,k2⟩:=hxa ρ M
      exact⟨M,by rw[<-k1,<-k2,hxy],k⟩
     ·rintro⟨M,_,k⟩;exact⟨M,k⟩
    ·rw[hcons]
     exact fun k=>r.ff h ρ ((hM ρ).2 M) k.2
   ·rw[if_neg hxy]
    have J:∀(u v:Nat) (tn:List (Nat×Nat)),u<N2.length->v<N2.length->u≠v->lnk N2 u=u->lnk N2 v=v->(∀ρ,Mdl N ρ->(ρ u=ρ v ↔ ρ a=ρ b))->
     (∀p∈tn,p.1<N2.length/\p.2<N2.length)->tn.length<=2->(∀ρ,Mdl N ρ->ρ a=ρ b->∀p∈tn,ρ p.1=ρ p.2)->
     SameR N ((a,b)::td) (zkQ f (setL N2 u v) (tn++td)):=by
     intro u v tn hu hv huv lu lv hab htn hl hk
     have gj:=g2.join hu hv huv lu lv
     have hlen:(setL N2 u v).length=N2.length:=zkW _ _
     have r:=ih (td:=tn++td) gj (fun n=>by rw[zi2 hu,zi6 hu];exact a2 n)
      (fun p hp=>by rw[hlen];exact(List.mem_append.1 hp).elim (htn p) (t2 p))
      (by have:=zkP hu huv lu;rw[YAJ];omega)
     refine⟨r.gr,by rw[r.len,hlen,s.len],fun n=>by rw[r.kd,zi6 hu,s.kd],fun n=>by rw[r.ks,zi2 hu,s.ks],fun h ρ=> ?_,fun h ρ M=> ?_⟩
     ·rw[r.tt h ρ,Mdl.join hu lu,hM,hcons]
      constructor
      ·rintro⟨⟨M,k⟩,k2⟩
       exact⟨M,(hab ρ M).1 k,fun p hp=>k2 p (List.mem_append.2 (.inr hp))⟩
      ·rintro⟨M,k,k2⟩
       refine⟨⟨M,(hab ρ M).2 k⟩,fun p hp=> ?_⟩
       rcases List.mem_append.1 hp with h|h
       ·exact hk ρ M k p h
       ·exact k2 p h
     ·rw[hcons]
      rintro⟨k,k2⟩
      refine r.ff h ρ ((Mdl.join hu lu).2 ⟨(hM ρ).2 M,(hab ρ M).2 k⟩) fun p hp=> ?_
      rcases List.mem_append.1 hp with h|h
      ·exact hk ρ M k p h
      ·exact k2 p h
    have hab:∀ρ,Mdl N ρ->(ρ x=ρ y ↔ ρ a=ρ b):=fun ρ M=>by obtain⟨k1,k2⟩:=hxa ρ M;rw[k1,k2]
    by_cases hkx:knd N2 x=0
    ·rw[if_pos hkx]
     exact J x y [] hx hy hxy lx ly hab (fun p hp=>by cases hp) (by simp) (fun _ _ _ p hp=>by cases hp)
    ·rw[if_neg hkx]
     by_cases hky:knd N2 y=0
     ·rw[if_pos hky]
      exact J y x [] hy hx (Ne.symm hxy) ly lx (fun ρ M=>by rw[eq_comm,hab ρ M]) (fun p hp=>by cases hp) (by simp) (fun _ _ _ p hp=>by cases hp)
     ·rw[if_neg hky]
      have hsub:∀ρ,Mdl N ρ->ρ a=ρ b->knd N2 x=knd N2 y/\(kds N2 x).map ρ=(kds N2 y).map ρ:=fun ρ M k=>by
       have M2:=(hM ρ).2 M
       have e:=(hab ρ M).2 k
       obtain⟨k1,k2⟩:=M2.kd x hx hkx
       obtain⟨k3,k4⟩:=M2.kd y hy hky
       exact⟨by rw[<-k1,<-k3,e],by rw[<-k2,<-k4,e]⟩
      by_cases hk:knd N2 x≠knd N2 y
      ·rw[if_pos hk]
       refine⟨g2,s.len,s.kd,s.ks,fun h=>(by cases h),fun _ ρ M=> ?_⟩
       rw[hcons]
       exact fun k=>hk (hsub ρ M k.1).1
      ·rw[if_neg hk]
       refine J x y _ hx hy hxy lx ly hab (fun p hp=> ?_) ?_ (fun ρ M k p hp=> ?_)
       ·rw[List.mem_reverse]at hp
        have:=List.of_mem_zip (a:=p.1) (b:=p.2) hp
        exact⟨g2.kd x hx _ this.1,g2.kd y hy _ this.2⟩
       ·rw[List.length_reverse,List.length_zip,a2 x]
        have:=zhj (knd N2 x);omega
       ·rw[List.mem_reverse]at hp
        exact zjb (hsub ρ M k).2 p hp
end
section
section
variable {N : List Nd} {ρ ρ' : Nat -> T}
theorem Mdl.congr(g:Gr N)(M:Mdl N ρ)(h:∀j,j<N.length->ρ' j=ρ j):Mdl N ρ':=by
 refine⟨fun n hn=>by rw[h n hn];exact M.gr n hn,fun n hn=>by rw[h n hn,h _ (g.ln n hn)];exact M.ln n hn,fun n hn hk=> ?_⟩
 rw[h n hn]
 obtain⟨k1,k2⟩:=M.kd n hn hk
 refine⟨k1,by rw[k2];exact List.map_congr_left fun j hj=>(h j (g.kd n hn j hj)).symm⟩
def addN(N:List Nd)(k:Int)(ks:List Nat):List Nd:=N++ [(k,N.length,ks)]
theorem zhf(k:Int)(ks:List Nat):(addN N k ks).length=N.length+1:=by simp[addN]
theorem zhe{n:Nat}(hn:n<N.length)(k:Int)(ks:List Nat):(addN N k ks).getD n (0,n,[])=N.getD n (0,n,[]):=by
 simp[addN,YAG hn]
theorem zhg(k:Int)(ks:List Nat):(addN N k ks).getD N.length (0,N.length,[])=(k,N.length,ks):=by simp[addN]
theorem zhh{n:Nat}(hn:N.length+1<=n)(k:Int)(ks:List Nat):(addN N k ks).getD n (0,n,[])=N.getD n (0,n,[]):=by
 simp only[YAF]
 rw[YAR (by rw[zhf];exact hn),YAR (by omega)]
theorem zjQ{n:Nat}(hn:n<N.length)(k:Int)(ks:List Nat):lnk (addN N k ks) n=lnk N n:=by rw[lnk,zhe hn,lnk]
theorem zi5{n:Nat}(hn:n<N.length)(k:Int)(ks:List Nat):knd (addN N k ks) n=knd N n:=by rw[knd,zhe hn,knd]
theorem zi0{n:Nat}(hn:n<N.length)(k:Int)(ks:List Nat):kds (addN N k ks) n=kds N n:=by rw[kds,zhe hn,kds]
theorem Mdl.add(k:Int)(ks:List Nat):Mdl (addN N k ks) ρ ↔ (Mdl N ρ/\((ρ N.length).stat=true/\(ρ N.length).closed=true)/\(k≠0->(ρ N.length).kind=k/\(ρ N.length).sub=ks.map ρ)):=by
 have en:lnk (addN N k ks) N.length=N.length/\knd (addN N k ks) N.length=k/\kds (addN N k ks) N.length=ks:=by
  simp only[lnk,knd,kds,zhg,and_self]
 constructor
 ·intro M
  refine⟨⟨fun n hn=>M.gr n (by rw[zhf];omega),fun n hn=> ?_,fun n hn hk=> ?_⟩,M.gr _ (by rw[zhf];omega),fun hk=> ?_⟩
  ·have:=M.ln n (by rw[zhf];omega)
   rwa[zjQ hn]at this
  ·have:=M.kd n (by rw[zhf];omega) (by rwa[zi5 hn])
   rwa[zi5 hn,zi0 hn]at this
  ·have:=M.kd N.length (by rw[zhf];omega) (by rw[en.2.1];exact hk)
   rwa[en.2.1,en.2.2]at this
 ·rintro⟨M,hg,hk⟩
  refine⟨fun n hn=> ?_,fun n hn=> ?_,fun n hn h=> ?_⟩
  all_goals rw[zhf]at hn
  ·by_cases e:n=N.length
   ·rw[e];exact hg
   ·exact M.gr n (by omega)
  ·by_cases e:n=N.length
   ·rw[e,en.1]
   ·rw[zjQ (by omega)];exact M.ln n (by omega)
  ·by_cases e:n=N.length
   ·rw[e]at h⊢;rw[en.2.1]at h⊢;rw[en.2.2];exact hk h
   ·rw[zi5 (by omega)]at h⊢;rw[zi0 (by omega)];exact M.kd n (by omega) h
theorem Rt.add(g:Gr N)(k:Int)(ks:List Nat){d n r:Nat}(h:Rt N d n r)(hn:n<N.length):Rt (addN N k ks) d n r:=by
 induction h with
 |here h=>exact .here (by rw[zjQ hn];exact h)
 |step h1 _ ih=>exact .step (by rw[zjQ hn];exact h1) (by rw[zjQ hn];exact ih (g.ln _ hn))
theorem Gr.add(g:Gr N)(k:Int){ks:List Nat}(hk:∀j∈ks,j<N.length):Gr (addN N k ks):=by
 have en:lnk (addN N k ks) N.length=N.length/\kds (addN N k ks) N.length=ks:=by
  simp only[lnk,kds,zhg,and_self]
 refine⟨fun n hn=> ?_,fun n hn j hj=> ?_,fun n hn=> ?_⟩
 all_goals rw[zhf]at*
 ·by_cases e:n=N.length
  ·rw[e,en.1];omega
  ·rw[zjQ (by omega)];have:=g.ln n (by omega);omega
 ·by_cases e:n=N.length
  ·rw[e,en.2]at hj;have:=hk j hj;omega
  ·rw[zi0 (by omega)]at hj;have:=g.kd n (by omega) j hj;omega
 ·by_cases e:n=N.length
  ·exact⟨0,n,.here (by rw[e,en.1])⟩
  ·obtain⟨d,r,h⟩:=g.rt n (by omega)
   exact⟨d,r,h.add g k ks (by omega)⟩
theorem Ar.add(a:Ar N){k:Int}{ks:List Nat}(h:ks.length=ar k):Ar (addN N k ks):=by
 intro n
 by_cases e:n<N.length
 ·rw[zi0 e,zi5 e];exact a n
 ·by_cases e2:n=N.length
  ·subst e2;simp only[kds,knd,zhg];exact h
  ·simp only[kds,knd,zhh (N:=N) (n:=n) (by omega)];exact a n
end
def zjU:List (Int×Nat)->Int->Option Nat
 | [],_=>none
 |p::l,n=>if p.1=n then some p.2 else zjU l n
def putF:T->List Nd->List (Int×Nat)->List Nd×List (Int×Nat)×Nat
 | .dyn,N,M=>(addN N 0 [],M,N.length)
 | .var n,N,M=>match zjU M n with
  |some i=>(N,M,i)
  |none=>(addN N 0 [],M++ [(n,N.length)],N.length)
 | .base k,N,M=>(addN N (k.val+1) [],M,N.length)
 | .list a,N,M=>
  let r:=putF a N M
  (addN r.1 8 [r.2.2],r.2.1,r.1.length)
 | .pair a b,N,M=>
  let r:=putF a N M
  let q:=putF b r.1 r.2.1
  (addN q.1 7 [r.2.2,q.2.2],q.2.1,q.1.length)
 | .fn a b,N,M=>
  let r:=putF a N M
  let q:=putF b r.1 r.2.1
  (addN q.1 9 [r.2.2,q.2.2],q.2.1,q.1.length)
end
section
theorem zh0:∀(b a:T),b.stat=true->zDd a b=true->a=b:=by
 intro b
 induction b with
 |dyn=>intro a h;cases h
 |base k=>intro a _ h;cases a<;>simp_all [zDd]
 |var n=>intro a _ h;cases a<;>simp_all [zDd]
 |pair b b' i1 i2=>
  intro a hs h
  simp only[T.stat,YAA]at hs
  cases a<;>simp only[zDd,YAA,YAB]at h
  rw[i1 _ hs.1 h.1,i2 _ hs.2 h.2]
 |fn b b' i1 i2=>
  intro a hs h
  simp only[T.stat,YAA]at hs
  cases a<;>simp only[zDd,YAA,YAB]at h
  rw[i1 _ hs.1 h.1,i2 _ hs.2 h.2]
 |list b i1=>
  intro a hs h
  simp only[T.stat]at hs
  cases a<;>simp only[zDd,YAB]at h
  rw[i1 _ hs h]
theorem zhz:∀a:T,zDd a a=true:=by
 intro a
 induction a<;>simp_all [zDd]
def Gnd(g:T):Prop:=g.stat=true/\g.closed=true
structure PutR (t:T) (N:List Nd) (M:List (Int×Nat)) (r:List Nd×List (Int×Nat)×Nat):Prop where
 gr:Gr r.1
 ar:Ar r.1
 mm:∀n i,zjU r.2.1 n=some i->i<r.1.length
 ix:r.2.2<r.1.length
 le:N.length<=r.1.length
 up:r.1.length<=N.length+t.size
 ex:∀n i,zjU M n=some i->zjU r.2.1 n=some i
 dn:∀ρ,Mdl r.1 ρ->Mdl N ρ
 so:∀ρ σ,Mdl r.1 ρ->(∀n i,zjU r.2.1 n=some i->σ n=ρ i)->zDd (ρ r.2.2) (putS σ t)=true
 co:∀ρ σ g,Mdl N ρ->(∀n,Gnd (σ n))->(∀n i,zjU M n=some i->σ n=ρ i)->Gnd g->zDd g (putS σ t)=true->
  ∃ρ',(∀j,j<N.length->ρ' j=ρ j)/\Mdl r.1 ρ'/\ρ' r.2.2=g/\∀n i,zjU r.2.1 n=some i->σ n=ρ' i
theorem zjV(M L:List (Int×Nat))(n:Int):zjU (M++L) n=(zjU M n).or (zjU L n):=by
 induction M with
 |nil=>simp[zjU]
 |cons p M ih=>simp only[List.cons_append,zjU];split<;>simp[ih]
section
variable {N : List Nd} {M : List (Int × Nat)}
def updR(ρ:Nat->T)(n:Nat)(g:T)(j:Nat):T:=if j=n then g else ρ j
theorem zlL(ρ:Nat->T)(n:Nat)(g:T):updR ρ n g n=g:=if_pos rfl
theorem zlM(ρ:Nat->T){n j:Nat}(h:j<n)(g:T):updR ρ n g j=ρ j:=if_neg (by omega)
theorem zhi(g:Gr N){ρ:Nat->T}(Mo:Mdl N ρ){k:Int}{ks:List Nat}(hk:∀j∈ks,j<N.length){v:T}(hv:Gnd v)(h:k≠0->v.kind=k/\v.sub=ks.map ρ):Mdl (addN N k ks) (updR ρ N.length v):=by
 refine(Mdl.add k ks).2 ⟨Mo.congr g fun j hj=>zlM ρ hj v,by rw[zlL];exact hv,fun h0=> ?_⟩
 rw[zlL]
 obtain⟨h1,h2⟩:=h h0
 exact⟨h1,by rw[h2];exact List.map_congr_left fun j hj=>(zlM ρ (hk j hj) v).symm⟩
theorem zkH(g:Gr N)(a:Ar N)(hM:∀n i,zjU M n=some i->i<N.length)(t:T)(k:Int)(h0:ar k=0)(hs:t.size=1)
 (h1:∀ρ:Nat->T,∀v σ,Gnd v->(k≠0->v.kind=k/\v.sub=[])->zDd v (putS σ t)=true)
 (h2:∀σ v,zDd v (putS σ t)=true->k≠0->v.kind=k/\v.sub=[]):PutR t N M (addN N k [],M,N.length):=by
 refine⟨g.add k (fun j hj=>by cases hj),a.add (by rw[h0];rfl),fun n i h=>by have:=hM n i h;rw[zhf];omega,by simp only[zhf];omega,by simp only[zhf];omega,by simp only[zhf];omega,fun _ _ h=>h,fun ρ Mo=>((Mdl.add k []).1 Mo).1,fun ρ σ Mo _=> ?_,fun ρ σ v Mo hσ hm hv hb=> ?_⟩
 ·obtain⟨_,h3,h4⟩:=(Mdl.add k []).1 Mo
  exact h1 ρ _ σ h3 (fun h=>by have:=h4 h;exact this)
 ·refine⟨updR ρ N.length v,fun j hj=>zlM ρ hj v,zhi g Mo (fun j hj=>by cases hj) hv (fun h=>h2 σ v hb h),zlL _ _ _,fun n i h=> ?_⟩
  rw[zlM ρ (hM n i h)];exact hm n i h
end
end
section
structure Bin (k:Int) (c:T->T->T):Prop where
 kd:∀x y,(c x y).kind=k
 sb:∀x y,(c x y).sub=[x,y]
 gd:∀x y,Gnd (c x y) ↔ (Gnd x/\Gnd y)
 bw:∀x y x' y',zDd (c x y) (c x' y')=true ↔ (zDd x x'=true/\zDd y y'=true)
 bi:∀v x y,zDd v (c x y)=true->∃v1 v2,v=c v1 v2
 ki:∀v:T,v.kind=k->∃v1 v2,v=c v1 v2
 ps:∀σ x y,putS σ (c x y)=c (putS σ x) (putS σ y)
 sz:∀x y,(c x y).size=x.size+y.size+1
 a2:ar k=2
 k0:k≠0
theorem zh4:Bin 7 .pair:=by
 refine⟨fun _ _=>rfl,fun _ _=>rfl,fun x y=> ?_,fun _ _ _ _=> ?_,fun v x y h=> ?_,fun v h=> ?_,fun _ _ _=>rfl,fun _ _=>rfl,rfl,by decide⟩
 ·simp only[Gnd,T.stat,T.closed,YAA]
  exact⟨fun h=>⟨⟨h.1.1,h.2.1⟩,⟨h.1.2,h.2.2⟩⟩,fun h=>⟨⟨h.1.1,h.2.1⟩,⟨h.1.2,h.2.2⟩⟩⟩
 ·simp only[zDd,YAA]
 ·cases v<;>simp only[zDd,YAB]at h
  exact⟨_,_,rfl⟩
 ·cases v<;>simp only[T.kind]at h<;>first|omega|exact⟨_,_,rfl⟩
theorem zh3:Bin 9 .fn:=by
 refine⟨fun _ _=>rfl,fun _ _=>rfl,fun x y=> ?_,fun _ _ _ _=> ?_,fun v x y h=> ?_,fun v h=> ?_,fun _ _ _=>rfl,fun _ _=>rfl,rfl,by decide⟩
 ·simp only[Gnd,T.stat,T.closed,YAA]
  exact⟨fun h=>⟨⟨h.1.1,h.2.1⟩,⟨h.1.2,h.2.2⟩⟩,fun h=>⟨⟨h.1.1,h.2.1⟩,⟨h.1.2,h.2.2⟩⟩⟩
 ·simp only[zDd,YAA]
 ·cases v<;>simp only[zDd,YAB]at h
  exact⟨_,_,rfl⟩
 ·cases v<;>simp only[T.kind]at h<;>first|omega|exact⟨_,_,rfl⟩
theorem zkB{k:Int}{c:T->T->T}(B:Bin k c){a b:T}{N:List Nd}{M:List (Int×Nat)}{r q:List Nd×List (Int×Nat)×Nat}(R:PutR a N M r)(Q:PutR b r.1 r.2.1 q):
 PutR (c a b) N M (addN q.1 k [r.2.2,q.2.2],q.2.1,q.1.length):=by
 have i1:r.2.2<q.1.length:=YAW R.ix Q.le
 have hin:∀j∈[r.2.2,q.2.2],j<q.1.length:=by
  intro j hj
  simp only[List.mem_cons,List.not_mem_nil,or_false]at hj
  rcases hj with rfl|rfl
  ·exact i1
  ·exact Q.ix
 refine⟨Q.gr.add k hin,Q.ar.add (by rw[B.a2];rfl),fun n i h=>by have:=Q.mm n i h;rw[zhf];omega,by simp only[zhf];omega,by have:=R.le;have:=Q.le;simp only[zhf];omega,
  by have:=R.up;have:=Q.up;rw[B.sz];simp only[zhf];omega,fun n i h=>Q.ex n i (R.ex n i h),fun ρ Mo=>R.dn ρ (Q.dn ρ ((Mdl.add k _).1 Mo).1),fun ρ σ Mo hm=> ?_,fun ρ σ v Mo hσ hm hv hb=> ?_⟩
 ·obtain⟨M2,hg,hk⟩:=(Mdl.add k _).1 Mo
  obtain⟨h1,h2⟩:=hk B.k0
  obtain⟨v1,v2,e⟩:=B.ki _ h1
  rw[e,B.sb]at h2
  simp only[List.map_cons,List.map_nil,List.cons.injEq,and_true]at h2
  simp only
  rw[e,B.ps,B.bw,h2.1,h2.2]
  exact⟨R.so ρ σ (Q.dn ρ M2) fun n i h=>hm n i (Q.ex n i h),Q.so ρ σ M2 hm⟩
 ·rw[B.ps]at hb
  obtain⟨v1,v2,rfl⟩:=B.bi _ _ _ hb
  rw[B.bw]at hb
  obtain⟨g1,g2⟩:=(B.gd _ _).1 hv
  obtain⟨ρ1,e1,M1,x1,m1⟩:=R.co ρ σ v1 Mo hσ hm g1 hb.1
  obtain⟨ρ2,e2,M2,x2,m2⟩:=Q.co ρ1 σ v2 M1 hσ m1 g2 hb.2
  refine⟨updR ρ2 q.1.length (c v1 v2),fun j hj=> ?_,zhi Q.gr M2 hin hv fun _=>⟨B.kd _ _,?_⟩,zlL _ _ _,fun n i h=> ?_⟩
  ·have h1:=R.le;have h2:=Q.le
   rw[zlM _ (by omega),e2 j (by omega),e1 j hj]
  ·rw[B.sb];simp only[List.map_cons,List.map_nil]
   rw[x2,e2 _ R.ix,x1]
  ·rw[zlM _ (Q.mm n i h)];exact m2 n i h
theorem zkA{a:T}{N:List Nd}{M:List (Int×Nat)}{r:List Nd×List (Int×Nat)×Nat}(R:PutR a N M r):
 PutR (.list a) N M (addN r.1 8 [r.2.2],r.2.1,r.1.length):=by
 have hin:∀j∈[r.2.2],j<r.1.length:=by
  intro j hj
  simp only[List.mem_cons,List.not_mem_nil,or_false]at hj
  rw[hj];exact R.ix
 refine⟨R.gr.add 8 hin,R.ar.add rfl,fun n i h=>by have:=R.mm n i h;rw[zhf];omega,by simp only[zhf];omega,by have:=R.le;simp only[zhf];omega,
  by have:=R.up;simp only[zhf,T.size];omega,R.ex,fun ρ Mo=>R.dn ρ ((Mdl.add 8 _).1 Mo).1,fun ρ σ Mo hm=> ?_,fun ρ σ v Mo hσ hm hv hb=> ?_⟩
 ·obtain⟨M2,hg,hk⟩:=(Mdl.add 8 _).1 Mo
  obtain⟨h1,h2⟩:=hk (by decide)
  simp only
  have:∃v1,ρ r.1.length= .list v1:=by
   generalize ρ r.1.length=v at h1
   cases v<;>simp only[T.kind]at h1<;>first|omega|exact⟨_,rfl⟩
  obtain⟨v1,e⟩:=this
  rw[e]at h2⊢
  simp only[T.sub,List.map_cons,List.map_nil,List.cons.injEq,and_true]at h2
  simp only[putS,zDd]
  rw[h2]
  exact R.so ρ σ M2 hm
 ·simp only[putS]at hb
  have:∃v1,v= .list v1:=by
   cases v<;>simp only[zDd,YAB]at hb
   exact⟨_,rfl⟩
  obtain⟨v1,rfl⟩:=this
  simp only[zDd]at hb
  obtain⟨ρ1,e1,M1,x1,m1⟩:=R.co ρ σ v1 Mo hσ hm hv hb
  refine⟨updR ρ1 r.1.length (.list v1),fun j hj=> ?_,zhi R.gr M1 hin hv fun _=>⟨rfl,?_⟩,zlL _ _ _,fun n i h=> ?_⟩
  ·have h1:=R.le
   rw[zlM _ (by omega),e1 j hj]
  ·simp only[T.sub,List.map_cons,List.map_nil];rw[x1]
  ·rw[zlM _ (R.mm n i h)];exact m1 n i h
theorem zj9:∀(t:T) {N:List Nd} {M:List (Int×Nat)},Gr N->Ar N->(∀n i,zjU M n=some i->i<N.length)->PutR t N M (putF t N M):=by
 intro t
 induction t with
 |dyn=>
  intro N M g a hM
  exact zkH g a hM .dyn 0 rfl rfl (fun _ v σ _ _=>by cases v<;>rfl) (fun _ _ _ h=>absurd rfl h)
 |base b=>
  intro N M g a hM
  refine zkH g a hM (.base b) (b.val+1) (by match b with|0|1|2|3=>rfl) rfl (fun _ v σ hv h=> ?_) (fun σ v h _=> ?_)
  ·have h1:=(h (by omega)).1
   have:=b.isLt
   cases v<;>simp only[T.kind]at h1<;>first|omega|skip
   rename_i k'
   have e:k'=b:=Fin.ext (by omega)
   simp only[putS,zDd,e,decide_true]
  ·simp only[putS]at h
   cases v<;>simp only[zDd,YAB,YAa]at h
   subst h
   exact⟨rfl,rfl⟩
 |var n=>
  intro N M g a hM
  rw[putF]
  cases h:zjU M n with
  |some i=>
   simp only
   refine⟨g,a,hM,hM n i h,YAV _,Nat.le_add_right _ _,fun _ _ h=>h,fun _ h=>h,fun ρ σ Mo hm=> ?_,fun ρ σ v Mo hσ hm hv hb=>⟨ρ,fun _ _=>rfl,Mo,?_,hm⟩⟩
   ·simp only[putS];rw[hm n i h];exact zhz _
   ·simp only[putS]at hb;rw[zh0 _ _ (hσ n).1 hb,hm n i h]
  |none=>
   simp only
   have hl:∀m i,zjU (M++ [(n,N.length)]) m=some i->zjU M m=some i\/(m=n/\i=N.length):=by
    intro m i hmi
    rw[zjV]at hmi
    cases hh:zjU M m with
    |some j=>rw[hh]at hmi;exact .inl (by simpa using hmi)
    |none=>
     rw[hh]at hmi
     simp only[Option.none_or,zjU]at hmi
     split at hmi
     ·rename_i e;exact .inr ⟨e.symm,by simpa using hmi.symm⟩
     ·cases hmi
   have hnew:zjU (M++ [(n,N.length)]) n=some N.length:=by rw[zjV,h];simp[zjU]
   refine⟨g.add 0 (fun j hj=>by cases hj),a.add rfl,fun m i hm=> ?_,by simp only[zhf];omega,by simp only[zhf];omega,by simp only[zhf,T.size];omega,fun m i hm=>by simp only[zjV,hm,Option.some_or],fun ρ Mo=>((Mdl.add 0 []).1 Mo).1,fun ρ σ Mo hm=> ?_,fun ρ σ v Mo hσ hm hv hb=> ?_⟩
   ·simp only[zhf]
    rcases hl m i hm with h1|⟨_,rfl⟩
    ·have:=hM m i h1;omega
    ·omega
   ·simp only[putS];rw[hm n _ hnew];exact zhz _
   ·refine⟨updR ρ N.length v,fun j hj=>zlM ρ hj v,zhi g Mo (fun j hj=>by cases hj) hv (fun h0=>absurd rfl h0),zlL _ _ _,fun m i hmi=> ?_⟩
    rcases hl m i hmi with h1|⟨rfl,rfl⟩
    ·rw[zlM ρ (hM m i h1)];exact hm m i h1
    ·simp only[putS]at hb;rw[zlL,zh0 _ _ (hσ m).1 hb]
 |pair x y ih1 ih2=>
  intro N M g a hM
  have R:=ih1 g a hM
  exact zkB zh4 R (ih2 R.gr R.ar R.mm)
 |fn x y ih1 ih2=>
  intro N M g a hM
  have R:=ih1 g a hM
  exact zkB zh3 R (ih2 R.gr R.ar R.mm)
 |list x ih1=>
  intro N M g a hM
  exact zkA (ih1 g a hM)
end
end Go.Proofs.Ytmpegnogdgbleaa
