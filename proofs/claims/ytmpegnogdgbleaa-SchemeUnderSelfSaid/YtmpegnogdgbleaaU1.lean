/- Layer 11: graphs of nodes: links, roots, models. Plain; no condition. -/
import Derived.Test.YtmpegnogdgbleaaEM
set_option linter.unusedSimpArgs false
set_option linter.unusedVariables false
namespace Go.Proofs.Ytmpegnogdgbleaa
open Go Go.Ab
def T.sub:T->List T
 | .pair a b=> [a,b]
 | .list a=> [a]
 | .fn a b=> [a,b]
 |_=> []
abbrev Nd:=Int×Nat×List Nat
def knd(N:List Nd)(n:Nat):Int:=(N.getD n (0,n,[])).1
def lnk(N:List Nd)(n:Nat):Nat:=(N.getD n (0,n,[])).2.1
def kds(N:List Nd)(n:Nat):List Nat:=(N.getD n (0,n,[])).2.2
def setL(N:List Nd)(n m:Nat):List Nd:=N.set n (knd N n,m,kds N n)
section
variable {N : List Nd}
theorem zkW(n m:Nat):(setL N n m).length=N.length:=by simp[setL]
theorem zkV{n:Nat}(hn:n<N.length)(m j:Nat):(setL N n m).getD j (0,j,[])=if j=n then(knd N n,m,kds N n)else N.getD j (0,j,[]):=by
 unfold setL
 by_cases h:j=n
 ·subst h;simp[hn]
 ·rw[if_neg h]
  simp only[YAF]
  rw[List.getElem?_set_ne (by omega)]
theorem zjR{n:Nat}(hn:n<N.length)(m j:Nat):lnk (setL N n m) j=if j=n then m else lnk N j:=by
 unfold lnk;rw[zkV hn];split<;>rfl
theorem zi6{n:Nat}(hn:n<N.length)(m j:Nat):knd (setL N n m) j=knd N j:=by
 rw[knd,zkV hn]
 split
 ·rename_i h;rw[h]
 ·rfl
theorem zi2{n:Nat}(hn:n<N.length)(m j:Nat):kds (setL N n m) j=kds N j:=by
 rw[kds,zkV hn]
 split
 ·rename_i h;rw[h]
 ·rfl
end
inductive Rt (N:List Nd):Nat->Nat->Nat->Prop
 |here {n:Nat}:lnk N n=n->Rt N 0 n n
 |step {d n r:Nat}:lnk N n≠n->Rt N d (lnk N n) r->Rt N (d+1) n r
section
variable {N : List Nd}
theorem Rt.root{d n r:Nat}(h:Rt N d n r):lnk N r=r:=by
 induction h with
 |here h=>exact h
 |step _ _ ih=>exact ih
theorem Rt.one{d n r:Nat}(h:Rt N d n r):∀ {d' r':Nat},Rt N d' n r'->d=d'/\r=r':=by
 induction h with
 |here h=>
  intro d' r' k
  cases k with
  |here _=>exact⟨rfl,rfl⟩
  |step h1 _=>exact absurd h h1
 |step h _ ih=>
  intro d' r' k
  cases k with
  |here h1=>exact absurd h1 h
  |step _ h2=>obtain⟨rfl,rfl⟩:=ih h2;exact⟨rfl,rfl⟩
theorem Rt.halve{n:Nat}(hn:n<N.length):∀(e:Nat) {m s:Nat},Rt N e m s->∃e',e'<=e/\Rt (setL N n (lnk N (lnk N n))) e' m s:=by
 intro e
 induction e using Nat.strongRecOn with
 |_ e ih=>
  intro m s h
  by_cases hm:m=n
  ·subst hm
   cases h with
   |here h=>exact⟨0,YAV _,.here (by rw[zjR hn,if_pos rfl,h,h])⟩
   |step h1 h2=>
    rename_i d
    cases h2 with
    |here h3=>
     obtain⟨e',he,k⟩:=ih 0 (by omega) (Rt.here h3)
     refine⟨e'+1,by omega,.step ?_ ?_⟩
     ·rw[zjR hn,if_pos rfl,h3];exact h1
     ·rw[zjR hn,if_pos rfl];rw[h3]at k⊢;exact k
    |step h3 h4=>
     rename_i d
     obtain⟨e',he,k⟩:=ih d (by omega) h4
     refine⟨e'+1,by omega,.step ?_ ?_⟩
     ·rw[zjR hn,if_pos rfl]
      intro e0
      rw[e0]at h4
      have:=(h4.one (Rt.step h1 (Rt.step h3 (by rw[e0];exact h4)))).1
      omega
     ·rw[zjR hn,if_pos rfl];exact k
  ·cases h with
   |here h=>exact⟨0,YAV _,.here (by rw[zjR hn,if_neg hm];exact h)⟩
   |step h1 h2=>
    rename_i d
    obtain⟨e',he,k⟩:=ih d (by omega) h2
    exact⟨e'+1,by omega,.step (by rw[zjR hn,if_neg hm];exact h1) (by rw[zjR hn,if_neg hm];exact k)⟩
theorem Rt.join{x y:Nat}(hx:x<N.length)(hxy:x≠y)(h1:lnk N x=x)(h2:lnk N y=y){e m s:Nat}(h:Rt N e m s):∃e',Rt (setL N x y) e' m (if s=x then y else s):=by
 induction h with
 |here h=>
  rename_i n
  by_cases hn:n=x
  ·rw[if_pos hn]
   refine⟨1,.step (by rw[zjR hx,if_pos hn,hn];exact hxy.symm) ?_⟩
   rw[zjR hx,if_pos hn]
   exact .here (by rw[zjR hx,if_neg hxy.symm];exact h2)
  ·rw[if_neg hn]
   exact⟨0,.here (by rw[zjR hx,if_neg hn];exact h)⟩
 |step h3 h4 ih=>
  rename_i d n r
  obtain⟨e',k⟩:=ih
  have hn:n≠x:=fun e=>h3 (by rw[e];exact h1)
  exact⟨e'+1,.step (by rw[zjR hx,if_neg hn];exact h3) (by rw[zjR hx,if_neg hn];exact k)⟩
end
structure Mdl (N:List Nd) (ρ:Nat->T):Prop where
 gr:∀n,n<N.length->(ρ n).stat=true/\(ρ n).closed=true
 ln:∀n,n<N.length->ρ (lnk N n)=ρ n
 kd:∀n,n<N.length->knd N n≠0->(ρ n).kind=knd N n/\(ρ n).sub=(kds N n).map ρ
structure Gr (N:List Nd):Prop where
 ln:∀n,n<N.length->lnk N n<N.length
 kd:∀n,n<N.length->∀k∈kds N n,k<N.length
 rt:∀n,n<N.length->∃d r,Rt N d n r
section
variable {N : List Nd} {ρ : Nat -> T}
theorem Gr.zkO(g:Gr N){d n r:Nat}(h:Rt N d n r)(hn:n<N.length):r<N.length:=by
 induction h with
 |here _=>exact hn
 |step _ _ ih=>exact ih (g.ln _ hn)
theorem Mdl.rt(g:Gr N)(M:Mdl N ρ){d n r:Nat}(h:Rt N d n r)(hn:n<N.length):ρ r=ρ n:=by
 induction h with
 |here _=>rfl
 |step _ _ ih=>rw[ih (g.ln _ hn)];exact M.ln _ hn
theorem Mdl.set(M:Mdl N ρ){n p:Nat}(hn:n<N.length)(h:ρ p=ρ n):Mdl (setL N n p) ρ:=by
 refine⟨fun j hj=>M.gr j (by rwa[zkW]at hj),fun j hj=> ?_,fun j hj hk=> ?_⟩
 ·rw[zkW]at hj
  rw[zjR hn]
  split
  ·rename_i e;rw[e];exact h
  ·exact M.ln j hj
 ·rw[zkW]at hj
  rw[zi6 hn]at hk⊢
  rw[zi2 hn]
  exact M.kd j hj hk
theorem Mdl.unset{n p:Nat}(M:Mdl (setL N n p) ρ)(hn:n<N.length)(h:ρ (lnk N n)=ρ n):Mdl N ρ:=by
 refine⟨fun j hj=>M.gr j (by rwa[zkW]),fun j hj=> ?_,fun j hj hk=> ?_⟩
 ·by_cases e:j=n
  ·rw[e];exact h
  ·have:=M.ln j (by rwa[zkW])
   rwa[zjR hn,if_neg e]at this
 ·have:=M.kd j (by rwa[zkW]) (by rwa[zi6 hn])
  rwa[zi6 hn,zi2 hn]at this
theorem Mdl.zkX{n p:Nat}(M:Mdl (setL N n p) ρ)(hn:n<N.length):ρ p=ρ n:=by
 have:=M.ln n (by rwa[zkW])
 rwa[zjR hn,if_pos rfl]at this
theorem Mdl.halve(g:Gr N){n:Nat}(hn:n<N.length):Mdl (setL N n (lnk N (lnk N n))) ρ ↔ Mdl N ρ:=by
 constructor
 ·intro M
  refine M.unset hn ?_
  by_cases e:lnk N n=n
  ·rw[e]
  ·have h1:=M.zkX hn
   have h2:=M.ln (lnk N n) (by rw[zkW];exact g.ln n hn)
   rw[zjR hn,if_neg e]at h2
   rw[<-h2,h1]
 ·intro M
  exact M.set hn (by rw[M.ln _ (g.ln n hn),M.ln n hn])
theorem Gr.halve(g:Gr N){n:Nat}(hn:n<N.length):Gr (setL N n (lnk N (lnk N n))):=by
 refine⟨fun j hj=> ?_,fun j hj=> ?_,fun j hj=> ?_⟩
 ·rw[zkW]at hj⊢
  rw[zjR hn]
  split
  ·exact g.ln _ (g.ln _ hn)
  ·exact g.ln _ hj
 ·rw[zkW]at hj⊢
  rw[zi2 hn];exact g.kd j hj
 ·rw[zkW]at hj
  obtain⟨d,r,h⟩:=g.rt j hj
  obtain⟨e,_,k⟩:=Rt.halve hn d h
  exact⟨e,r,k⟩
theorem Gr.join(g:Gr N){x y:Nat}(hx:x<N.length)(hy:y<N.length)(hxy:x≠y)(h1:lnk N x=x)(h2:lnk N y=y):Gr (setL N x y):=by
 refine⟨fun j hj=> ?_,fun j hj=> ?_,fun j hj=> ?_⟩
 ·rw[zkW]at hj⊢
  rw[zjR hx]
  split
  ·exact hy
  ·exact g.ln _ hj
 ·rw[zkW]at hj⊢
  rw[zi2 hx];exact g.kd j hj
 ·rw[zkW]at hj
  obtain⟨d,r,h⟩:=g.rt j hj
  obtain⟨e,k⟩:=Rt.join hx hxy h1 h2 h
  exact⟨e,_,k⟩
end
end Go.Proofs.Ytmpegnogdgbleaa
