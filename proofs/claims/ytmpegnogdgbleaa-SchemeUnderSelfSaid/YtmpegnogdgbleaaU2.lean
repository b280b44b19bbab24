/- Layer 11: root and same on graphs. Plain; no condition. -/
import Derived.Test.YtmpegnogdgbleaaU1
set_option linter.unusedSimpArgs false
set_option linter.unusedVariables false
namespace Go.Proofs.Ytmpegnogdgbleaa
open Go Go.Ab
structure Sm (N N':List Nd):Prop where
 gr:Gr N->Gr N'
 len:N'.length=N.length
 kd:∀n,knd N' n=knd N n
 ks:∀n,kds N' n=kds N n
 md:∀ρ,Gr N->(Mdl N' ρ ↔ Mdl N ρ)
 rt:∀e m s,Rt N e m s->∃e',e'<=e/\Rt N' e' m s
 lk:∀n,n<N.length->(lnk N' n=n ↔ lnk N n=n)
theorem Sm.refl(N:List Nd):Sm N N:=⟨id,rfl,fun _=>rfl,fun _=>rfl,fun _ _=>Iff.rfl,fun e _ _ h=>⟨e,YAV _,h⟩,fun _ _=>Iff.rfl⟩
theorem Sm.trans{N N1 N2:List Nd}(h:Sm N N1)(k:Sm N1 N2):Sm N N2:=by
 refine⟨fun g=>k.gr (h.gr g),by rw[k.len,h.len],fun n=>by rw[k.kd,h.kd],fun n=>by rw[k.ks,h.ks],fun ρ g=>(k.md ρ (h.gr g)).trans (h.md ρ g),fun e m s r=> ?_,fun n hn=>(k.lk n (by rw[h.len];exact hn)).trans (h.lk n hn)⟩
 obtain⟨e1,h1,r1⟩:=h.rt e m s r
 obtain⟨e2,h2,r2⟩:=k.rt e1 m s r1
 exact⟨e2,by omega,r2⟩
theorem Sm.halve{N:List Nd}(g:Gr N){n:Nat}(hn:n<N.length):Sm N (setL N n (lnk N (lnk N n))):=by
 refine⟨fun _=>g.halve hn,zkW _ _,zi6 hn _,zi2 hn _,fun ρ _=>Mdl.halve g hn,fun e m s h=>Rt.halve hn e h,fun j hj=> ?_⟩
 rw[zjR hn]
 by_cases e:j=n
 ·rw[if_pos e,e]
  constructor
  ·intro h
   obtain⟨d,r,k⟩:=g.rt n hn
   cases k with
   |here k=>exact k
   |step k1 k2=>
    cases k2 with
    |here k3=>rw[k3]at h;exact absurd h k1
    |step k3 k4=>
     have:=(k4.one (r':=r) (d':=_) (by rw[h];exact Rt.step k1 (Rt.step k3 k4))).1
     omega
  ·intro h;rw[h,h]
 ·rw[if_neg e]
def zUD:Nat->List Nd->Nat->List Nd×Nat
 |0,N,n=>(N,n)
 |f+1,N,n=>if lnk N n=n then(N,n)else zUD f (setL N n (lnk N (lnk N n))) (lnk N (lnk N n))
theorem zkL:∀(f:Nat) {N:List Nd} {n d r:Nat},Gr N->n<N.length->Rt N d n r->d<=f->(zUD f N n).2=r/\Sm N (zUD f N n).1:=by
 intro f
 induction f with
 |zero=>
  intro N n d r g hn h hd
  obtain rfl:d=0:=by omega
  cases h with
  |here h=>exact⟨rfl,Sm.refl _⟩
 |succ f ih=>
  intro N n d r g hn h hd
  rw[zUD]
  cases h with
  |here h=>rw[if_pos h];exact⟨rfl,Sm.refl _⟩
  |step h1 h2=>
   rw[if_neg h1]
   have s:=Sm.halve g hn
   have g':=s.gr g
   have hl:lnk N (lnk N n)<(setL N n (lnk N (lnk N n))).length:=by rw[s.len];exact g.ln _ (g.ln _ hn)
   have key:∃d',d'<=f/\Rt (setL N n (lnk N (lnk N n))) d' (lnk N (lnk N n)) r:=by
    cases h2 with
    |here h3=>
     obtain⟨e,he,k⟩:=s.rt _ _ _ (Rt.here h3)
     exact⟨e,by omega,by rw[h3]at k⊢;exact k⟩
    |step h3 h4=>
     obtain⟨e,he,k⟩:=s.rt _ _ _ h4
     exact⟨e,by omega,k⟩
   obtain⟨d',h5,h6⟩:=key
   obtain⟨k1,k2⟩:=ih g' hl h6 h5
   exact⟨k1,s.trans k2⟩
def rts(N:List Nd):Nat:=((List.range N.length).filter fun n=>decide (lnk N n=n)).length
theorem Sm.rts{N N':List Nd}(s:Sm N N'):rts N'=rts N:=by
 unfold Go.Proofs.Ytmpegnogdgbleaa.rts
 rw[s.len]
 congr 1
 apply List.filter_congr
 intro n hn
 rw[decide_eq_decide]
 exact s.lk n (List.mem_range.1 hn)
theorem ziP{α:Type}(p q:α->Bool)(a:α):∀(l:List α),(∀x∈l,q x=true->p x=true)->a∈l->p a=true->q a=false->(l.filter q).length<(l.filter p).length:=by
 intro l
 induction l with
 |nil=>intro _ h;cases h
 |cons x l ih=>
  intro h hm hp hq
  have hle:(l.filter q).length<=(l.filter p).length:=by
   clear ih hm
   induction l with
   |nil=>exact YAV _
   |cons y l ih2=>
    have h2:=ih2 (fun z hz=>h z (by rcases List.mem_cons.1 hz with rfl|hz<;>simp_all))
    have h3:=h y (by simp)
    simp only[List.filter_cons]
    cases hqy:q y
    ·cases hpy:p y<;>simp<;>omega
    ·rw[h3 hqy];simp;omega
  rcases List.mem_cons.1 hm with rfl|hm
  ·simp only[List.filter_cons,hp,hq];simp;omega
  ·have:=ih (fun z hz=>h z (YAT _ hz)) hm hp hq
   have h3:=h x (by simp)
   simp only[List.filter_cons]
   cases hqx:q x
   ·cases hpx:p x<;>simp<;>omega
   ·rw[h3 hqx];simp;omega
theorem zkP{N:List Nd}{x y:Nat}(hx:x<N.length)(hxy:x≠y)(h1:lnk N x=x):rts (setL N x y)<rts N:=by
 unfold rts
 rw[zkW]
 refine ziP _ _ x _ (fun n _ h=> ?_) (List.mem_range.2 hx) (decide_eq_true h1) ?_
 ·have h:=of_decide_eq_true h
  rw[zjR hx]at h
  split at h
  ·rename_i e;exact absurd (h.symm▸e).symm hxy
  ·exact decide_eq_true h
 ·rw[decide_eq_false_iff_not,zjR hx,if_pos rfl];exact hxy.symm
end Go.Proofs.Ytmpegnogdgbleaa
