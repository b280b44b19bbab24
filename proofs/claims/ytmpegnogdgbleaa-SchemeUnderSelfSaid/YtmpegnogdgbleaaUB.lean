/- Layer 11: what was joined has equal kinds and kids. Plain; no condition. -/
import Derived.Test.YtmpegnogdgbleaaUA
set_option linter.unusedSimpArgs false
set_option linter.unusedVariables false
namespace Go.Proofs.Ytmpegnogdgbleaa
open Go Go.Ab
def RtO(N:List Nd)(n r:Nat):Prop:=∃d,Rt N d n r
section
variable {N N' : List Nd}
theorem RtO.one{n r s:Nat}(h:RtO N n r)(k:RtO N n s):r=s:=by
 obtain⟨d,h⟩:=h;obtain⟨e,k⟩:=k;exact(h.one k).2
theorem RtO.self{n:Nat}(h:lnk N n=n):RtO N n n:=⟨0,.here h⟩
theorem RtO.link{n r:Nat}(h:RtO N n r):RtO N (lnk N n) r:=by
 obtain⟨d,h⟩:=h
 cases h with
 |here h=>rw[h];exact⟨0,.here h⟩
 |step _ h=>exact⟨_,h⟩
theorem RtO.root{n r:Nat}(h:RtO N n r):lnk N r=r:=by obtain⟨_,h⟩:=h;exact h.root
theorem Gr.rtO(g:Gr N){n:Nat}(hn:n<N.length):∃r,RtO N n r:=by
 obtain⟨d,r,h⟩:=g.rt n hn;exact⟨r,d,h⟩
theorem RtO.lt(g:Gr N){n r:Nat}(h:RtO N n r)(hn:n<N.length):r<N.length:=by
 obtain⟨_,h⟩:=h;exact g.zkO h hn
theorem Sm.rtO(s:Sm N N')(g:Gr N){n r:Nat}(hn:n<N.length):RtO N' n r ↔ RtO N n r:=by
 have go:∀ {q:Nat},RtO N n q->RtO N' n q:=fun⟨d,h⟩=>by
  obtain⟨e,_,k⟩:=s.rt _ _ _ h
  exact⟨e,k⟩
 refine⟨fun h=> ?_,go⟩
 obtain⟨q,k⟩:=g.rtO hn
 rw[h.one (go k)];exact k
def Cpt(N:List Nd)(φ:Nat->Nat):Prop:=∀n r,n<N.length->RtO N n r->φ r=φ n
def CgC(N:List Nd)(φ:Nat->Nat):Prop:=∀n r,n<N.length->knd N n≠0->RtO N n r->knd N r=knd N n/\(kds N n).map φ=(kds N r).map φ
def Cg(N:List Nd)(td:List (Nat×Nat)):Prop:=∀φ,Cpt N φ->(∀p∈td,φ p.1=φ p.2)->CgC N φ
theorem Sm.cpt(s:Sm N N')(g:Gr N){φ:Nat->Nat}:Cpt N' φ ↔ Cpt N φ:=by
 constructor
 ·intro h n r hn k;exact h n r (by rw[s.len];exact hn) ((s.rtO g hn).2 k)
 ·intro h n r hn k
  rw[s.len]at hn
  exact h n r hn ((s.rtO g hn).1 k)
theorem Sm.cg(s:Sm N N')(g:Gr N){td:List (Nat×Nat)}(C:Cg N td):Cg N' td:=by
 intro φ hφ hp n r hn h0 k
 rw[s.len]at hn
 rw[s.kd]at h0
 rw[s.kd,s.kd,s.ks,s.ks]
 exact C φ ((s.cpt g).1 hφ) hp n r hn h0 ((s.rtO g hn).1 k)
theorem Cg.join{x y:Nat}{td':List (Nat×Nat)}(g:Gr N)(hx:x<N.length)(hxy:x≠y)(lx:lnk N x=x)(ly:lnk N y=y)
 (C:∀φ,Cpt N φ->φ x=φ y->(∀p∈td',φ p.1=φ p.2)->CgC N φ)
 (hk:∀φ:Nat->Nat,(∀p∈td',φ p.1=φ p.2)->knd N x≠0->knd N y=knd N x/\(kds N x).map φ=(kds N y).map φ):Cg (setL N x y) td':=by
 intro φ hφ hp n r hn h0 hr
 rw[zkW]at hn
 rw[zi6 hx]at h0
 have nw:∀m s,RtO N m s->RtO (setL N x y) m (if s=x then y else s):=fun m s ⟨e,h⟩=>Rt.join hx hxy lx ly h
 have exy:φ y=φ x:=by
  have:=nw x x (RtO.self lx)
  rw[if_pos rfl]at this
  exact hφ x y (by rw[zkW];exact hx) this
 have old:Cpt N φ:=fun m s hm hs=>by
  have k:=hφ m _ (by rw[zkW];exact hm) (nw m s hs)
  split at k
  ·rename_i e;rw[e,<-exy];exact k
  ·exact k
 obtain⟨r0,h1⟩:=g.rtO hn
 obtain⟨k1,k2⟩:=C φ old exy.symm hp n r0 hn h0 h1
 rw[zi6 hx,zi6 hx,zi2 hx,zi2 hx,hr.one (nw n r0 h1)]
 split
 ·rename_i e
  rw[e]at k1 k2
  obtain⟨k3,k4⟩:=hk φ hp (by rw[k1];exact h0)
  exact⟨k3.trans k1,k2.trans k4⟩
 ·exact⟨k1,k2⟩
theorem Cg.add(g:Gr N)(C:Cg N [])(k:Int){ks:List Nat}:Cg (addN N k ks) []:=by
 intro φ hφ _ n r hn h0 hr
 rw[zhf]at hn
 have en:lnk (addN N k ks) N.length=N.length:=by simp only[lnk,zhg]
 by_cases e:n=N.length
 ·have:r=n:=hr.one (RtO.self (by rw[e];exact en))
  rw[this];exact⟨rfl,rfl⟩
 ·have hn':n<N.length:=by omega
  have nw:∀m s,m<N.length->RtO N m s->RtO (addN N k ks) m s:=fun m s hm ⟨d,h⟩=>⟨d,h.add g k ks hm⟩
  obtain⟨r0,h1⟩:=g.rtO hn'
  have h2:=h1.lt g hn'
  rw[hr.one (nw n r0 hn' h1),zi5 h2,zi5 hn',zi0 h2,zi0 hn']
  rw[zi5 hn']at h0
  exact C φ (fun m s hm hs=>hφ m s (by rw[zhf];omega) (nw m s hm hs)) (fun p hp=>by cases hp) n r0 hn' h0 h1
end
theorem zlV{φ:Nat->Nat}:∀ {a b:List Nat},a.length=b.length->(∀p∈a.zip b,φ p.1=φ p.2)->a.map φ=b.map φ:=by
 intro a
 induction a with
 |nil=>intro b h _;rw[List.eq_nil_of_length_eq_zero h.symm]
 |cons x a ih=>
  intro b h hp
  cases b with
  |nil=>simp at h
  |cons y b=>
   simp only[List.length_cons,Nat.add_right_cancel_iff]at h
   simp only[List.map_cons]
   rw[hp (x,y) (by simp),ih h fun p k=>hp p (by simp[List.zip_cons_cons,k])]
theorem zkR:∀(f:Nat) {N:List Nd} {td:List (Nat×Nat)},Gr N->Ar N->(∀p∈td,p.1<N.length/\p.2<N.length)->3*rts N+td.length<=f->Cg N td->(zkQ f N td).1=true->Cg (zkQ f N td).2 []:=by
 intro f
 induction f with
 |zero=>
  intro N td g ha ht hf C _
  obtain rfl:td=[]:=List.eq_nil_of_length_eq_zero (by omega)
  exact C
 |succ f ih=>
  intro N td g ha ht hf C hT
  cases td with
  |nil=>exact C
  |cons p td=>
   obtain⟨a,b⟩:=p
   obtain⟨ha1,hb1⟩:=ht (a,b) (by simp)
   have ht':∀p∈td,p.1<N.length/\p.2<N.length:=fun p hp=>ht p (YAT _ hp)
   obtain⟨⟨d1,e1⟩,s1⟩:=zkK g ha1
   rw[zkQ]at hT⊢
   generalize hr1:zkJ N a=r1 at e1 s1 hT⊢
   obtain⟨N1,x⟩:=r1
   simp only at e1 s1 hT⊢
   have g1:=s1.gr g
   obtain⟨⟨d2,e2⟩,s2⟩:=zkK g1 (n:=b) (by rw[s1.len];exact hb1)
   generalize hr2:zkJ N1 b=r2 at e2 s2 hT⊢
   obtain⟨N2,y⟩:=r2
   simp only at e2 s2 hT⊢
   have s:=s1.trans s2
   have g2:=s2.gr g1
   have hx:x<N2.length:=by rw[s.len];exact g.zkO e1 ha1
   have hy:y<N2.length:=by rw[s2.len];exact g1.zkO e2 (by rw[s1.len];exact hb1)
   have lx:lnk N2 x=x:=(s.lk x (by rw[<-s.len];exact hx)).2 e1.root
   have ly:lnk N2 y=y:=(s2.lk y (by rw[<-s2.len];exact hy)).2 e2.root
   have rx:RtO N2 a x:=(s.rtO g ha1).2 ⟨d1,e1⟩
   have ry:RtO N2 b y:=(s2.rtO g1 (by rw[s1.len];exact hb1)).2 ⟨d2,e2⟩
   have ha2:a<N2.length:=by rw[s.len];exact ha1
   have hb2:b<N2.length:=by rw[s.len];exact hb1
   have C2:=s.cg g C
   have a2:Ar N2:=fun n=>by rw[s.ks,s.kd];exact ha n
   have hrt:rts N2=rts N:=s.rts
   have t2:∀p∈td,p.1<N2.length/\p.2<N2.length:=fun p hp=>by rw[s.len];exact ht' p hp
   simp only[List.length_cons]at hf
   have CC:∀φ:Nat->Nat,Cpt N2 φ->φ x=φ y->(∀p∈td,φ p.1=φ p.2)->CgC N2 φ:=fun φ h e hp=>C2 φ h fun p hq=>by
    rcases List.mem_cons.1 hq with rfl|hq
    ·simp only
     rw[<-h a x ha2 rx,<-h b y hb2 ry];exact e
    ·exact hp p hq
   by_cases hxy:x=y
   ·rw[if_pos hxy]at hT⊢
    exact ih g2 a2 t2 (by omega) (fun φ h hp=>CC φ h (by rw[hxy]) hp) hT
   ·rw[if_neg hxy]at hT⊢
    have J:∀(u v:Nat) (tn:List (Nat×Nat)),u<N2.length->v<N2.length->u≠v->lnk N2 u=u->lnk N2 v=v->(∀φ:Nat->Nat,φ u=φ v->φ x=φ y)->
     (∀p∈tn,p.1<N2.length/\p.2<N2.length)->tn.length<=2->(∀φ:Nat->Nat,(∀p∈tn,φ p.1=φ p.2)->knd N2 u≠0->knd N2 v=knd N2 u/\(kds N2 u).map φ=(kds N2 v).map φ)->
     (zkQ f (setL N2 u v) (tn++td)).1=true->Cg (zkQ f (setL N2 u v) (tn++td)).2 []:=by
     intro u v tn hu hv huv lu lv hab htn hl hk hq
     have gj:=g2.join hu hv huv lu lv
     have hlen:(setL N2 u v).length=N2.length:=zkW _ _
     refine ih (td:=tn++td) gj (fun n=>by rw[zi2 hu,zi6 hu];exact a2 n)
      (fun p hp=>by rw[hlen];exact(List.mem_append.1 hp).elim (htn p) (t2 p))
      (by have:=zkP hu huv lu;rw[YAJ];omega) (Cg.join g2 hu huv lu lv ?_ ?_) hq
     ·intro φ h e hp;exact CC φ h (hab φ e) fun p k=>hp p (List.mem_append.2 (.inr k))
     ·intro φ hp;exact hk φ fun p k=>hp p (List.mem_append.2 (.inl k))
    by_cases hkx:knd N2 x=0
    ·rw[if_pos hkx]at hT⊢
     exact J x y [] hx hy hxy lx ly (fun φ e=>e) (fun p hp=>by cases hp) (by simp) (fun _ _ h=>absurd hkx h) hT
    ·rw[if_neg hkx]at hT⊢
     by_cases hky:knd N2 y=0
     ·rw[if_pos hky]at hT⊢
      exact J y x [] hy hx (Ne.symm hxy) ly lx (fun φ e=>e.symm) (fun p hp=>by cases hp) (by simp) (fun _ _ h=>absurd hky h) hT
     ·rw[if_neg hky]at hT⊢
      by_cases hk:knd N2 x≠knd N2 y
      ·rw[if_pos hk]at hT;cases hT
      ·rw[if_neg hk]at hT⊢
       have hk:knd N2 x=knd N2 y:=Decidable.not_not.1 hk
       refine J x y _ hx hy hxy lx ly (fun φ e=>e) (fun p hp=> ?_) ?_ (fun φ hp _=>⟨hk.symm,zlV (by rw[a2,a2,hk]) fun p h=>hp p (List.mem_reverse.2 h)⟩) hT
       ·rw[List.mem_reverse]at hp
        have:=List.of_mem_zip (a:=p.1) (b:=p.2) hp
        exact⟨g2.kd x hx _ this.1,g2.kd y hy _ this.2⟩
       ·rw[List.length_reverse,List.length_zip,a2 x]
        have:=zhj (knd N2 x);omega
def Kok(N:List Nd):Prop:=∀n,knd N n=0\/(∃k:Fin 4,knd N n=k.val+1)\/knd N n=7\/knd N n=8\/knd N n=9
theorem Kok.add{N:List Nd}(h:Kok N){k:Int}{ks:List Nat}(hk:k=0\/(∃b:Fin 4,k=b.val+1)\/k=7\/k=8\/k=9):Kok (addN N k ks):=by
 intro n
 by_cases e:n<N.length
 ·rw[zi5 e];exact h n
 ·by_cases e2:n=N.length
  ·subst e2;simp only[knd,zhg];exact hk
  ·simp only[knd,zhh (N:=N) (n:=n) (by omega)];exact h n
theorem zj7:∀(t:T) {N:List Nd} {M:List (Int×Nat)},Gr N->Ar N->(∀n i,zjU M n=some i->i<N.length)->Cg N []->Kok N->Cg (putF t N M).1 []/\Kok (putF t N M).1:=by
 intro t
 induction t with
 |dyn=>intro N M g a hM C K;exact⟨C.add g 0,K.add (.inl rfl)⟩
 |base k=>intro N M g a hM C K;exact⟨C.add g _,K.add (.inr (.inl ⟨k,rfl⟩))⟩
 |var n=>
  intro N M g a hM C K
  rw[putF]
  split
  ·exact⟨C,K⟩
  ·exact⟨C.add g 0,K.add (.inl rfl)⟩
 |list x ih=>
  intro N M g a hM C K
  have R:=zj9 x g a hM
  obtain⟨c1,k1⟩:=ih g a hM C K
  exact⟨c1.add R.gr 8,k1.add (by simp)⟩
 |pair x y i1 i2=>
  intro N M g a hM C K
  have R:=zj9 x g a hM
  obtain⟨c1,k1⟩:=i1 g a hM C K
  have Q:=zj9 y R.gr R.ar R.mm
  obtain⟨c2,k2⟩:=i2 R.gr R.ar R.mm c1 k1
  exact⟨c2.add Q.gr 7,k2.add (by simp)⟩
 |fn x y i1 i2=>
  intro N M g a hM C K
  have R:=zj9 x g a hM
  obtain⟨c1,k1⟩:=i1 g a hM C K
  have Q:=zj9 y R.gr R.ar R.mm
  obtain⟨c2,k2⟩:=i2 R.gr R.ar R.mm c1 k1
  exact⟨c2.add Q.gr 9,k2.add (by simp)⟩
theorem zib{a b:T}{s s':GS}(g:OkG s)(C:Cg s.1 [])(K:Kok s.1)(h:gjoin a b s=some s'):Cg s'.1 []/\Kok s'.1:=by
 obtain⟨N,A,B⟩:=s
 have R:=zj9 a g.gr g.ar g.ma
 have hB:∀n i,zjU B n=some i->i<(putF a N A).1.length:=fun n i h=>YAW (g.mb n i h) R.le
 have Q:=zj9 b R.gr R.ar (M:=B) hB
 have i1:(putF a N A).2.2<(putF b (putF a N A).1 B).1.length:=YAW R.ix Q.le
 obtain⟨c1,k1⟩:=zj7 a g.gr g.ar g.ma C K
 obtain⟨c2,k2⟩:=zj7 b R.gr R.ar (M:=B) hB c1 k1
 have hlt:∀p∈[((putF a N A).2.2,(putF b (putF a N A).1 B).2.2)],p.1<(putF b (putF a N A).1 B).1.length/\p.2<(putF b (putF a N A).1 B).1.length:=fun p hp=>by
  simp only[List.mem_cons,List.not_mem_nil,or_false]at hp
  rw[hp];exact⟨i1,Q.ix⟩
 have S:=zkS (3*rts (putF b (putF a N A).1 B).1+1) (td:=[((putF a N A).2.2,(putF b (putF a N A).1 B).2.2)]) Q.gr Q.ar hlt (by simp)
 have Z:=zkR (3*rts (putF b (putF a N A).1 B).1+1) (td:=[((putF a N A).2.2,(putF b (putF a N A).1 B).2.2)]) Q.gr Q.ar hlt (by simp) (fun φ h hp=>c2 φ h fun p hq=>by cases hq)
 unfold gjoin at h
 simp only at h
 split at h
 ·rename_i hc
  cases h
  exact⟨Z hc.2,fun n=>by rw[S.kd];exact k2 n⟩
 ·cases h
theorem ziU:∀(b a:T) {s s':GS},OkG s->Cg s.1 []->Kok s.1->gbelow a b s=some s'->Cg s'.1 []/\Kok s'.1:=by
 intro b
 induction b with
 |dyn=>intro a s s' g C K h;cases a<;>(cases h;exact⟨C,K⟩)
 |var n=>intro a s s' g C K h;cases a<;>exact zib g C K h
 |base k=>
  intro a s s' g C K h
  cases a with
  |var n=>exact zib g C K h
  |base k'=>
   rw[gbelow]at h
   split at h
   ·cases h;exact⟨C,K⟩
   ·cases h
  |_=>cases h
 |pair b b' i1 i2=>
  intro a s s' g C K h
  cases a with
  |var n=>exact zib g C K h
  |pair a a'=>
   obtain⟨s1,e1,e2⟩:=Option.bind_eq_some_iff.1 h
   obtain⟨c1,k1⟩:=i1 a g C K e1
   exact i2 a' ((ziY b a g).ok s1 e1).1 c1 k1 e2
  |_=>cases h
 |fn b b' i1 i2=>
  intro a s s' g C K h
  cases a with
  |var n=>exact zib g C K h
  |fn a a'=>
   obtain⟨s1,e1,e2⟩:=Option.bind_eq_some_iff.1 h
   obtain⟨c1,k1⟩:=i1 a g C K e1
   exact i2 a' ((ziY b a g).ok s1 e1).1 c1 k1 e2
  |_=>cases h
 |list b i1=>
  intro a s s' g C K h
  cases a with
  |var n=>exact zib g C K h
  |list a=>exact i1 a g C K h
  |_=>cases h
end Go.Proofs.Ytmpegnogdgbleaa
