/- Layer 11: same on graphs. Plain; no condition. -/
import Derived.Test.YtmpegnogdgbleaaU2
set_option linter.unusedSimpArgs false
set_option linter.unusedVariables false
namespace Go.Proofs.Ytmpegnogdgbleaa
open Go Go.Ab
open Classical in
noncomputable def dep(N:List Nd)(n:Nat):Nat:=if h:∃d r,Rt N d n r then h.choose else 0
noncomputable def zkJ(N:List Nd)(n:Nat):List Nd×Nat:=zUD (dep N n) N n
theorem zkK{N:List Nd}(g:Gr N){n:Nat}(hn:n<N.length):(∃d,Rt N d n (zkJ N n).2)/\Sm N (zkJ N n).1:=by
 obtain⟨d,r,h⟩:=g.rt n hn
 have hd:dep N n=d:=by
  have e:∃d r,Rt N d n r:=⟨d,r,h⟩
  rw[dep,dif_pos e]
  obtain⟨r',h'⟩:=e.choose_spec
  exact(h'.one h).1
 obtain⟨k1,k2⟩:=zkL d g hn h (YAV _)
 unfold zkJ
 rw[hd]
 exact⟨⟨d,by rw[k1];exact h⟩,k2⟩
def ar(k:Int):Nat:=if k=8 then 1 else if k=7\/k=9 then 2 else 0
theorem zhj(k:Int):ar k<=2:=by unfold ar;split<;>(try split)<;>omega
def Ar(N:List Nd):Prop:=∀n,(kds N n).length=ar (knd N n)
noncomputable def zkQ:Nat->List Nd->List (Nat×Nat)->Bool×List Nd
 |0,N,_=>(true,N)
 |_+1,N,[]=>(true,N)
 |f+1,N,(a,b)::td=>
  let r1:=zkJ N a
  let r2:=zkJ r1.1 b
  if r1.2=r2.2 then zkQ f r2.1 td
  else if knd r2.1 r1.2=0 then zkQ f (setL r2.1 r1.2 r2.2) td
  else if knd r2.1 r2.2=0 then zkQ f (setL r2.1 r2.2 r1.2) td
  else if knd r2.1 r1.2≠knd r2.1 r2.2 then(false,r2.1)
  else zkQ f (setL r2.1 r1.2 r2.2) (((kds r2.1 r1.2).zip (kds r2.1 r2.2)).reverse++td)
theorem zjb{ρ:Nat->T}:∀ {a b:List Nat},a.map ρ=b.map ρ->∀p∈a.zip b,ρ p.1=ρ p.2:=by
 intro a
 induction a with
 |nil=>intro b _ p hp;simp at hp
 |cons x a ih=>
  intro b h p hp
  cases b with
  |nil=>simp at hp
  |cons y b=>
   simp only[List.map_cons,List.cons.injEq]at h
   simp only[List.zip_cons_cons,List.mem_cons]at hp
   rcases hp with rfl|hp
   ·exact h.1
   ·exact ih h.2 p hp
theorem Mdl.join{N:List Nd}{ρ:Nat->T}{x y:Nat}(hx:x<N.length)(h:lnk N x=x):Mdl (setL N x y) ρ ↔ (Mdl N ρ/\ρ x=ρ y):=by
 constructor
 ·intro M;exact⟨M.unset hx (by rw[h]),(M.zkX hx).symm⟩
 ·intro M;exact M.1.set hx M.2.symm
structure SameR (N:List Nd) (td:List (Nat×Nat)) (r:Bool×List Nd):Prop where
 gr:Gr r.2
 len:r.2.length=N.length
 kd:∀n,knd r.2 n=knd N n
 ks:∀n,kds r.2 n=kds N n
 tt:r.1=true->∀ρ,Mdl r.2 ρ ↔ (Mdl N ρ/\∀p∈td,ρ p.1=ρ p.2)
 ff:r.1=false->∀ρ,Mdl N ρ->¬∀p∈td,ρ p.1=ρ p.2
theorem zkS:∀(f:Nat) {N:List Nd} {td:List (Nat×Nat)},Gr N->Ar N->(∀p∈td,p.1<N.length/\p.2<N.length)->3*rts N+td.length<=f->SameR N td (zkQ f N td):=by
 intro f
 induction f with
 |zero=>
  intro N td g ha ht hf
  obtain rfl:td=[]:=List.eq_nil_of_length_eq_zero (by omega)
  exact⟨g,rfl,fun _=>rfl,fun _=>rfl,fun _ ρ=>⟨fun h=>⟨h,fun p hp=>by cases hp⟩,fun h=>h.1⟩,fun h=>by cases h⟩
 |succ f ih=>
  intro N td g ha ht hf
  cases td with
  |nil=>exact⟨g,rfl,fun _=>rfl,fun _=>rfl,fun _ ρ=>⟨fun h=>⟨h,fun p hp=>by cases hp⟩,fun h=>h.1⟩,fun h=>by cases h⟩
  |cons p td=>
   obtain⟨a,b⟩:=p
   obtain⟨ha1,hb1⟩:=ht (a,b) (by simp)
   have ht':∀p∈td,p.1<N.length/\p.2<N.length:=fun p hp=>ht p (YAT _ hp)
   obtain⟨⟨d1,e1⟩,s1⟩:=zkK g ha1
   rw[zkQ]
   generalize hr1:zkJ N a=r1 at e1 s1⊢
   obtain⟨N1,x⟩:=r1
   simp only at e1 s1⊢
   have g1:=s1.gr g
   obtain⟨⟨d2,e2⟩,s2⟩:=zkK g1 (n:=b) (by rw[s1.len];exact hb1)
   generalize hr2:zkJ N1 b=r2 at e2 s2⊢
   obtain⟨N2,y⟩:=r2
   simp only at e2 s2⊢
   have s:=s1.trans s2
   have g2:=s2.gr g1
   have hx:x<N2.length:=by rw[s.len];exact g.zkO e1 ha1
   have hy:y<N2.length:=by rw[s2.len];exact g1.zkO e2 (by rw[s1.len];exact hb1)
   have lx:lnk N2 x=x:=(s.lk x (by rw[<-s.len];exact hx)).2 e1.root
   have ly:lnk N2 y=y:=(s2.lk y (by rw[<-s2.len];exact hy)).2 e2.root
   have hxa:∀ρ,Mdl N ρ->ρ x=ρ a/\ρ y=ρ b:=fun ρ M=>⟨M.rt g e1 ha1,((s1.md ρ g).2 M).rt g1 e2 (by rw[s1.len];exact hb1)⟩
   have hM:∀ρ,Mdl N2 ρ ↔ Mdl N ρ:=fun ρ=>s.md ρ g
   have a2:Ar N2:=fun n=>by rw[s.ks,s.kd];exact ha n
   have hrt:rts N2=rts N:=s.rts
   have t2:∀p∈td,p.1<N2.length/\p.2<N2.length:=fun p hp=>by rw[s.len];exact ht' p hp
   simp only[List.length_cons]at hf
   have hcons:∀ρ:Nat->T,(∀p∈(a,b)::td,ρ p.1=ρ p.2) ↔ (ρ a=ρ b/\∀p∈td,ρ p.1=ρ p.2):=fun ρ=>by simp
   by_cases hxy:x=y
   ·rw[if_pos hxy]
    have r:=ih g2 a2 t2 (by omega)
    refine⟨r.gr,by rw[r.len,s.len],fun n=>by rw[r.kd,s.kd],fun n=>by rw[r.ks,s.ks],fun h ρ=> ?_,fun h ρ M=> ?_⟩
    ·rw[r.tt h ρ,hM,hcons]
     constructor
     ·rintro⟨M,k⟩
      obtain⟨k1,k2⟩:=hxa ρ M
      exact⟨M,by rw[<-k1,<-k2,hxy],k⟩
     ·rintro⟨M,_,k⟩;exact⟨M,k⟩
    ·rw[hcons]
     exact fun k=>r.ff h ρ ((hM ρ).2 M) k.2
   ·rw[if_neg hxy]
    have J:∀(u v:Nat) (tn:List (Nat×Nat)),u<N2.length->v<N2.length->u≠v->lnk N2 u=u->lnk N2 v=v->(∀ρ,Mdl N ρ->(ρ u=ρ v ↔ ρ a=ρ b))->
     (∀p∈tn,p.1<N2.length/\p.2<N2.length)->tn.length<=2->(∀ρ,Mdl N ρ->ρ a=ρ b->∀p∈tn,ρ p.1=ρ p.2)->
     SameR N ((a,b)::td) (zkQ f (setL N2 u v) (tn++td)):=by
     intro u v tn hu hv huv lu lv hab htn hl hk
     have gj:=g2.join hu hv huv lu lv
     have hlen:(setL N2 u v).length=N2.length:=zkW _ _
     have r:=ih (td:=tn++td) gj (fun n=>by rw[zi2 hu,zi6 hu];exact a2 n)
      (fun p hp=>by rw[hlen];exact(List.mem_append.1 hp).elim (htn p) (t2 p))
      (by have:=zkP hu huv lu;rw[YAJ];omega)
     refine⟨r.gr,by rw[r.len,hlen,s.len],fun n=>by rw[r.kd,zi6 hu,s.kd],fun n=>by rw[r.ks,zi2 hu,s.ks],fun h ρ=> ?_,fun h ρ M=> ?_⟩
     ·rw[r.tt h ρ,Mdl.join hu lu,hM,hcons]
      constructor
      ·rintro⟨⟨M,k⟩,k2⟩
       exact⟨M,(hab ρ M).1 k,fun p hp=>k2 p (List.mem_append.2 (.inr hp))⟩
      ·rintro⟨M,k,k2⟩
       refine⟨⟨M,(hab ρ M).2 k⟩,fun p hp=> ?_⟩
       rcases List.mem_append.1 hp with h|h
       ·exact hk ρ M k p h
       ·exact k2 p h
     ·rw[hcons]
      rintro⟨k,k2⟩
      refine r.ff h ρ ((Mdl.join hu lu).2 ⟨(hM ρ).2 M,(hab ρ M).2 k⟩) fun p hp=> ?_
      rcases List.mem_append.1 hp with h|h
      ·exact hk ρ M k p h
      ·exact k2 p h
    have hab:∀ρ,Mdl N ρ->(ρ x=ρ y ↔ ρ a=ρ b):=fun ρ M=>by obtain⟨k1,k2⟩:=hxa ρ M;rw[k1,k2]
    by_cases hkx:knd N2 x=0
    ·rw[if_pos hkx]
     exact J x y [] hx hy hxy lx ly hab (fun p hp=>by cases hp) (by simp) (fun _ _ _ p hp=>by cases hp)
    ·rw[if_neg hkx]
     by_cases hky:knd N2 y=0
     ·rw[if_pos hky]
      exact J y x [] hy hx (Ne.symm hxy) ly lx (fun ρ M=>by rw[eq_comm,hab ρ M]) (fun p hp=>by cases hp) (by simp) (fun _ _ _ p hp=>by cases hp)
     ·rw[if_neg hky]
      have hsub:∀ρ,Mdl N ρ->ρ a=ρ b->knd N2 x=knd N2 y/\(kds N2 x).map ρ=(kds N2 y).map ρ:=fun ρ M k=>by
       have M2:=(hM ρ).2 M
       have e:=(hab ρ M).2 k
       obtain⟨k1,k2⟩:=M2.kd x hx hkx
       obtain⟨k3,k4⟩:=M2.kd y hy hky
       exact⟨by rw[<-k1,<-k3,e],by rw[<-k2,<-k4,e]⟩
      by_cases hk:knd N2 x≠knd N2 y
      ·rw[if_pos hk]
       refine⟨g2,s.len,s.kd,s.ks,fun h=>(by cases h),fun _ ρ M=> ?_⟩
       rw[hcons]
       exact fun k=>hk (hsub ρ M k.1).1
      ·rw[if_neg hk]
       refine J x y _ hx hy hxy lx ly hab (fun p hp=> ?_) ?_ (fun ρ M k p hp=> ?_)
       ·rw[List.mem_reverse]at hp
        have:=List.of_mem_zip (a:=p.1) (b:=p.2) hp
        exact⟨g2.kd x hx _ this.1,g2.kd y hy _ this.2⟩
       ·rw[List.length_reverse,List.length_zip,a2 x]
        have:=zhj (knd N2 x);omega
       ·rw[List.mem_reverse]at hp
        exact zjb (hsub ρ M k).2 p hp
end Go.Proofs.Ytmpegnogdgbleaa
