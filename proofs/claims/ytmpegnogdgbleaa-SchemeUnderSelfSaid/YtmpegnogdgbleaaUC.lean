/- Layer 11: where nothing goes round, there is a model. Plain; no condition. -/
import Derived.Test.YtmpegnogdgbleaaUB
set_option linter.unusedSimpArgs false
set_option linter.unusedVariables false
namespace Go.Proofs.Ytmpegnogdgbleaa
open Go Go.Ab
def Kid(N:List Nd)(q r:Nat):Prop:=∃k∈kds N r,RtO N k q
theorem zi1{N:List Nd}{n:Nat}(h:¬n<N.length):kds N n=[]:=by
 simp[kds,YAR (Nat.le_of_not_lt h)]
theorem Sm.acc{N N':List Nd}(s:Sm N N')(g:Gr N){r:Nat}(h:Acc (Kid N) r):Acc (Kid N') r:=by
 induction h with
 |intro r _ ih=>
  refine Acc.intro r fun q ⟨k,hk,hq⟩=>ih q ⟨k,?_,?_⟩
  ·rw[<-s.ks];exact hk
  ·rw[s.ks]at hk
   by_cases hr:r<N.length
   ·exact(s.rtO g (g.kd r hr k hk)).1 hq
   ·rw[zi1 hr]at hk;cases hk
def InvO(s:OS):Prop:=∀r,s.2.getD r 0=2->Acc (Kid s.1) r
structure OpS (s e:OS):Prop where
 sm:Sm s.1 e.1
 mo:∀r,s.2.getD r 0=2->e.2.getD r 0=2
 ln:e.2.length=s.2.length
 iv:InvO s->InvO e
theorem OpS.refl(s:OS):OpS s s:=⟨Sm.refl _,fun _ h=>h,rfl,fun h=>h⟩
theorem OpS.trans{s e q:OS}(h:OpS s e)(k:OpS e q):OpS s q:=⟨h.sm.trans k.sm,fun r x=>k.mo r (h.mo r x),k.ln.trans h.ln,fun x=>k.iv (h.iv x)⟩
theorem zjz{g:OS->Nat->Bool×OS}
 (H:∀(s:OS) (n:Nat),Gr s.1->n<s.1.length->s.2.length=s.1.length->(g s n).1=true->OpS s (g s n).2/\∀r,RtO s.1 n r->(g s n).2.2.getD r 0=2):
 ∀(ks:List Nat) (s:OS),Gr s.1->(∀n∈ks,n<s.1.length)->s.2.length=s.1.length->(zju g s ks).1=true->OpS s (zju g s ks).2/\∀k∈ks,∀r,RtO s.1 k r->(zju g s ks).2.2.getD r 0=2:=by
 intro ks
 induction ks with
 |nil=>intro s _ _ _ _;exact⟨OpS.refl _,fun k hk=>by cases hk⟩
 |cons k ks ih=>
  intro s hg hk hl hT
  rw[zju]at hT⊢
  split at hT
  ·rename_i h1
   rw[if_pos h1]
   obtain⟨o1,r1⟩:=H s k hg (hk k (by simp)) hl h1
   obtain⟨o2,r2⟩:=ih (g s k).2 (o1.sm.gr hg) (fun n hn=>by rw[o1.sm.len];exact hk n (YAT _ hn)) (by rw[o1.ln,o1.sm.len];exact hl) hT
   refine⟨o1.trans o2,fun n hn r hr=> ?_⟩
   rcases List.mem_cons.1 hn with rfl|hm
   ·exact o2.mo r (r1 r hr)
   ·exact r2 n hm r ((o1.sm.rtO hg (hk n hn)).2 hr)
  ·rename_i h1;exact absurd hT h1
theorem zjt:∀(f:Nat) (s:OS) (n:Nat),Gr s.1->n<s.1.length->s.2.length=s.1.length->(zjq f s n).1=true->OpS s (zjq f s n).2/\∀r,RtO s.1 n r->(zjq f s n).2.2.getD r 0=2:=by
 intro f
 induction f with
 |zero=>intro s n _ _ _ h;cases h
 |succ f ih=>
  intro s n hg hn hl hT
  obtain⟨e,sm⟩:=zkK hg hn
  rw[zjq]at hT⊢
  generalize zkJ s.1 n=r at e sm hT⊢
  have e:RtO s.1 n r.2:=e
  have hr:r.2<s.1.length:=e.lt hg hn
  by_cases h0:0<s.2.getD r.2 0
  ·rw[if_pos h0]at hT⊢
   refine⟨⟨sm,fun _ h=>h,rfl,fun h q hq=>sm.acc hg (h q hq)⟩,fun q hq=> ?_⟩
   rw[<-e.one hq];exact of_decide_eq_true hT
  ·rw[if_neg h0]at hT⊢
   simp only at hT⊢
   have h1:(zju (zjq f) (r.1,s.2.set r.2 1) (kds r.1 r.2)).1=true:=by
    by_cases h:(zju (zjq f) (r.1,s.2.set r.2 1) (kds r.1 r.2)).1=true
    ·exact h
    ·rw[if_neg h]at hT;exact hT
   have L:=zjz (g:=zjq f) (fun s n a b c d=>ih s n a b c d) (kds r.1 r.2) (r.1,s.2.set r.2 1) (sm.gr hg) (fun k hk=>(sm.gr hg).kd r.2 (by rw[sm.len];exact hr) k hk) (by simp only[List.length_set];rw[sm.len];exact hl) h1
   rw[if_pos h1]
   generalize zju (zjq f) (r.1,s.2.set r.2 1) (kds r.1 r.2)=x at L⊢
   obtain⟨l1,l2⟩:=L
   have hxl:x.2.2.length=s.1.length:=by rw[l1.ln];simp only[List.length_set];exact hl
   have hself:(x.2.2.set r.2 2).getD r.2 0=2:=by rw[zIb,if_pos ⟨rfl,by rw[hxl];exact hr⟩]
   have hmo:∀q,s.2.getD q 0=2->(s.2.set r.2 1).getD q 0=2:=fun q hq=>by
    rw[zIb,if_neg (fun h=>h0 (by rw[h.1,hq];omega))];exact hq
   refine⟨⟨sm.trans l1.sm,fun q hq=> ?_,?_,fun iv q hq=> ?_⟩,fun q hq=> ?_⟩
   ·simp only
    rw[zIb]
    split
    ·rfl
    ·exact l1.mo q (hmo q hq)
   ·simp only[List.length_set];rw[hxl,hl]
   ·have iv1:InvO (r.1,s.2.set r.2 1):=fun p hp=>by
     simp only at hp⊢
     rw[zIb]at hp
     split at hp
     ·omega
     ·exact sm.acc hg (iv p hp)
    have iv2:=l1.iv iv1
    simp only at hq⊢
    by_cases hqr:q=r.2
    ·refine Acc.intro q fun p ⟨k,hk,hp⟩=>iv2 p ?_
     rw[l1.sm.ks,hqr]at hk
     exact l2 k hk p ((l1.sm.rtO (sm.gr hg) ((sm.gr hg).kd r.2 (by rw[sm.len];exact hr) k hk)).1 hp)
    ·rw[zIb,if_neg (fun h=>hqr h.1.symm)]at hq
     exact iv2 q hq
   ·rw[<-e.one hq];exact hself
open Classical in
noncomputable def rtC(N:List Nd)(n:Nat):Nat:=if h:∃r,RtO N n r then h.choose else n
theorem zkN{N:List Nd}{n r:Nat}(h:RtO N n r):rtC N n=r:=by
 have e:∃r,RtO N n r:=⟨r,h⟩
 rw[rtC,dif_pos e]
 exact e.choose_spec.one h
def bkF(k:Int):Fin 4:=if h:1<=k/\k<=4 then⟨(k-1).toNat,by omega⟩else 0
def shape(k:Int):List T->T
 | [a]=> .list a
 | [a,b]=>if k=7 then .pair a b else .fn a b
 |_=> .base (bkF k)
theorem zkY(k:Int):∀l:List T,(∀a∈l,Gnd a)->Gnd (shape k l):=by
 intro l h
 match l with
 | []=>exact⟨rfl,rfl⟩
 | [a]=>exact h a (by simp)
 | [a,b]=>
  simp only[shape]
  split
  ·exact(zh4.gd _ _).2 ⟨h a (by simp),h b (by simp)⟩
  ·exact(zh3.gd _ _).2 ⟨h a (by simp),h b (by simp)⟩
 |_::_::_::_=>exact⟨rfl,rfl⟩
theorem zkZ{k:Int}{l:List T}(hl:l.length=ar k)(h0:k≠0)(hk:k=0\/(∃b:Fin 4,k=b.val+1)\/k=7\/k=8\/k=9):(shape k l).kind=k/\(shape k l).sub=l:=by
 rcases hk with h|⟨b,rfl⟩|rfl|rfl|rfl
 ·exact absurd h h0
 ·have:ar ((b.val:Int)+1)=0:=by
   have:=b.isLt
   unfold ar
   rw[if_neg (by omega),if_neg (by omega)]
  rw[this]at hl
  rw[List.eq_nil_of_length_eq_zero hl]
  have:=b.isLt
  refine⟨?_,rfl⟩
  simp only[shape,T.kind,bkF]
  rw[dif_pos (by omega)]
  simp only
  omega
 ·match l,hl with
  | [a,b],_=>exact⟨rfl,rfl⟩
 ·match l,hl with
  | [a],_=>exact⟨rfl,rfl⟩
 ·match l,hl with
  | [a,b],_=>exact⟨rfl,rfl⟩
open Classical in
noncomputable def valN(N:List Nd)(wf:WellFounded (Kid N)):Nat->T:=
 wf.fix fun n rec=>shape (knd N n) ((kds N n).map fun k=>if h:Kid N (rtC N k) n then rec (rtC N k) h else .dyn)
theorem zlN{N:List Nd}(wf:WellFounded (Kid N))(g:Gr N)(n:Nat):valN N wf n=shape (knd N n) ((kds N n).map fun k=>valN N wf (rtC N k)):=by
 unfold valN
 rw[WellFounded.fix_eq]
 congr 1
 refine List.map_congr_left fun k hk=> ?_
 rw[dif_pos]
 by_cases hn:n<N.length
 ·obtain⟨r,hr⟩:=g.rtO (g.kd n hn k hk)
  rw[zkN hr];exact⟨k,hk,hr⟩
 ·rw[zi1 hn]at hk;cases hk
theorem zjd{N:List Nd}(g:Gr N)(a:Ar N)(C:Cg N [])(K:Kok N)(wf:WellFounded (Kid N)):∃ρ,Mdl N ρ:=by
 refine⟨fun n=>valN N wf (rtC N n),fun n hn=> ?_,fun n hn=> ?_,fun n hn h0=> ?_⟩
 ·generalize rtC N n=r
  show Gnd (valN N wf r)
  induction r using wf.induction with
  |_ r ih=>
   rw[zlN wf g]
   refine zkY _ _ fun v hv=> ?_
   obtain⟨k,hk,rfl⟩:=List.mem_map.1 hv
   by_cases hr:r<N.length
   ·obtain⟨q,hq⟩:=g.rtO (g.kd r hr k hk)
    rw[zkN hq]
    exact ih q ⟨k,hk,hq⟩
   ·rw[zi1 hr]at hk;cases hk
 ·obtain⟨r,hr⟩:=g.rtO hn
  rw[zkN hr,zkN hr.link]
 ·obtain⟨r,hr⟩:=g.rtO hn
  obtain⟨c1,c2⟩:=C (rtC N) (fun m s hm hs=>by rw[zkN hs,zkN (RtO.self hs.root)]) (fun p hp=>by cases hp) n r hn h0 hr
  rw[zkN hr,zlN wf g,c1]
  have e:(kds N r).map (fun k=>valN N wf (rtC N k))=(kds N n).map (fun k=>valN N wf (rtC N k)):=by
   have:=congrArg (List.map (valN N wf)) c2
   simp only[List.map_map]at this
   exact this.symm
  rw[e]
  exact zkZ (by rw[YAK,a n]) h0 (K n)
theorem zlQ{N:List Nd}(h:∀k,k<N.length->∀q,RtO N k q->Acc (Kid N) q)(g:Gr N):WellFounded (Kid N):=by
 refine⟨fun n=>Acc.intro n fun q ⟨k,hk,hq⟩=> ?_⟩
 by_cases hn:n<N.length
 ·exact h k (g.kd n hn k hk) q hq
 ·rw[zi1 hn]at hk;cases hk
theorem zjp{f:Nat}{N:List Nd}(g:Gr N)(hT:(zju (zjq f) (N,List.replicate N.length 0) (List.range N.length)).1=true):WellFounded (Kid N):=by
 obtain⟨o,h2⟩:=zjz (g:=zjq f) (fun s n a b c d=>zjt f s n a b c d) (List.range N.length) (N,List.replicate N.length 0) g (fun n hn=>List.mem_range.1 hn) (by simp) hT
 have iv:=o.iv (fun r hr=>by
  simp only[YAF,List.getElem?_replicate]at hr
  split at hr<;>simp at hr)
 have w:WellFounded (Kid (zju (zjq f) (N,List.replicate N.length 0) (List.range N.length)).2.1):=zlQ (fun k hk q hq=>by
  rw[o.sm.len]at hk
  exact iv q (h2 k (List.mem_range.2 hk) q ((o.sm.rtO g hk).1 hq))) (o.sm.gr g)
 refine⟨fun n=> ?_⟩
 have:=w.apply n
 induction this with
 |intro n _ ih=>
  refine Acc.intro n fun q ⟨k,hk,hq⟩=>ih q ⟨k,by rw[o.sm.ks];exact hk,?_⟩
  by_cases hn:n<N.length
  ·exact(o.sm.rtO g (g.kd n hn k hk)).2 hq
  ·rw[zi1 hn]at hk;cases hk
theorem zjo{f:Nat}{N:List Nd}{ρ:Nat->T}(g:Gr N)(a:Ar N)(M:Mdl N ρ)(hf:∀n,n<N.length->(ρ n).size<f):(zju (zjq f) (N,List.replicate N.length 0) (List.range N.length)).1=true:=by
 have e0:∀r,(List.replicate N.length 0:List Nat).getD r 0=0:=fun r=>by
  simp only[YAF,List.getElem?_replicate]
  split<;>rfl
 refine(zjx (ρ:=ρ) (m:=f) (g:=zjq f) (fun s n a b c d e g h=>zjr f s n a b c d e g h) (List.range N.length) (N,List.replicate N.length 0) g a M (fun n hn=>⟨List.mem_range.1 hn,hf n (List.mem_range.1 hn),fun r hr=> ?_⟩) (fun r=> ?_)).1
 ·simp only at hr;rw[e0]at hr;cases hr
 ·simp only;rw[e0];omega
end Go.Proofs.Ytmpegnogdgbleaa
