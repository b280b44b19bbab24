/- Layer 11: where there is a model, nothing goes round. Plain; no condition. -/
import Derived.Test.YtmpegnogdgbleaaU9
set_option linter.unusedSimpArgs false
set_option linter.unusedVariables false
namespace Go.Proofs.Ytmpegnogdgbleaa
open Go Go.Ab
structure OpR (s e:OS):Prop where
 sm:Sm s.1 e.1
 st:∀r,e.2.getD r 0=1->s.2.getD r 0=1
 b2:(∀r,s.2.getD r 0<=2)->∀r,e.2.getD r 0<=2
theorem OpR.refl(s:OS):OpR s s:=⟨Sm.refl _,fun _ h=>h,fun h=>h⟩
theorem OpR.trans{s e q:OS}(h:OpR s e)(k:OpR e q):OpR s q:=⟨h.sm.trans k.sm,fun r x=>h.st r (k.st r x),fun x=>k.b2 (h.b2 x)⟩
theorem zIb(l:List Nat)(i j v:Nat):(l.set i v).getD j 0=if i=j/\i<l.length then v else l.getD j 0:=by
 simp only[YAF,List.getElem?_set]
 by_cases h:i=j
 ·subst h
  by_cases h2:i<l.length
  ·simp[h2]
  ·simp[h2,YAR (Nat.le_of_not_lt h2)]
 ·simp[h]
theorem zjx{ρ:Nat->T}{g:OS->Nat->Bool×OS}{m:Nat}
 (H:∀(s:OS) (n:Nat),Gr s.1->Ar s.1->Mdl s.1 ρ->n<s.1.length->(ρ n).size<m->(∀r,s.2.getD r 0<=2)->(∀r,s.2.getD r 0=1->(ρ n).size<(ρ r).size)->(g s n).1=true/\OpR s (g s n).2):
 ∀(ks:List Nat) (s:OS),Gr s.1->Ar s.1->Mdl s.1 ρ->(∀n∈ks,n<s.1.length/\(ρ n).size<m/\∀r,s.2.getD r 0=1->(ρ n).size<(ρ r).size)->(∀r,s.2.getD r 0<=2)->(zju g s ks).1=true/\OpR s (zju g s ks).2:=by
 intro ks
 induction ks with
 |nil=>intro s _ _ _ _ _;exact⟨rfl,OpR.refl _⟩
 |cons k ks ih=>
  intro s hg ha hM hk h2
  obtain⟨a1,a2,a3⟩:=hk k (by simp)
  obtain⟨t1,t2⟩:=H s k hg ha hM a1 a2 h2 a3
  rw[zju,if_pos t1]
  obtain⟨u1,u2⟩:=ih (g s k).2 (t2.sm.gr hg) (fun n=>by rw[t2.sm.ks,t2.sm.kd];exact ha n) ((t2.sm.md ρ hg).2 hM)
   (fun n hn=>by
    obtain⟨b1,b2,b3⟩:=hk n (YAT _ hn)
    exact⟨by rw[t2.sm.len];exact b1,b2,fun r hr=>b3 r (t2.st r hr)⟩) (t2.b2 h2)
  exact⟨u1,t2.trans u2⟩
theorem zjr{ρ:Nat->T}:∀(f:Nat) (s:OS) (n:Nat),Gr s.1->Ar s.1->Mdl s.1 ρ->n<s.1.length->(ρ n).size<f->(∀r,s.2.getD r 0<=2)->(∀r,s.2.getD r 0=1->(ρ n).size<(ρ r).size)->(zjq f s n).1=true/\OpR s (zjq f s n).2:=by
 intro f
 induction f with
 |zero=>intro s n _ _ _ _ h;omega
 |succ f ih=>
  intro s n hg ha hM hn hf h2 h1
  obtain⟨⟨d,e⟩,sm⟩:=zkK hg hn
  rw[zjq]
  generalize zkJ s.1 n=r at e sm⊢
  have er:ρ r.2=ρ n:=hM.rt hg e hn
  have hr:r.2<s.1.length:=hg.zkO e hn
  have ha':Ar r.1:=fun n=>by rw[sm.ks,sm.kd];exact ha n
  have hM':=(sm.md ρ hg).2 hM
  have hr':r.2<r.1.length:=by rw[sm.len];exact hr
  by_cases h0:0<s.2.getD r.2 0
  ·rw[if_pos h0]
   have h3:s.2.getD r.2 0≠1:=fun h=>by have:=h1 _ h;rw[er]at this;omega
   have h4:=h2 r.2
   exact⟨decide_eq_true (by omega),⟨sm,fun _ h=>h,fun h=>h⟩⟩
  ·rw[if_neg h0]
   have hb:∀q,(s.2.set r.2 1).getD q 0<=2:=fun q=>by
    rw[zIb];split
    ·omega
    ·exact h2 q
   have L:=zjx (ρ:=ρ) (m:=f) (g:=zjq f) (fun s n a b c d e g h=>ih s n a b c d e g h) (kds r.1 r.2) (r.1,s.2.set r.2 1) (sm.gr hg) ha' hM' (fun k hk=>by
    have hne:knd r.1 r.2≠0:=fun h=>by rw[ha'.zi3 h]at hk;cases hk
    have hs:=hM'.kid hr' hne hk
    refine⟨(sm.gr hg).kd _ hr' k hk,by rw[er]at hs;omega,fun q hq=> ?_⟩
    simp only at hq
    rw[zIb]at hq
    split at hq
    ·rename_i hh;rw[<-hh.1];exact hs
    ·have:=h1 q hq;rw[er]at hs;omega) hb
   simp only
   generalize zju (zjq f) (r.1,s.2.set r.2 1) (kds r.1 r.2)=x at L⊢
   obtain⟨l1,l2⟩:=L
   rw[if_pos l1]
   refine⟨rfl,⟨sm.trans l2.sm,fun q hq=> ?_,fun h q=> ?_⟩⟩
   ·simp only at hq
    rw[zIb]at hq
    split at hq
    ·omega
    ·rename_i hne
     have:=l2.st q hq
     simp only at this
     rw[zIb]at this
     split at this
     ·rename_i hh
      exfalso
      have:=l2.st q hq
      exact hne ⟨hh.1,by have:=hh.2;by_cases hl:r.2<x.2.2.length;exact hl;rw[<-hh.1]at hq;simp[YAR (Nat.le_of_not_lt hl)]at hq⟩
     ·exact this
   ·simp only
    rw[zIb]
    split
    ·omega
    ·exact l2.b2 hb q
end Go.Proofs.Ytmpegnogdgbleaa
