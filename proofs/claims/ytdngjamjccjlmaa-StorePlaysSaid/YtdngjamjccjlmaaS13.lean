/- A heap with a store, a copying and its three maps. No condition. -/
import Derived.Test.YtdngjamjccjlmaaW22
set_option linter.unusedSimpArgs false
set_option linter.unusedVariables false
namespace Go.Proofs.Ytdngjamjccjlmaa
open Go Go.Ab
def six(F:List AObj)(s r c m1 m2 m3:Nat)(x1 x2 x3 x4 x5 x6:AObj):List AObj:=stF ((((F.set c x3).set m1 x4).set m2 x5).set m3 x6) s r x1 x2
structure SixD (F:List AObj) (s r c m1 m2 m3:Nat):Prop where
 hs:s<F.length
 hr:r<F.length
 hc:c<F.length
 h1:m1<F.length
 h2:m2<F.length
 h3:m3<F.length
 d1:s≠r/\s≠c/\s≠m1/\s≠m2/\s≠m3
 d2:r≠c/\r≠m1/\r≠m2/\r≠m3
 d3:c≠m1/\c≠m2/\c≠m3
 d4:m1≠m2/\m1≠m3/\m2≠m3
section
variable {F : List AObj} {s r c m1 m2 m3 : Nat}
theorem SixD.app(h:SixD F s r c m1 m2 m3)(J:List AObj):SixD (F++J) s r c m1 m2 m3:=by
 obtain⟨h1,h2,h3,h4,h5,h6,d1,d2,d3,d4⟩:=h
 exact⟨by simp;omega,by simp;omega,by simp;omega,by simp;omega,by simp;omega,by simp;omega,d1,d2,d3,d4⟩
@[simp] theorem zV4 {x1 x2 x3 x4 x5 x6:AObj}:(six F s r c m1 m2 m3 x1 x2 x3 x4 x5 x6).length=F.length:=by simp[six]
theorem zpu(h:SixD F s r c m1 m2 m3)(J:List AObj){x1 x2 x3 x4 x5 x6:AObj}:six F s r c m1 m2 m3 x1 x2 x3 x4 x5 x6++J=six (F++J) s r c m1 m2 m3 x1 x2 x3 x4 x5 x6:=by
 obtain⟨h1,h2,h3,h4,h5,h6,_⟩:=h
 unfold six stF
 rw[zCW (F:=F) h3,zCW (by simpa using h4),zCW (by simpa using h5),zCW (by simpa using h6),zCW (by simpa using h1),zCW (by simpa using h2)]
theorem zpw(h:SixD F s r c m1 m2 m3){x1 x2 x3 x4 x5 x6:AObj}:
 (six F s r c m1 m2 m3 x1 x2 x3 x4 x5 x6)[s]?=some x1/\(six F s r c m1 m2 m3 x1 x2 x3 x4 x5 x6)[r]?=some x2/\(six F s r c m1 m2 m3 x1 x2 x3 x4 x5 x6)[c]?=some x3/\
 (six F s r c m1 m2 m3 x1 x2 x3 x4 x5 x6)[m1]?=some x4/\(six F s r c m1 m2 m3 x1 x2 x3 x4 x5 x6)[m2]?=some x5/\(six F s r c m1 m2 m3 x1 x2 x3 x4 x5 x6)[m3]?=some x6:=by
 obtain⟨h1,h2,h3,h4,h5,h6,⟨a1,a2,a3,a4,a5⟩,⟨b1,b2,b3,b4⟩,⟨c1,c2,c3⟩,e1,e2,e3⟩:=h
 unfold six stF
 refine⟨?_,?_,?_,?_,?_,?_⟩
 ·rw[zVk (by omega),zVl (by simpa using h1)]
 ·rw[zVl (by simpa using h2)]
 ·rw[zVk (by omega),zVk (by omega),zVk (by omega),zVk (by omega),zVk (by omega),zVl h3]
 ·rw[zVk (by omega),zVk (by omega),zVk (by omega),zVk (by omega),zVl (by simpa using h4)]
 ·rw[zVk (by omega),zVk (by omega),zVk (by omega),zVl (by simpa using h5)]
 ·rw[zVk (by omega),zVk (by omega),zVl (by simpa using h6)]
theorem zpz(h:SixD F s r c m1 m2 m3){G:List AObj}{x1 x2 x3 x4 x5 x6 y:AObj}:
 (six G s r c m1 m2 m3 x1 x2 x3 x4 x5 x6).set m1 y=six G s r c m1 m2 m3 x1 x2 x3 y x5 x6/\(six G s r c m1 m2 m3 x1 x2 x3 x4 x5 x6).set m2 y=six G s r c m1 m2 m3 x1 x2 x3 x4 y x6/\(six G s r c m1 m2 m3 x1 x2 x3 x4 x5 x6).set m3 y=six G s r c m1 m2 m3 x1 x2 x3 x4 x5 y:=by
 obtain⟨h1,h2,h3,h4,h5,h6,⟨a1,a2,a3,a4,a5⟩,⟨b1,b2,b3,b4⟩,⟨c1,c2,c3⟩,e1,e2,e3⟩:=h
 unfold six stF
 refine⟨?_,?_,?_⟩
 ·rw[List.set_comm _ _ b2,List.set_comm _ _ a3,List.set_comm (i:=m3) (j:=m1) _ _ (fun h=>e2 h.symm),List.set_comm (i:=m2) (j:=m1) _ _ (fun h=>e1 h.symm),List.set_set]
 ·rw[List.set_comm _ _ b3,List.set_comm _ _ a4,List.set_comm (i:=m3) (j:=m2) _ _ (fun h=>e3 h.symm),List.set_set]
 ·rw[List.set_comm _ _ b4,List.set_comm _ _ a5,List.set_set]
theorem zpy(h:SixD F s r c m1 m2 m3){q:Nat}(h1:s≠q)(h2:r≠q)(h3:c≠q)(h4:m1≠q)(h5:m2≠q)(h6:m3≠q){x1 x2 x3 x4 x5 x6:AObj}:(six F s r c m1 m2 m3 x1 x2 x3 x4 x5 x6)[q]?=F[q]?:=by
 unfold six stF
 rw[zVk h2,zVk h1,zVk h6,zVk h5,zVk h4,zVk h3]
theorem zpx{q:Nat}(h1:s≠q)(h2:r≠q)(h3:c≠q)(h4:m1≠q)(h5:m2≠q)(h6:m3≠q){x1 x2 x3 x4 x5 x6 y:AObj}:(six F s r c m1 m2 m3 x1 x2 x3 x4 x5 x6).set q y=six (F.set q y) s r c m1 m2 m3 x1 x2 x3 x4 x5 x6:=by
 unfold six stF
 rw[List.set_comm _ _ h2,List.set_comm _ _ h1,List.set_comm _ _ h6,List.set_comm _ _ h5,List.set_comm _ _ h4,List.set_comm _ _ h3]
theorem sixP(h:SixD F s r c m1 m2 m3):
 (∀x1 x2 x3 x4 x5 x6,(six F s r c m1 m2 m3 x1 x2 x3 x4 x5 x6).length=F.length)/\(∀L x1 x2 x3 x4 x5 x6,(six (F++L) s r c m1 m2 m3 x1 x2 x3 x4 x5 x6).length=F.length+L.length)/\
 (∀L x1 x2 x3 x4 x5 x6,six F s r c m1 m2 m3 x1 x2 x3 x4 x5 x6++L=six (F++L) s r c m1 m2 m3 x1 x2 x3 x4 x5 x6)/\(∀L M x1 x2 x3 x4 x5 x6,six (F++L) s r c m1 m2 m3 x1 x2 x3 x4 x5 x6++M=six (F++(L++M)) s r c m1 m2 m3 x1 x2 x3 x4 x5 x6)/\
 (∀x1 x2 x3 x4 x5 x6,(six F s r c m1 m2 m3 x1 x2 x3 x4 x5 x6)[s]?=some x1)/\(∀L x1 x2 x3 x4 x5 x6,(six (F++L) s r c m1 m2 m3 x1 x2 x3 x4 x5 x6)[s]?=some x1)/\
 (∀x1 x2 x3 x4 x5 x6,(six F s r c m1 m2 m3 x1 x2 x3 x4 x5 x6)[r]?=some x2)/\(∀L x1 x2 x3 x4 x5 x6,(six (F++L) s r c m1 m2 m3 x1 x2 x3 x4 x5 x6)[r]?=some x2)/\
 (∀x1 x2 x3 x4 x5 x6,(six F s r c m1 m2 m3 x1 x2 x3 x4 x5 x6)[c]?=some x3)/\(∀L x1 x2 x3 x4 x5 x6,(six (F++L) s r c m1 m2 m3 x1 x2 x3 x4 x5 x6)[c]?=some x3)/\
 (∀x1 x2 x3 x4 x5 x6,(six F s r c m1 m2 m3 x1 x2 x3 x4 x5 x6)[m1]?=some x4)/\(∀L x1 x2 x3 x4 x5 x6,(six (F++L) s r c m1 m2 m3 x1 x2 x3 x4 x5 x6)[m1]?=some x4)/\
 (∀x1 x2 x3 x4 x5 x6,(six F s r c m1 m2 m3 x1 x2 x3 x4 x5 x6)[m2]?=some x5)/\(∀L x1 x2 x3 x4 x5 x6,(six (F++L) s r c m1 m2 m3 x1 x2 x3 x4 x5 x6)[m2]?=some x5)/\
 (∀x1 x2 x3 x4 x5 x6,(six F s r c m1 m2 m3 x1 x2 x3 x4 x5 x6)[m3]?=some x6)/\(∀L x1 x2 x3 x4 x5 x6,(six (F++L) s r c m1 m2 m3 x1 x2 x3 x4 x5 x6)[m3]?=some x6)/\
 (∀G x1 x2 x3 x4 x5 x6 y,(six G s r c m1 m2 m3 x1 x2 x3 x4 x5 x6).set m1 y=six G s r c m1 m2 m3 x1 x2 x3 y x5 x6)/\(∀G x1 x2 x3 x4 x5 x6 y,(six G s r c m1 m2 m3 x1 x2 x3 x4 x5 x6).set m2 y=six G s r c m1 m2 m3 x1 x2 x3 x4 y x6)/\(∀G x1 x2 x3 x4 x5 x6 y,(six G s r c m1 m2 m3 x1 x2 x3 x4 x5 x6).set m3 y=six G s r c m1 m2 m3 x1 x2 x3 x4 x5 y)/\
 (∀L x1 x2 x3 x4 x5 x6,(six (F++L) s r c m1 m2 m3 x1 x2 x3 x4 x5 x6)[F.length]?=L[0]?)/\(∀L j x1 x2 x3 x4 x5 x6,(six (F++L) s r c m1 m2 m3 x1 x2 x3 x4 x5 x6)[F.length+j]?=L[j]?)/\
 (∀L x1 x2 x3 x4 x5 x6 y,(six (F++L) s r c m1 m2 m3 x1 x2 x3 x4 x5 x6).set F.length y=six (F++L.set 0 y) s r c m1 m2 m3 x1 x2 x3 x4 x5 x6)/\(∀L j x1 x2 x3 x4 x5 x6 y,(six (F++L) s r c m1 m2 m3 x1 x2 x3 x4 x5 x6).set (F.length+j) y=six (F++L.set j y) s r c m1 m2 m3 x1 x2 x3 x4 x5 x6)/\
 (∀x1 x2 x3 x4 x5 x6,(six F s r c m1 m2 m3 x1 x2 x3 x4 x5 x6).take F.length=six F s r c m1 m2 m3 x1 x2 x3 x4 x5 x6)/\(∀L x1 x2 x3 x4 x5 x6,(six (F++L) s r c m1 m2 m3 x1 x2 x3 x4 x5 x6).take F.length=six F s r c m1 m2 m3 x1 x2 x3 x4 x5 x6)/\
 (∀x1 x2 x3 x4 x5 x6,((F.length<=(six F s r c m1 m2 m3 x1 x2 x3 x4 x5 x6).length)=True))/\(∀L x1 x2 x3 x4 x5 x6,((F.length<=(six (F++L) s r c m1 m2 m3 x1 x2 x3 x4 x5 x6).length)=True)):=by
 have h1:=h.hs
 have h2:=h.hr
 have h3:=h.hc
 have h4:=h.h1
 have h5:=h.h2
 have h6:=h.h3
 refine⟨fun _ _ _ _ _ _=>zV4,fun L _ _ _ _ _ _=>by rw[zV4,YAJ],fun J _ _ _ _ _ _=>zpu h J,fun J M _ _ _ _ _ _=>by rw[zpu (h.app J),List.append_assoc],
  fun _ _ _ _ _ _=>(zpw h).1,fun J _ _ _ _ _ _=>(zpw (h.app J)).1,fun _ _ _ _ _ _=>(zpw h).2.1,fun J _ _ _ _ _ _=>(zpw (h.app J)).2.1,fun _ _ _ _ _ _=>(zpw h).2.2.1,fun J _ _ _ _ _ _=>(zpw (h.app J)).2.2.1,
  fun _ _ _ _ _ _=>(zpw h).2.2.2.1,fun J _ _ _ _ _ _=>(zpw (h.app J)).2.2.2.1,fun _ _ _ _ _ _=>(zpw h).2.2.2.2.1,fun J _ _ _ _ _ _=>(zpw (h.app J)).2.2.2.2.1,fun _ _ _ _ _ _=>(zpw h).2.2.2.2.2,fun J _ _ _ _ _ _=>(zpw (h.app J)).2.2.2.2.2,
  fun _ _ _ _ _ _ _ _=>(zpz h).1,fun _ _ _ _ _ _ _ _=>(zpz h).2.1,fun _ _ _ _ _ _ _ _=>(zpz h).2.2,fun J _ _ _ _ _ _=> ?_,fun J j _ _ _ _ _ _=> ?_,fun J _ _ _ _ _ _ y=> ?_,fun J j _ _ _ _ _ _ y=> ?_,
  fun _ _ _ _ _ _=> ?_,fun J _ _ _ _ _ _=> ?_,fun _ _ _ _ _ _=>by simp[zV4],fun J _ _ _ _ _ _=>by simp[zV4]⟩
 ·rw[zpy (h.app J) (by omega) (by omega) (by omega) (by omega) (by omega) (by omega),zCT rfl]
 ·rw[zpy (h.app J) (by omega) (by omega) (by omega) (by omega) (by omega) (by omega),zCU rfl]
 ·rw[zpx (by omega) (by omega) (by omega) (by omega) (by omega) (by omega),zCX rfl]
 ·rw[zpx (by omega) (by omega) (by omega) (by omega) (by omega) (by omega),zCY rfl]
 ·rw[List.take_of_length_le];rw[zV4];exact YAV _
 ·rw[<-zpu h J,List.take_left' zV4]
theorem zpv{b:Nat}{x1 x2 x3 x4 x5 x6 y1 y2 y4 y5 y6:AObj}(h:SixD F s r c m1 m2 m3)(h1:x1.bel b=true->y1.bel b=true)(h2:y2.bel b=true)(h4:y4.bel b=true)(h5:y5.bel b=true)(h6:y6.bel b=true)
 (hb:∀x∈(six F s r c m1 m2 m3 x1 x2 x3 x4 x5 x6).take b,x.bel b=true):∀x∈(six F s r c m1 m2 m3 y1 y2 x3 y4 y5 y6).take b,x.bel b=true:=by
 have key:∀i,i<b->∀y,(six F s r c m1 m2 m3 x1 x2 x3 x4 x5 x6)[i]?=some y->y.bel b=true:=fun i hi y e=>hb y (List.mem_iff_getElem?.2 ⟨i,by rw[List.getElem?_take_of_lt hi];exact e⟩)
 intro x hx
 obtain⟨i,e⟩:=List.mem_iff_getElem?.1 hx
 by_cases hi:i<b
 ·rw[List.getElem?_take_of_lt hi]at e
  have g:=zpw h (x1:=y1) (x2:=y2) (x3:=x3) (x4:=y4) (x5:=y5) (x6:=y6)
  have g':=zpw h (x1:=x1) (x2:=x2) (x3:=x3) (x4:=x4) (x5:=x5) (x6:=x6)
  by_cases e1:s=i
  ·subst e1;rw[g.1]at e;cases e;exact h1 (key _ hi _ g'.1)
  ·by_cases e2:r=i
   ·subst e2;rw[g.2.1]at e;cases e;exact h2
   ·by_cases e3:c=i
    ·subst e3;rw[g.2.2.1]at e;cases e;exact key _ hi _ g'.2.2.1
    ·by_cases e4:m1=i
     ·subst e4;rw[g.2.2.2.1]at e;cases e;exact h4
     ·by_cases e5:m2=i
      ·subst e5;rw[g.2.2.2.2.1]at e;cases e;exact h5
      ·by_cases e6:m3=i
       ·subst e6;rw[g.2.2.2.2.2]at e;cases e;exact h6
       ·rw[zpy h e1 e2 e3 e4 e5 e6]at e
        exact key _ hi _ (by rw[zpy h e1 e2 e3 e4 e5 e6];exact e)
 ·rw[YAR (by simp;omega)]at e;cases e
def hpC(F:List AObj)(s r c m1 m2 m3 v:Nat)(L:Mem)(lim cnt rd:Int)(to Z M:List (Int×Int)):List AObj:=
 six F s r c m1 m2 m3 (bxS r v L.length lim cnt rd) (arS v L) (cpB s m1 m2 m3) (.map (embM to)) (.map (embM Z)) (.map (embM M))
theorem zoa{b v v':Nat}{L L':Mem}{lim cnt rd lim' cnt' rd':Int}{to to' Z Z' M M':List (Int×Int)}(h:SixD F s r c m1 m2 m3)(hb:∀x∈(hpC F s r c m1 m2 m3 v L lim cnt rd to Z M).take b,x.bel b=true):
 ∀x∈(hpC F s r c m1 m2 m3 v' L' lim' cnt' rd' to' Z' M').take b,x.bel b=true:=
 zpv h (fun h=>zD1 h) (zCa _ _ _) (zGW _ _) (zGW _ _) (zGW _ _) hb
end
end Go.Proofs.Ytdngjamjccjlmaa
