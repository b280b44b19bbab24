/- Lemmas: heaps of three and six objects. No condition. -/
import Derived.Test.YtmpegnogdgbleaaPAc
section
/- A heap with a box, an array and a map. No condition. -/
set_option linter.unusedSimpArgs false
set_option linter.unusedVariables false
namespace Go.Ab
open Go
def tri(F:List AObj)(p q m:Nat)(x1 x2 x3:AObj):List AObj:=stF (F.set m x3) p q x1 x2
structure TriD (F:List AObj) (p q m:Nat):Prop where
 hp:p<F.length
 hq:q<F.length
 hm:m<F.length
 d1:p≠q
 d2:p≠m
 d3:q≠m
section
variable {F : List AObj} {p q m : Nat}
theorem TriD.app(h:TriD F p q m)(J:List AObj):TriD (F++J) p q m:=by
 obtain⟨h1,h2,h3,d1,d2,d3⟩:=h
 exact⟨by simp;omega,by simp;omega,by simp;omega,d1,d2,d3⟩
@[simp] theorem zYh {x1 x2 x3:AObj}:(tri F p q m x1 x2 x3).length=F.length:=by simp[tri]
theorem zc5(h:TriD F p q m)(J:List AObj){x1 x2 x3:AObj}:tri F p q m x1 x2 x3++J=tri (F++J) p q m x1 x2 x3:=by
 obtain⟨h1,h2,h3,_⟩:=h
 unfold tri
 rw[zW9 (by simpa using h1) (by simpa using h2),zCW h3]
theorem zc7(h:TriD F p q m){x1 x2 x3:AObj}:(tri F p q m x1 x2 x3)[p]?=some x1/\(tri F p q m x1 x2 x3)[q]?=some x2/\(tri F p q m x1 x2 x3)[m]?=some x3:=by
 obtain⟨h1,h2,h3,d1,d2,d3⟩:=h
 unfold tri stF
 refine⟨?_,?_,?_⟩
 ·rw[zVk (fun e=>d1 e.symm),zVl (by simpa using h1)]
 ·rw[zVl (by simpa using h2)]
 ·rw[zVk d3,zVk d2,zVl h3]
theorem zdA(h:TriD F p q m){G:List AObj}{x1 x2 x3 y:AObj}:(tri G p q m x1 x2 x3).set p y=tri G p q m y x2 x3/\(tri G p q m x1 x2 x3).set q y=tri G p q m x1 y x3/\(tri G p q m x1 x2 x3).set m y=tri G p q m x1 x2 y:=by
 obtain⟨h1,h2,h3,d1,d2,d3⟩:=h
 unfold tri stF
 refine⟨?_,?_,?_⟩
 ·rw[List.set_comm _ _ (fun e=>d1 e.symm),List.set_set]
 ·rw[List.set_set]
 ·rw[List.set_comm _ _ d3,List.set_comm _ _ d2,List.set_set]
theorem zc9{r:Nat}(h1:p≠r)(h2:q≠r)(h3:m≠r){x1 x2 x3:AObj}:(tri F p q m x1 x2 x3)[r]?=F[r]?:=by
 unfold tri stF
 rw[zVk h2,zVk h1,zVk h3]
theorem zc8{r:Nat}(h1:p≠r)(h2:q≠r)(h3:m≠r){x1 x2 x3 y:AObj}:(tri F p q m x1 x2 x3).set r y=tri (F.set r y) p q m x1 x2 x3:=by
 unfold tri stF
 rw[List.set_comm _ _ h2,List.set_comm _ _ h1,List.set_comm _ _ h3]
theorem triP(h:TriD F p q m):
 (∀x1 x2 x3,(tri F p q m x1 x2 x3).length=F.length)/\(∀L x1 x2 x3,(tri (F++L) p q m x1 x2 x3).length=F.length+L.length)/\
 (∀L x1 x2 x3,tri F p q m x1 x2 x3++L=tri (F++L) p q m x1 x2 x3)/\(∀L M x1 x2 x3,tri (F++L) p q m x1 x2 x3++M=tri (F++(L++M)) p q m x1 x2 x3)/\
 (∀x1 x2 x3,(tri F p q m x1 x2 x3)[p]?=some x1)/\(∀L x1 x2 x3,(tri (F++L) p q m x1 x2 x3)[p]?=some x1)/\
 (∀x1 x2 x3,(tri F p q m x1 x2 x3)[q]?=some x2)/\(∀L x1 x2 x3,(tri (F++L) p q m x1 x2 x3)[q]?=some x2)/\
 (∀x1 x2 x3,(tri F p q m x1 x2 x3)[m]?=some x3)/\(∀L x1 x2 x3,(tri (F++L) p q m x1 x2 x3)[m]?=some x3)/\
 (∀G x1 x2 x3 y,(tri G p q m x1 x2 x3).set p y=tri G p q m y x2 x3)/\(∀G x1 x2 x3 y,(tri G p q m x1 x2 x3).set q y=tri G p q m x1 y x3)/\(∀G x1 x2 x3 y,(tri G p q m x1 x2 x3).set m y=tri G p q m x1 x2 y)/\
 (∀L x1 x2 x3,(tri (F++L) p q m x1 x2 x3)[F.length]?=L[0]?)/\(∀L j x1 x2 x3,(tri (F++L) p q m x1 x2 x3)[F.length+j]?=L[j]?)/\
 (∀L x1 x2 x3 y,(tri (F++L) p q m x1 x2 x3).set F.length y=tri (F++L.set 0 y) p q m x1 x2 x3)/\(∀L j x1 x2 x3 y,(tri (F++L) p q m x1 x2 x3).set (F.length+j) y=tri (F++L.set j y) p q m x1 x2 x3)/\
 (∀x1 x2 x3,(tri F p q m x1 x2 x3).take F.length=tri F p q m x1 x2 x3)/\(∀L x1 x2 x3,(tri (F++L) p q m x1 x2 x3).take F.length=tri F p q m x1 x2 x3)/\
 (∀x1 x2 x3,((F.length<=(tri F p q m x1 x2 x3).length)=True))/\(∀L x1 x2 x3,((F.length<=(tri (F++L) p q m x1 x2 x3).length)=True)):=by
 have h1:=h.hp
 have h2:=h.hq
 have h3:=h.hm
 refine⟨fun _ _ _=>zYh,fun L _ _ _=>by rw[zYh,YAJ],fun J _ _ _=>zc5 h J,fun J M _ _ _=>by rw[zc5 (h.app J),List.append_assoc],
  fun _ _ _=>(zc7 h).1,fun J _ _ _=>(zc7 (h.app J)).1,fun _ _ _=>(zc7 h).2.1,fun J _ _ _=>(zc7 (h.app J)).2.1,fun _ _ _=>(zc7 h).2.2,fun J _ _ _=>(zc7 (h.app J)).2.2,
  fun _ _ _ _ _=>(zdA h).1,fun _ _ _ _ _=>(zdA h).2.1,fun _ _ _ _ _=>(zdA h).2.2,fun J _ _ _=> ?_,fun J j _ _ _=> ?_,fun J _ _ _ y=> ?_,fun J j _ _ _ y=> ?_,
  fun _ _ _=> ?_,fun J _ _ _=> ?_,fun _ _ _=>by simp,fun J _ _ _=>by simp⟩
 ·rw[zc9 (by omega) (by omega) (by omega),zCT rfl]
 ·rw[zc9 (by omega) (by omega) (by omega),zCU rfl]
 ·rw[zc8 (by omega) (by omega) (by omega),zCX rfl]
 ·rw[zc8 (by omega) (by omega) (by omega),zCY rfl]
 ·rw[List.take_of_length_le];rw[zYh];exact YAV _
 ·rw[<-zc5 h J,List.take_left' zYh]
theorem zc6{b:Nat}{x1 x2 x3 y1 y2 y3:AObj}(h:TriD F p q m)(h1:x1.bel b=true->y1.bel b=true)(h2:y2.bel b=true)(h3:y3.bel b=true)
 (hb:∀x∈(tri F p q m x1 x2 x3).take b,x.bel b=true):∀x∈(tri F p q m y1 y2 y3).take b,x.bel b=true:=by
 have key:∀i,i<b->∀y,(tri F p q m x1 x2 x3)[i]?=some y->y.bel b=true:=fun i hi y e=>hb y (List.mem_iff_getElem?.2 ⟨i,by rw[List.getElem?_take_of_lt hi];exact e⟩)
 intro x hx
 obtain⟨i,e⟩:=List.mem_iff_getElem?.1 hx
 by_cases hi:i<b
 ·rw[List.getElem?_take_of_lt hi]at e
  have g:=zc7 h (x1:=y1) (x2:=y2) (x3:=y3)
  have g':=zc7 h (x1:=x1) (x2:=x2) (x3:=x3)
  by_cases e1:p=i
  ·subst e1;rw[g.1]at e;cases e;exact h1 (key _ hi _ g'.1)
  ·by_cases e2:q=i
   ·subst e2;rw[g.2.1]at e;cases e;exact h2
   ·by_cases e3:m=i
    ·subst e3;rw[g.2.2]at e;cases e;exact h3
    ·rw[zc9 e1 e2 e3]at e
     exact key _ hi _ (by rw[zc9 e1 e2 e3];exact e)
 ·rw[YAR (by simp;omega)]at e;cases e
end
end Go.Ab
end
section
/- A heap with sxd objects; what calls that write one cell of a box leave as it is. No condition. -/
set_option linter.unusedSimpArgs false
set_option linter.unusedVariables false
namespace Go.Ab
open Go
def sxd(F:List AObj)(s r c m1 m2 m3:Nat)(x1 x2 x3 x4 x5 x6:AObj):List AObj:=stF ((((F.set c x3).set m1 x4).set m2 x5).set m3 x6) s r x1 x2
structure SxdD (F:List AObj) (s r c m1 m2 m3:Nat):Prop where
 hs:s<F.length
 hr:r<F.length
 hc:c<F.length
 h1:m1<F.length
 h2:m2<F.length
 h3:m3<F.length
 d1:s≠r/\s≠c/\s≠m1/\s≠m2/\s≠m3
 d2:r≠c/\r≠m1/\r≠m2/\r≠m3
 d3:c≠m1/\c≠m2/\c≠m3
 d4:m1≠m2/\m1≠m3/\m2≠m3
section
variable {F : List AObj} {s r c m1 m2 m3 : Nat}
theorem SxdD.app(h:SxdD F s r c m1 m2 m3)(J:List AObj):SxdD (F++J) s r c m1 m2 m3:=by
 obtain⟨h1,h2,h3,h4,h5,h6,d1,d2,d3,d4⟩:=h
 exact⟨by simp;omega,by simp;omega,by simp;omega,by simp;omega,by simp;omega,by simp;omega,d1,d2,d3,d4⟩
@[simp] theorem zV4 {x1 x2 x3 x4 x5 x6:AObj}:(sxd F s r c m1 m2 m3 x1 x2 x3 x4 x5 x6).length=F.length:=by simp[sxd]
theorem zXy(h:SxdD F s r c m1 m2 m3)(J:List AObj){x1 x2 x3 x4 x5 x6:AObj}:sxd F s r c m1 m2 m3 x1 x2 x3 x4 x5 x6++J=sxd (F++J) s r c m1 m2 m3 x1 x2 x3 x4 x5 x6:=by
 obtain⟨h1,h2,h3,h4,h5,h6,_⟩:=h
 unfold sxd stF
 rw[zCW (F:=F) h3,zCW (by simpa using h4),zCW (by simpa using h5),zCW (by simpa using h6),zCW (by simpa using h1),zCW (by simpa using h2)]
theorem zX0(h:SxdD F s r c m1 m2 m3){x1 x2 x3 x4 x5 x6:AObj}:
 (sxd F s r c m1 m2 m3 x1 x2 x3 x4 x5 x6)[s]?=some x1/\(sxd F s r c m1 m2 m3 x1 x2 x3 x4 x5 x6)[r]?=some x2/\(sxd F s r c m1 m2 m3 x1 x2 x3 x4 x5 x6)[c]?=some x3/\
 (sxd F s r c m1 m2 m3 x1 x2 x3 x4 x5 x6)[m1]?=some x4/\(sxd F s r c m1 m2 m3 x1 x2 x3 x4 x5 x6)[m2]?=some x5/\(sxd F s r c m1 m2 m3 x1 x2 x3 x4 x5 x6)[m3]?=some x6:=by
 obtain⟨h1,h2,h3,h4,h5,h6,⟨a1,a2,a3,a4,a5⟩,⟨b1,b2,b3,b4⟩,⟨c1,c2,c3⟩,e1,e2,e3⟩:=h
 unfold sxd stF
 refine⟨?_,?_,?_,?_,?_,?_⟩
 ·rw[zVk (by omega),zVl (by simpa using h1)]
 ·rw[zVl (by simpa using h2)]
 ·rw[zVk (by omega),zVk (by omega),zVk (by omega),zVk (by omega),zVk (by omega),zVl h3]
 ·rw[zVk (by omega),zVk (by omega),zVk (by omega),zVk (by omega),zVl (by simpa using h4)]
 ·rw[zVk (by omega),zVk (by omega),zVk (by omega),zVl (by simpa using h5)]
 ·rw[zVk (by omega),zVk (by omega),zVl (by simpa using h6)]
theorem zX3(h:SxdD F s r c m1 m2 m3){G:List AObj}{x1 x2 x3 x4 x5 x6 y:AObj}:
 (sxd G s r c m1 m2 m3 x1 x2 x3 x4 x5 x6).set m1 y=sxd G s r c m1 m2 m3 x1 x2 x3 y x5 x6/\(sxd G s r c m1 m2 m3 x1 x2 x3 x4 x5 x6).set m2 y=sxd G s r c m1 m2 m3 x1 x2 x3 x4 y x6/\(sxd G s r c m1 m2 m3 x1 x2 x3 x4 x5 x6).set m3 y=sxd G s r c m1 m2 m3 x1 x2 x3 x4 x5 y:=by
 obtain⟨h1,h2,h3,h4,h5,h6,⟨a1,a2,a3,a4,a5⟩,⟨b1,b2,b3,b4⟩,⟨c1,c2,c3⟩,e1,e2,e3⟩:=h
 unfold sxd stF
 refine⟨?_,?_,?_⟩
 ·rw[List.set_comm _ _ b2,List.set_comm _ _ a3,List.set_comm (i:=m3) (j:=m1) _ _ (fun h=>e2 h.symm),List.set_comm (i:=m2) (j:=m1) _ _ (fun h=>e1 h.symm),List.set_set]
 ·rw[List.set_comm _ _ b3,List.set_comm _ _ a4,List.set_comm (i:=m3) (j:=m2) _ _ (fun h=>e3 h.symm),List.set_set]
 ·rw[List.set_comm _ _ b4,List.set_comm _ _ a5,List.set_set]
theorem zX2(h:SxdD F s r c m1 m2 m3){q:Nat}(h1:s≠q)(h2:r≠q)(h3:c≠q)(h4:m1≠q)(h5:m2≠q)(h6:m3≠q){x1 x2 x3 x4 x5 x6:AObj}:(sxd F s r c m1 m2 m3 x1 x2 x3 x4 x5 x6)[q]?=F[q]?:=by
 unfold sxd stF
 rw[zVk h2,zVk h1,zVk h6,zVk h5,zVk h4,zVk h3]
theorem zX1{q:Nat}(h1:s≠q)(h2:r≠q)(h3:c≠q)(h4:m1≠q)(h5:m2≠q)(h6:m3≠q){x1 x2 x3 x4 x5 x6 y:AObj}:(sxd F s r c m1 m2 m3 x1 x2 x3 x4 x5 x6).set q y=sxd (F.set q y) s r c m1 m2 m3 x1 x2 x3 x4 x5 x6:=by
 unfold sxd stF
 rw[List.set_comm _ _ h2,List.set_comm _ _ h1,List.set_comm _ _ h6,List.set_comm _ _ h5,List.set_comm _ _ h4,List.set_comm _ _ h3]
theorem zV5(h:SxdD F s r c m1 m2 m3){G:List AObj}{x1 x2 x3 x4 x5 x6 y:AObj}:
 (sxd G s r c m1 m2 m3 x1 x2 x3 x4 x5 x6).set s y=sxd G s r c m1 m2 m3 y x2 x3 x4 x5 x6/\(sxd G s r c m1 m2 m3 x1 x2 x3 x4 x5 x6).set r y=sxd G s r c m1 m2 m3 x1 y x3 x4 x5 x6:=by
 unfold sxd
 exact⟨zXI (fun e=>h.d1.1 e.symm),zXH⟩
theorem sxdP(h:SxdD F s r c m1 m2 m3):
 (∀x1 x2 x3 x4 x5 x6,(sxd F s r c m1 m2 m3 x1 x2 x3 x4 x5 x6).length=F.length)/\(∀L x1 x2 x3 x4 x5 x6,(sxd (F++L) s r c m1 m2 m3 x1 x2 x3 x4 x5 x6).length=F.length+L.length)/\
 (∀L x1 x2 x3 x4 x5 x6,sxd F s r c m1 m2 m3 x1 x2 x3 x4 x5 x6++L=sxd (F++L) s r c m1 m2 m3 x1 x2 x3 x4 x5 x6)/\(∀L M x1 x2 x3 x4 x5 x6,sxd (F++L) s r c m1 m2 m3 x1 x2 x3 x4 x5 x6++M=sxd (F++(L++M)) s r c m1 m2 m3 x1 x2 x3 x4 x5 x6)/\
 (∀x1 x2 x3 x4 x5 x6,(sxd F s r c m1 m2 m3 x1 x2 x3 x4 x5 x6)[s]?=some x1)/\(∀L x1 x2 x3 x4 x5 x6,(sxd (F++L) s r c m1 m2 m3 x1 x2 x3 x4 x5 x6)[s]?=some x1)/\
 (∀x1 x2 x3 x4 x5 x6,(sxd F s r c m1 m2 m3 x1 x2 x3 x4 x5 x6)[r]?=some x2)/\(∀L x1 x2 x3 x4 x5 x6,(sxd (F++L) s r c m1 m2 m3 x1 x2 x3 x4 x5 x6)[r]?=some x2)/\
 (∀x1 x2 x3 x4 x5 x6,(sxd F s r c m1 m2 m3 x1 x2 x3 x4 x5 x6)[c]?=some x3)/\(∀L x1 x2 x3 x4 x5 x6,(sxd (F++L) s r c m1 m2 m3 x1 x2 x3 x4 x5 x6)[c]?=some x3)/\
 (∀x1 x2 x3 x4 x5 x6,(sxd F s r c m1 m2 m3 x1 x2 x3 x4 x5 x6)[m1]?=some x4)/\(∀L x1 x2 x3 x4 x5 x6,(sxd (F++L) s r c m1 m2 m3 x1 x2 x3 x4 x5 x6)[m1]?=some x4)/\
 (∀x1 x2 x3 x4 x5 x6,(sxd F s r c m1 m2 m3 x1 x2 x3 x4 x5 x6)[m2]?=some x5)/\(∀L x1 x2 x3 x4 x5 x6,(sxd (F++L) s r c m1 m2 m3 x1 x2 x3 x4 x5 x6)[m2]?=some x5)/\
 (∀x1 x2 x3 x4 x5 x6,(sxd F s r c m1 m2 m3 x1 x2 x3 x4 x5 x6)[m3]?=some x6)/\(∀L x1 x2 x3 x4 x5 x6,(sxd (F++L) s r c m1 m2 m3 x1 x2 x3 x4 x5 x6)[m3]?=some x6)/\
 (∀G x1 x2 x3 x4 x5 x6 y,(sxd G s r c m1 m2 m3 x1 x2 x3 x4 x5 x6).set m1 y=sxd G s r c m1 m2 m3 x1 x2 x3 y x5 x6)/\(∀G x1 x2 x3 x4 x5 x6 y,(sxd G s r c m1 m2 m3 x1 x2 x3 x4 x5 x6).set m2 y=sxd G s r c m1 m2 m3 x1 x2 x3 x4 y x6)/\(∀G x1 x2 x3 x4 x5 x6 y,(sxd G s r c m1 m2 m3 x1 x2 x3 x4 x5 x6).set m3 y=sxd G s r c m1 m2 m3 x1 x2 x3 x4 x5 y)/\
 (∀L x1 x2 x3 x4 x5 x6,(sxd (F++L) s r c m1 m2 m3 x1 x2 x3 x4 x5 x6)[F.length]?=L[0]?)/\(∀L j x1 x2 x3 x4 x5 x6,(sxd (F++L) s r c m1 m2 m3 x1 x2 x3 x4 x5 x6)[F.length+j]?=L[j]?)/\
 (∀L x1 x2 x3 x4 x5 x6 y,(sxd (F++L) s r c m1 m2 m3 x1 x2 x3 x4 x5 x6).set F.length y=sxd (F++L.set 0 y) s r c m1 m2 m3 x1 x2 x3 x4 x5 x6)/\(∀L j x1 x2 x3 x4 x5 x6 y,(sxd (F++L) s r c m1 m2 m3 x1 x2 x3 x4 x5 x6).set (F.length+j) y=sxd (F++L.set j y) s r c m1 m2 m3 x1 x2 x3 x4 x5 x6)/\
 (∀x1 x2 x3 x4 x5 x6,(sxd F s r c m1 m2 m3 x1 x2 x3 x4 x5 x6).take F.length=sxd F s r c m1 m2 m3 x1 x2 x3 x4 x5 x6)/\(∀L x1 x2 x3 x4 x5 x6,(sxd (F++L) s r c m1 m2 m3 x1 x2 x3 x4 x5 x6).take F.length=sxd F s r c m1 m2 m3 x1 x2 x3 x4 x5 x6)/\
 (∀x1 x2 x3 x4 x5 x6,((F.length<=(sxd F s r c m1 m2 m3 x1 x2 x3 x4 x5 x6).length)=True))/\(∀L x1 x2 x3 x4 x5 x6,((F.length<=(sxd (F++L) s r c m1 m2 m3 x1 x2 x3 x4 x5 x6).length)=True))/\
 (∀G x1 x2 x3 x4 x5 x6 y,(sxd G s r c m1 m2 m3 x1 x2 x3 x4 x5 x6).set s y=sxd G s r c m1 m2 m3 y x2 x3 x4 x5 x6)/\(∀G x1 x2 x3 x4 x5 x6 y,(sxd G s r c m1 m2 m3 x1 x2 x3 x4 x5 x6).set r y=sxd G s r c m1 m2 m3 x1 y x3 x4 x5 x6):=by
 have h1:=h.hs
 have h2:=h.hr
 have h3:=h.hc
 have h4:=h.h1
 have h5:=h.h2
 have h6:=h.h3
 refine⟨fun _ _ _ _ _ _=>zV4,fun L _ _ _ _ _ _=>by rw[zV4,YAJ],fun J _ _ _ _ _ _=>zXy h J,fun J M _ _ _ _ _ _=>by rw[zXy (h.app J),List.append_assoc],
  fun _ _ _ _ _ _=>(zX0 h).1,fun J _ _ _ _ _ _=>(zX0 (h.app J)).1,fun _ _ _ _ _ _=>(zX0 h).2.1,fun J _ _ _ _ _ _=>(zX0 (h.app J)).2.1,fun _ _ _ _ _ _=>(zX0 h).2.2.1,fun J _ _ _ _ _ _=>(zX0 (h.app J)).2.2.1,
  fun _ _ _ _ _ _=>(zX0 h).2.2.2.1,fun J _ _ _ _ _ _=>(zX0 (h.app J)).2.2.2.1,fun _ _ _ _ _ _=>(zX0 h).2.2.2.2.1,fun J _ _ _ _ _ _=>(zX0 (h.app J)).2.2.2.2.1,fun _ _ _ _ _ _=>(zX0 h).2.2.2.2.2,fun J _ _ _ _ _ _=>(zX0 (h.app J)).2.2.2.2.2,
  fun _ _ _ _ _ _ _ _=>(zX3 h).1,fun _ _ _ _ _ _ _ _=>(zX3 h).2.1,fun _ _ _ _ _ _ _ _=>(zX3 h).2.2,fun J _ _ _ _ _ _=> ?_,fun J j _ _ _ _ _ _=> ?_,fun J _ _ _ _ _ _ y=> ?_,fun J j _ _ _ _ _ _ y=> ?_,
  fun _ _ _ _ _ _=> ?_,fun J _ _ _ _ _ _=> ?_,fun _ _ _ _ _ _=>by simp[zV4],fun J _ _ _ _ _ _=>by simp[zV4],fun _ _ _ _ _ _ _ _=>(zV5 h).1,fun _ _ _ _ _ _ _ _=>(zV5 h).2⟩
 ·rw[zX2 (h.app J) (by omega) (by omega) (by omega) (by omega) (by omega) (by omega),zCT rfl]
 ·rw[zX2 (h.app J) (by omega) (by omega) (by omega) (by omega) (by omega) (by omega),zCU rfl]
 ·rw[zX1 (by omega) (by omega) (by omega) (by omega) (by omega) (by omega),zCX rfl]
 ·rw[zX1 (by omega) (by omega) (by omega) (by omega) (by omega) (by omega),zCY rfl]
 ·rw[List.take_of_length_le];rw[zV4];exact YAV _
 ·rw[<-zXy h J,List.take_left' zV4]
theorem zXz{b:Nat}{x1 x2 x3 x4 x5 x6 y1 y2 y4 y5 y6:AObj}(h:SxdD F s r c m1 m2 m3)(h1:x1.bel b=true->y1.bel b=true)(h2:y2.bel b=true)(h4:y4.bel b=true)(h5:y5.bel b=true)(h6:x6.bel b=true->y6.bel b=true)
 (hb:∀x∈(sxd F s r c m1 m2 m3 x1 x2 x3 x4 x5 x6).take b,x.bel b=true):∀x∈(sxd F s r c m1 m2 m3 y1 y2 x3 y4 y5 y6).take b,x.bel b=true:=by
 have key:∀i,i<b->∀y,(sxd F s r c m1 m2 m3 x1 x2 x3 x4 x5 x6)[i]?=some y->y.bel b=true:=fun i hi y e=>hb y (List.mem_iff_getElem?.2 ⟨i,by rw[List.getElem?_take_of_lt hi];exact e⟩)
 intro x hx
 obtain⟨i,e⟩:=List.mem_iff_getElem?.1 hx
 by_cases hi:i<b
 ·rw[List.getElem?_take_of_lt hi]at e
  have g:=zX0 h (x1:=y1) (x2:=y2) (x3:=x3) (x4:=y4) (x5:=y5) (x6:=y6)
  have g':=zX0 h (x1:=x1) (x2:=x2) (x3:=x3) (x4:=x4) (x5:=x5) (x6:=x6)
  by_cases e1:s=i
  ·subst e1;rw[g.1]at e;cases e;exact h1 (key _ hi _ g'.1)
  ·by_cases e2:r=i
   ·subst e2;rw[g.2.1]at e;cases e;exact h2
   ·by_cases e3:c=i
    ·subst e3;rw[g.2.2.1]at e;cases e;exact key _ hi _ g'.2.2.1
    ·by_cases e4:m1=i
     ·subst e4;rw[g.2.2.2.1]at e;cases e;exact h4
     ·by_cases e5:m2=i
      ·subst e5;rw[g.2.2.2.2.1]at e;cases e;exact h5
      ·by_cases e6:m3=i
       ·subst e6;rw[g.2.2.2.2.2]at e;cases e;exact h6 (key _ hi _ g'.2.2.2.2.2)
       ·rw[zX2 h e1 e2 e3 e4 e5 e6]at e
        exact key _ hi _ (by rw[zX2 h e1 e2 e3 e4 e5 e6];exact e)
 ·rw[YAR (by simp;omega)]at e;cases e
theorem zq7{r r0 q:Nat}(h:zll r r0 0 q):r=r0->q≠0:=by
 unfold zll at h
 rwa[if_neg (by decide)]at h
theorem zkc(h:SxdD F s r c m1 m2 m3){cs cs':List AV}{v1 v2 z1 z2:Nat}{es1 es2:List AV}{x3 x6:AObj}{a1 a2 b1 b2:List (AV×AV)}(hl:cs'.length=cs.length)(hq:∀q,q≠0->cs'.getD q .any=cs.getD q .any):
 zAE (sxd F s r c m1 m2 m3 (.box cs) (.arr v1 z1 es1) x3 (.map a1) (.map b1) x6) (sxd F s r c m1 m2 m3 (.box cs') (.arr v2 z2 es2) x3 (.map a2) (.map b2) x6) s 0:=by
 refine⟨by simp,fun q=> ?_⟩
 have g:=zX0 h (x1:= .box cs) (x2:= .arr v1 z1 es1) (x3:=x3) (x4:= .map a1) (x5:= .map b1) (x6:=x6)
 have g':=zX0 h (x1:= .box cs') (x2:= .arr v2 z2 es2) (x3:=x3) (x4:= .map a2) (x5:= .map b2) (x6:=x6)
 by_cases e1:s=q
 ·subst e1
  rw[g.1,g'.1]
  exact⟨fun x hx=>⟨cs',rfl,by cases hx;exact⟨hl,fun q k=>hq q (zq7 k rfl)⟩⟩,fun x hx=>⟨cs,rfl,by cases hx;exact⟨hl,fun q k=>hq q (zq7 k rfl)⟩⟩⟩
 ·by_cases e2:r=q
  ·subst e2;rw[g.2.1,g'.2.1];exact⟨fun x hx=>(by cases hx),fun x hx=>(by cases hx)⟩
  ·by_cases e3:c=q
   ·subst e3;rw[g.2.2.1,g'.2.2.1];exact⟨fun x hx=>⟨x,hx,rfl,fun _ _=>rfl⟩,fun x hx=>⟨x,hx,rfl,fun _ _=>rfl⟩⟩
   ·by_cases e4:m1=q
    ·subst e4;rw[g.2.2.2.1,g'.2.2.2.1];exact⟨fun x hx=>(by cases hx),fun x hx=>(by cases hx)⟩
    ·by_cases e5:m2=q
     ·subst e5;rw[g.2.2.2.2.1,g'.2.2.2.2.1];exact⟨fun x hx=>(by cases hx),fun x hx=>(by cases hx)⟩
     ·by_cases e6:m3=q
      ·subst e6;rw[g.2.2.2.2.2,g'.2.2.2.2.2];exact⟨fun x hx=>⟨x,hx,rfl,fun _ _=>rfl⟩,fun x hx=>⟨x,hx,rfl,fun _ _=>rfl⟩⟩
      ·rw[zX2 h e1 e2 e3 e4 e5 e6,zX2 h e1 e2 e3 e4 e5 e6];exact⟨fun x hx=>⟨x,hx,rfl,fun _ _=>rfl⟩,fun x hx=>⟨x,hx,rfl,fun _ _=>rfl⟩⟩
end
theorem zfrI{C:Cfg}{e:Nat->AV}{F F':List AObj}{b n g:Nat}(hz:C.zfr=some (0,0))(he:e 0= .bptr g 0)(h:zAE F F' g 0):ZFr C (FS e F b n) F':=by
 unfold ZFr
 rw[hz]
 intro r0 h0
 have:e 0= .bptr r0 0:=h0
 rw[he]at this
 cases this
 rw[zID];exact h
theorem exB{g o:Nat}{p:Nat->Prop}:(∃r0,AV.bptr g o=AV.bptr r0 0/\p r0)=(o=0/\p g):=by
 simp only[YAb]
 constructor
 ·rintro⟨r0,h1,h2⟩;cases h1;exact⟨rfl,h2⟩
 ·rintro⟨rfl,h2⟩;exact⟨g,rfl,h2⟩
theorem exB0{g:Nat}:(∃r0,AV.bptr g 0=AV.bptr r0 0)=True:=by simp only[YAb,iff_true];exact⟨g,rfl⟩
theorem zjP(r0 o0 n:Nat):LdOK r0 o0 (.tup []) n=True:=rfl
theorem zjO(r0 r off n:Nat):LdOK r0 0 (.bptr r off) n=(r=r0->0<off\/off+n<=0):=by
 simp[LdOK]
end Go.Ab
end
