/- Arguments of laws as trees, where there are no rows of truth values. No condition. -/
import Derived.Test.YtmpegnogdgbleaaRows
import Derived.Test.YtmpegnogdgbleaaPTa
import Derived.Test.YtmpegnogdgbleaaPAb
import Derived.ProofKit
set_option linter.unusedSimpArgs false
set_option maxRecDepth 100000
namespace Go.Proofs.Ytmpegnogdgbleaa
open Go Go.Ab
theorem zMt:ownKnob Try.prog.godebug=none:=by kernel_rfl
theorem zMs:laidOutB Try.prog=true:=by kernel_rfl
def zkk:List Nat:=[3,4,9,24,22]
theorem zkl:zKv C zkk=true:=by decide
theorem zVu{n:Nat}{cs:List AV}(h:Shp C n 3 cs):∃m,cs=[.int .i64 m]:=by
 cases n with
 |zero=>exact h.elim
 |succ n=>exact h
theorem zVz:∀(n:Nat) {cs:List AV},Shp C n 24 cs->∃t:Ty,cs=cellsOf (emb t):=by
 intro n
 induction n using Nat.strongRecOn with
 |_ n ih=>
  intro cs h
  cases n with
  |zero=>exact h.elim
  |succ n=>
   have h':cs.length=3/\∀p∈[(0,3),(1,3),(2,22)],Shp C n p.2 ((cs.drop p.1).take (zWC C p.2)):=h
   obtain⟨hl,hf⟩:=h'
   obtain⟨x,y,z,rfl⟩:∃x y z,cs=[x,y,z]:=by
    match cs,hl with
    | [x,y,z],_=>exact⟨x,y,z,rfl⟩
   obtain⟨k,hk⟩:=zVu (hf (0,3) (by simp))
   obtain⟨m,hm⟩:=zVu (hf (1,3) (by simp))
   have h3:=hf (2,22) (by simp)
   have e1:x= .int .i64 k:=by have: [x]=[AV.int .i64 k]:=hk;simpa using this
   have e2:y= .int .i64 m:=by have: [y]=[AV.int .i64 m]:=hm;simpa using this
   cases n with
   |zero=>exact h3.elim
   |succ n=>
    have h4:∃es,[z]=[AV.sl es .no]/\∀x∈es,Shp C n 24 (cellsOf x)/\if aggT C 24 then∃ys,x= .agg ys else∃y,x=y/\y.one=true:=h3
    obtain⟨es,h5,h6⟩:=h4
    have e3:z= .sl es .no:=by simpa using h5
    have key:∀es:List AV,(∀x∈es,Shp C n 24 (cellsOf x)/\if aggT C 24 then∃ys,x= .agg ys else∃y,x=y/\y.one=true)->∃l:List Ty,es=l.map emb:=by
     intro es
     induction es with
     |nil=>intro _;exact⟨[],rfl⟩
     |cons a es ih2=>
      intro h
      obtain⟨l,rfl⟩:=ih2 fun x hx=>h x (YAT _ hx)
      obtain⟨h7,h8⟩:=h a YAU
      obtain⟨t,ht⟩:=ih n (by omega) h7
      rw[if_pos (by decide)]at h8
      obtain⟨ys,rfl⟩:=h8
      refine⟨t::l,?_⟩
      rw[List.map_cons,zGz]
      have:ys=cellsOf (emb t):=ht
      rw[this,zGy]
    obtain⟨l,rfl⟩:=key es h6
    exact⟨.mk k m l,by rw[e1,e2,e3,zGy];rfl⟩
section
variable {H : Type} {enc : TypeId × Value -> H} {W : World} {r : Reach} {b0 : Nat} {spare : Nat -> Bool} {held : Bool} {v : Value} {d : DataW H} {ps : List MemPlace}
theorem zb7(hval:Value.okWide Try.prog W r b0 24 v)(hd:DataW.Trod enc Try.prog W 0 spare held 24 v d ps):∃t:Ty,Rep (zah W) v (emb t):=by
 obtain⟨a,n,h1,h2,h3⟩:=zCi C_ok zkl (by decide) zZk hval hd
 rw[if_pos (by decide)]at h3
 obtain⟨ys,rfl⟩:=h3
 obtain⟨t,ht⟩:=zVz n h2
 refine⟨t,?_⟩
 rw[zGz,<-zGy,<-ht];exact h1
end
end Go.Proofs.Ytmpegnogdgbleaa
