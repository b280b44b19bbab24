/- Arguments of laws that are binds. No condition. -/
import Derived.Test.YtmpegnogdgbleaaLawS
import Derived.Test.YtmpegnogdgbleaaPPa
set_option linter.unusedSimpArgs false
set_option maxRecDepth 100000
namespace Go.Proofs.Ytmpegnogdgbleaa
open Go Go.Ab
def zsn:List Nat:=[3,4,9,24,22,44,25]
theorem zso:zKv C zsn=true:=by decide
theorem zsW{n:Nat}{cs:List AV}(h:Shp C n 44 cs):∃p:Bd,cs=cellsOf (embB p):=by
 cases n with
 |zero=>exact h.elim
 |succ n=>
  have h':cs.length=4/\∀p∈[(0,3),(1,24)],Shp C n p.2 ((cs.drop p.1).take (zWC C p.2)):=h
  obtain⟨hl,hf⟩:=h'
  obtain⟨x,y,z,w,rfl⟩:∃x y z w,cs=[x,y,z,w]:=by
   match cs,hl with
   | [x,y,z,w],_=>exact⟨x,y,z,w,rfl⟩
  obtain⟨k,hk⟩:=zVu (hf (0,3) (by simp))
  obtain⟨t,ht⟩:=zVz n (hf (1,24) (by simp))
  have e1:x= .int .i64 k:=by have: [x]=[AV.int .i64 k]:=hk;simpa using this
  have e2: [y,z,w]=[.int .i64 t.kind,.int .i64 t.num,.sl (t.kids.map emb) .no]:=by rw[<-zGy];exact ht
  exact⟨(k,t),by rw[zGI,e1,e2]⟩
section
variable {H : Type} {enc : TypeId × Value -> H} {W : World} {r : Reach} {b0 : Nat} {spare : Nat -> Bool} {held : Bool} {v : Value} {d : DataW H} {ps : List MemPlace}
theorem zqp(hval:Value.okWide Try.prog W r b0 25 v)(hd:DataW.Trod enc Try.prog W 0 spare held 25 v d ps):∃l:List Bd,Rep (zah W) v (.sl (l.map embB) .no):=by
 obtain⟨a,n,h1,h2,h3⟩:=zCi C_ok zso (by decide) zkm hval hd
 rw[if_neg (by decide)]at h3
 obtain⟨y,rfl,hy⟩:=h3
 cases n with
 |zero=>exact h2.elim
 |succ n=>
  have h4:∃es,cellsOf a=[AV.sl es .no]/\∀x∈es,Shp C n 44 (cellsOf x)/\if aggT C 44 then∃ys,x= .agg ys else∃y,x=y/\y.one=true:=h2
  obtain⟨es,h5,h6⟩:=h4
  have key:∀es:List AV,(∀x∈es,Shp C n 44 (cellsOf x)/\if aggT C 44 then∃ys,x= .agg ys else∃y,x=y/\y.one=true)->∃l:List Bd,es=l.map embB:=by
   intro es
   induction es with
   |nil=>intro _;exact⟨[],rfl⟩
   |cons a es ih2=>
    intro h
    obtain⟨l,rfl⟩:=ih2 fun x hx=>h x (YAT _ hx)
    obtain⟨h7,h8⟩:=h a YAU
    obtain⟨p,hp⟩:=zsW h7
    rw[if_pos (by decide)]at h8
    obtain⟨ys,rfl⟩:=h8
    refine⟨p::l,?_⟩
    rw[List.map_cons,zrE]
    have:ys=cellsOf (embB p):=hp
    rw[this,zGI]
  obtain⟨l,rfl⟩:=key es h6
  refine⟨l,?_⟩
  have:a= .sl (l.map embB) .no:=zRb hy h5
  rw[<-this];exact h1
end
end Go.Proofs.Ytmpegnogdgbleaa
