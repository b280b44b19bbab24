/- Lemmas: how a law of patterns is said. No condition. -/
import Derived.Test.YtdngjamjccjlmaaPLa
import Derived.Test.YtdngjamjccjlmaaPBc
set_option linter.unusedSimpArgs false
set_option maxRecDepth 100000
namespace Go.Proofs.Ytdngjamjccjlmaa
open Go Go.Ab
section
def zYz:List Nat:=[3,4,9,24,22,57,58]
theorem zY0:zKv C zYz=true:=by decide
theorem zgg{n:Nat}{cs:List AV}(h:Shp C n 57 cs):∃p:Pr,cs=cellsOf (embQ p):=by
 cases n with
 |zero=>exact h.elim
 |succ n=>
  have h':cs.length=6/\∀p∈[(0,24),(3,24)],Shp C n p.2 ((cs.drop p.1).take (zWC C p.2)):=h
  obtain⟨hl,hf⟩:=h'
  obtain⟨x1,x2,x3,x4,x5,x6,rfl⟩:∃x1 x2 x3 x4 x5 x6,cs=[x1,x2,x3,x4,x5,x6]:=by
   match cs,hl with
   | [x1,x2,x3,x4,x5,x6],_=>exact⟨x1,x2,x3,x4,x5,x6,rfl⟩
  obtain⟨a,ha⟩:=zVz n (hf (0,24) (by simp))
  obtain⟨b,hb⟩:=zVz n (hf (3,24) (by simp))
  have e1: [x1,x2,x3]=[.int .i64 a.kind,.int .i64 a.num,.sl (a.kids.map emb) .no]:=by rw[<-zGy];exact ha
  have e2: [x4,x5,x6]=[.int .i64 b.kind,.int .i64 b.num,.sl (b.kids.map emb) .no]:=by rw[<-zGy];exact hb
  simp only[List.cons.injEq,and_true]at e1 e2
  obtain⟨rfl,rfl,rfl⟩:=e1
  obtain⟨rfl,rfl,rfl⟩:=e2
  exact⟨(a,b),rfl⟩
section
variable {H : Type} {enc : TypeId × Value -> H} {W : World} {r : Reach} {b0 : Nat} {spare : Nat -> Bool} {held : Bool} {v : Value} {d : DataW H} {ps : List MemPlace}
theorem zd6(hval:Value.okWide Try.prog W r b0 58 v)(hd:DataW.Trod enc Try.prog W 0 spare held 58 v d ps):∃l:List Pr,Rep (zah W) v (.sl (l.map embQ) .no):=by
 obtain⟨a,n,h1,h2,h3⟩:=zCi C_ok zY0 (by decide) zZr hval hd
 rw[if_neg (by decide)]at h3
 obtain⟨y,rfl,hy⟩:=h3
 cases n with
 |zero=>exact h2.elim
 |succ n=>
  have h4:∃es,cellsOf a=[AV.sl es .no]/\∀x∈es,Shp C n 57 (cellsOf x)/\if aggT C 57 then∃ys,x= .agg ys else∃y,x=y/\y.one=true:=h2
  obtain⟨es,h5,h6⟩:=h4
  have key:∀es:List AV,(∀x∈es,Shp C n 57 (cellsOf x)/\if aggT C 57 then∃ys,x= .agg ys else∃y,x=y/\y.one=true)->∃l:List Pr,es=l.map embQ:=by
   intro es
   induction es with
   |nil=>intro _;exact⟨[],rfl⟩
   |cons a es ih2=>
    intro h
    obtain⟨l,rfl⟩:=ih2 fun x hx=>h x (YAT _ hx)
    obtain⟨h7,h8⟩:=h a YAU
    obtain⟨p,hp⟩:=zgg h7
    rw[if_pos (by decide)]at h8
    obtain⟨ys,rfl⟩:=h8
    refine⟨p::l,?_⟩
    rw[List.map_cons,zeG]
    have:ys=cellsOf (embQ p):=hp
    rw[this,zGr]
  obtain⟨l,rfl⟩:=key es h6
  refine⟨l,?_⟩
  have:a= .sl (l.map embQ) .no:=zRb hy h5
  rw[<-this];exact h1
end
end
end Go.Proofs.Ytdngjamjccjlmaa
