/- Lemmas: how a law of patterns is said. No condition. -/
import Derived.Test.YtdngjamjccjlmaaGreatPLa
import Derived.Test.YtdngjamjccjlmaaGreatPYa
set_option linter.unusedSimpArgs false
set_option maxRecDepth 100000
namespace Go.Proofs.YtdngjamjccjlmaaGreat
open Go Go.Ab
section
theorem zVt{n:Nat}{cs:List AV}(h:Shp C n 2 cs):∃m,cs=[.int .i64 m]:=by
 cases n with
 |zero=>exact h.elim
 |succ n=>exact h
theorem zVx{n:Nat}{x y:AV}(h:Shp C n 26 [x,y]):∃a b,x= .int .i64 a/\y= .int .i64 b:=by
 cases n with
 |zero=>exact h.elim
 |succ n=>
  have h': [x,y].length=2/\∀p∈[(0,3),(1,3)],Shp C n p.2 (([x,y].drop p.1).take (zWC C p.2)):=h
  obtain⟨a,ha⟩:=zVu (h'.2 (0,3) (by simp))
  obtain⟨b,hb⟩:=zVu (h'.2 (1,3) (by simp))
  refine⟨a,b,?_,?_⟩
  ·have: [x]=[AV.int .i64 a]:=ha
   simpa using this
  ·have: [y]=[AV.int .i64 b]:=hb
   simpa using this
theorem zVy{n:Nat}{cs:List AV}(h:Shp C n 9 cs):∃s,cs=[.str s]:=by
 cases n with
 |zero=>exact h.elim
 |succ n=>exact h
theorem zVv{α:Type}{emb:α->AV}{t n:Nat}(he:∀x,emb x= .agg (cellsOf (emb x)))(ha:aggT C t=true)(ih:∀ {cs:List AV},Shp C n t cs->∃x:α,cs=cellsOf (emb x)):
 ∀es:List AV,(∀x∈es,Shp C n t (cellsOf x)/\if aggT C t then∃ys,x= .agg ys else∃y,x=y/\y.one=true)->∃l:List α,es=l.map emb:=by
 intro es
 induction es with
 |nil=>intro _;exact⟨[],rfl⟩
 |cons a es ih2=>
  intro h
  obtain⟨l,rfl⟩:=ih2 fun x hx=>h x (YAT _ hx)
  obtain⟨h7,h8⟩:=h a YAU
  obtain⟨t,ht⟩:=ih h7
  rw[if_pos ha]at h8
  obtain⟨ys,rfl⟩:=h8
  refine⟨t::l,?_⟩
  rw[List.map_cons,he]
  have:ys=cellsOf (emb t):=ht
  rw[this]
theorem zEg{x:AV}{l:List AV}(h:x= .agg l):x= .agg (cellsOf x):=by subst h;rfl
def zSi:List Nat:=[3,2,26,9,29,27]
theorem zSj:zKv C zSi=true:=by decide
theorem zVw:∀(n:Nat) {cs:List AV},Shp C n 29 cs->∃t:Pt,cs=cellsOf (embP t):=by
 intro n
 induction n using Nat.strongRecOn with
 |_ n ih=>
  intro cs h
  cases n with
  |zero=>exact h.elim
  |succ n=>
   have h':cs.length=7/\∀p∈[(0,3),(1,26),(3,9),(4,2),(5,9),(6,27)],Shp C n p.2 ((cs.drop p.1).take (zWC C p.2)):=h
   obtain⟨hl,hf⟩:=h'
   obtain⟨x0,x1,x2,x3,x4,x5,x6,rfl⟩:∃x0 x1 x2 x3 x4 x5 x6,cs=[x0,x1,x2,x3,x4,x5,x6]:=by
    match cs,hl with
    | [x0,x1,x2,x3,x4,x5,x6],_=>exact⟨x0,x1,x2,x3,x4,x5,x6,rfl⟩
   obtain⟨k,hk⟩:=zVu (hf (0,3) (by simp))
   obtain⟨a,b,e1,e2⟩:=zVx (hf (1,26) (by simp))
   obtain⟨m,hm⟩:=zVy (hf (3,9) (by simp))
   obtain⟨i,hi⟩:=zVt (hf (4,2) (by simp))
   obtain⟨s,hs⟩:=zVy (hf (5,9) (by simp))
   have h3:=hf (6,27) (by simp)
   have e0:x0= .int .i64 k:=by have: [x0]=[AV.int .i64 k]:=hk;simpa using this
   have e3:x3= .str m:=by have: [x3]=[AV.str m]:=hm;simpa using this
   have e4:x4= .int .i64 i:=by have: [x4]=[AV.int .i64 i]:=hi;simpa using this
   have e5:x5= .str s:=by have: [x5]=[AV.str s]:=hs;simpa using this
   cases n with
   |zero=>exact h3.elim
   |succ n=>
    have h4:∃es,[x6]=[AV.sl es .no]/\∀x∈es,Shp C n 29 (cellsOf x)/\if aggT C 29 then∃ys,x= .agg ys else∃y,x=y/\y.one=true:=h3
    obtain⟨es,h5,h6⟩:=h4
    obtain⟨l,rfl⟩:=zVv (emb:=embP) (fun x=>zEg (zGj x)) (by decide) (ih n (by omega)) es h6
    have e6:x6= .sl (l.map embP) .no:=by simpa using h5
    exact⟨.mk k a b m i s l,by rw[e0,e1,e2,e3,e4,e5,e6,zGi];rfl⟩
section
variable {H : Type} {enc : TypeId × Value -> H} {W : World} {r : Reach} {b0 : Nat} {spare : Nat -> Bool} {held : Bool} {v : Value} {d : DataW H} {ps : List MemPlace}
theorem zCh(hval:Value.okWide Tryz.prog W r b0 29 v)(hd:DataW.Trod enc Tryz.prog W 0 spare held 29 v d ps):∃t:Pt,Rep (zah W) v (embP t):=by
 obtain⟨a,n,h1,h2,h3⟩:=zCi C_ok zSj (by decide) zZm hval hd
 rw[if_pos (by decide)]at h3
 obtain⟨ys,rfl⟩:=h3
 obtain⟨t,ht⟩:=zVw n h2
 refine⟨t,?_⟩
 rw[zEg (zGj t),<-ht];exact h1
end
end
end Go.Proofs.YtdngjamjccjlmaaGreat
