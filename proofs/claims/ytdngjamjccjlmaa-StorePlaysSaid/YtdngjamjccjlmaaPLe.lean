/- Lemmas: how a law of scripts is said. No condition. -/
import Derived.Test.YtdngjamjccjlmaaPTa
import Derived.Test.YtdngjamjccjlmaaPVa
import Derived.Test.YtdngjamjccjlmaaPLa
set_option linter.defProp false
set_option linter.unusedSimpArgs false
set_option maxRecDepth 100000
namespace Go.Proofs.Ytdngjamjccjlmaa
open Go Go.Ab
open AV renaming belL -> yO, bel -> yN, normL -> yQ, norm -> yP
section
structure SpRec where
 kd:Int
 a:Int
 b:Int
 c:Int
 t:Ty
 fr:List Int
 tt:List Int
instance:Inhabited SpRec:=⟨⟨0,0,0,0,default,[],[]⟩⟩
def zoH(p:SpRec):AV:= .agg [.int .i64 p.kd,.int .i64 p.a,.int .i64 p.b,.int .i64 p.c,.int .i64 p.t.kind,.int .i64 p.t.num,.sl (p.t.kids.map emb) .no,.sl (p.fr.map I64) .no,.sl (p.tt.map I64) .no]
theorem zoK(p:SpRec):zoH p= .agg [.int .i64 p.kd,.int .i64 p.a,.int .i64 p.b,.int .i64 p.c,.int .i64 p.t.kind,.int .i64 p.t.num,.sl (p.t.kids.map emb) .no,.sl (p.fr.map I64) .no,.sl (p.tt.map I64) .no]:=rfl
theorem zoJ(p:SpRec):cellsOf (zoH p)=[.int .i64 p.kd,.int .i64 p.a,.int .i64 p.b,.int .i64 p.c,.int .i64 p.t.kind,.int .i64 p.t.num,.sl (p.t.kids.map emb) .no,.sl (p.fr.map I64) .no,.sl (p.tt.map I64) .no]:=rfl
theorem zoM(p:SpRec):(zoH p).solid=true:=rfl
theorem zoL(p:SpRec):(zoH p).norm=zoH p:=by simp only[zoH,yP,yQ,zOu,zLz]
theorem zoI(m:Nat)(p:SpRec):(zoH p).bel m=true:=by simp only[zoH,yN,yO,zOq,zLy,Bool.and_self]
theorem zoj{l:List SpRec}{i:Nat}(h:i<l.length):(l.map zoH).getD i .any=zoH (l.getD i default):=by simp[h]
end
section
def zp3:List Nat:=[3,33,4,9,24,22,69,67]
theorem zp4:zKv C zp3=true:=by decide
theorem zps{n:Nat}{cs:List AV}(h:Shp C n 33 cs):∃l:List Int,cs=[.sl (l.map I64) .no]:=by
 cases n with
 |zero=>exact h.elim
 |succ n=>
  have h4:∃es,cs=[AV.sl es .no]/\∀x∈es,Shp C n 3 (cellsOf x)/\if aggT C 3 then∃ys,x= .agg ys else∃y,x=y/\y.one=true:=h
  obtain⟨es,h5,h6⟩:=h4
  have key:∀es:List AV,(∀x∈es,Shp C n 3 (cellsOf x)/\if aggT C 3 then∃ys,x= .agg ys else∃y,x=y/\y.one=true)->∃l:List Int,es=l.map I64:=by
   intro es
   induction es with
   |nil=>intro _;exact⟨[],rfl⟩
   |cons a es ih2=>
    intro h
    obtain⟨l,rfl⟩:=ih2 fun x hx=>h x (YAT _ hx)
    obtain⟨h7,h8⟩:=h a YAU
    obtain⟨b,hb⟩:=zVu h7
    rw[if_neg (by decide)]at h8
    obtain⟨y,rfl,hy⟩:=h8
    refine⟨b::l,?_⟩
    have:a= .int .i64 b:=zRb hy hb
    rw[List.map_cons,this];rfl
  obtain⟨l,rfl⟩:=key es h6
  exact⟨l,h5⟩
theorem zpt{n:Nat}{cs:List AV}(h:Shp C n 69 cs):∃p:SpRec,cs=cellsOf (zoH p):=by
 cases n with
 |zero=>exact h.elim
 |succ n=>
  have h':cs.length=9/\∀p∈[(0,3),(1,3),(2,3),(3,3),(4,24),(7,33),(8,33)],Shp C n p.2 ((cs.drop p.1).take (zWC C p.2)):=h
  obtain⟨hl,hf⟩:=h'
  obtain⟨x1,x2,x3,x4,x5,x6,x7,x8,x9,rfl⟩:∃x1 x2 x3 x4 x5 x6 x7 x8 x9,cs=[x1,x2,x3,x4,x5,x6,x7,x8,x9]:=by
   match cs,hl with
   | [x1,x2,x3,x4,x5,x6,x7,x8,x9],_=>exact⟨x1,x2,x3,x4,x5,x6,x7,x8,x9,rfl⟩
  obtain⟨k,hk⟩:=zVu (hf (0,3) (by simp))
  obtain⟨a,ha⟩:=zVu (hf (1,3) (by simp))
  obtain⟨b,hb⟩:=zVu (hf (2,3) (by simp))
  obtain⟨c,hc⟩:=zVu (hf (3,3) (by simp))
  obtain⟨t,ht⟩:=zVz n (hf (4,24) (by simp))
  obtain⟨f,hf1⟩:=zps (hf (7,33) (by simp))
  obtain⟨g,hg⟩:=zps (hf (8,33) (by simp))
  have e0: [x1]=[.int .i64 k]:=hk
  have e1: [x2]=[.int .i64 a]:=ha
  have e2: [x3]=[.int .i64 b]:=hb
  have e3: [x4]=[.int .i64 c]:=hc
  have e4: [x5,x6,x7]=[.int .i64 t.kind,.int .i64 t.num,.sl (t.kids.map emb) .no]:=by rw[<-zGy];exact ht
  have e5: [x8]=[.sl (f.map I64) .no]:=hf1
  have e6: [x9]=[.sl (g.map I64) .no]:=hg
  simp only[List.cons.injEq,and_true]at e0 e1 e2 e3 e4 e5 e6
  obtain⟨rfl,rfl,rfl⟩:=e4
  subst e0 e1 e2 e3 e5 e6
  exact⟨⟨k,a,b,c,t,f,g⟩,rfl⟩
section
variable {H : Type} {enc : TypeId × Value -> H} {W : World} {r : Reach} {b0 : Nat} {spare : Nat -> Bool} {held : Bool} {v : Value} {d : DataW H} {ps : List MemPlace}
theorem zn4(hval:Value.okWide Try.prog W r b0 67 v)(hd:DataW.Trod enc Try.prog W 0 spare held 67 v d ps):∃l:List SpRec,Rep (zah W) v (.sl (l.map zoH) .no):=by
 obtain⟨a,n,h1,h2,h3⟩:=zCi C_ok zp4 (by decide) zZt hval hd
 rw[if_neg (by decide)]at h3
 obtain⟨y,rfl,hy⟩:=h3
 cases n with
 |zero=>exact h2.elim
 |succ n=>
  have h4:∃es,cellsOf a=[AV.sl es .no]/\∀x∈es,Shp C n 69 (cellsOf x)/\if aggT C 69 then∃ys,x= .agg ys else∃y,x=y/\y.one=true:=h2
  obtain⟨es,h5,h6⟩:=h4
  have key:∀es:List AV,(∀x∈es,Shp C n 69 (cellsOf x)/\if aggT C 69 then∃ys,x= .agg ys else∃y,x=y/\y.one=true)->∃l:List SpRec,es=l.map zoH:=by
   intro es
   induction es with
   |nil=>intro _;exact⟨[],rfl⟩
   |cons a es ih2=>
    intro h
    obtain⟨l,rfl⟩:=ih2 fun x hx=>h x (YAT _ hx)
    obtain⟨h7,h8⟩:=h a YAU
    obtain⟨p,hp⟩:=zpt h7
    rw[if_pos (by decide)]at h8
    obtain⟨ys,rfl⟩:=h8
    refine⟨p::l,?_⟩
    rw[List.map_cons,zoK]
    have:ys=cellsOf (zoH p):=hp
    rw[this,zoJ]
  obtain⟨l,rfl⟩:=key es h6
  refine⟨l,?_⟩
  have:a= .sl (l.map zoH) .no:=zRb hy h5
  rw[<-this];exact h1
end
end
end Go.Proofs.Ytdngjamjccjlmaa
