/- Lemmas: how a law is said. No condition. -/
import Derived.Test.YtdngjamjccjlmaaRows
import Derived.Test.YtdngjamjccjlmaaPTa
import Derived.Test.YtdngjamjccjlmaaPAb
import Derived.ProofKit
set_option linter.unusedSimpArgs false
set_option maxRecDepth 100000
namespace Go.Proofs.Ytdngjamjccjlmaa
open Go Go.Ab
open Go
section
theorem zMt:ownKnob Try.prog.godebug=none:=by kernel_rfl
theorem zMs:laidOutB Try.prog=true:=by kernel_rfl
def zYy:List Nat:=[3,4,9,24,22,173]
theorem zdB:zKv C zYy=true:=by decide
theorem zVu{n:Nat}{cs:List AV}(h:Shp C n 3 cs):∃m,cs=[.int .i64 m]:=by
 cases n with
 |zero=>exact h.elim
 |succ n=>exact h
theorem zVz:∀(n:Nat) {cs:List AV},Shp C n 24 cs->∃t:Ty,cs=cellsOf (emb t):=by
 intro n
 induction n using Nat.strongRecOn with
 |_ n ih=>
  intro cs h
  cases n with
  |zero=>exact h.elim
  |succ n=>
   have h':cs.length=3/\∀p∈[(0,3),(1,3),(2,22)],Shp C n p.2 ((cs.drop p.1).take (zWC C p.2)):=h
   obtain⟨hl,hf⟩:=h'
   obtain⟨x,y,z,rfl⟩:∃x y z,cs=[x,y,z]:=by
    match cs,hl with
    | [x,y,z],_=>exact⟨x,y,z,rfl⟩
   obtain⟨k,hk⟩:=zVu (hf (0,3) (by simp))
   obtain⟨m,hm⟩:=zVu (hf (1,3) (by simp))
   have h3:=hf (2,22) (by simp)
   have e1:x= .int .i64 k:=by have: [x]=[AV.int .i64 k]:=hk;simpa using this
   have e2:y= .int .i64 m:=by have: [y]=[AV.int .i64 m]:=hm;simpa using this
   cases n with
   |zero=>exact h3.elim
   |succ n=>
    have h4:∃es,[z]=[AV.sl es .no]/\∀x∈es,Shp C n 24 (cellsOf x)/\if aggT C 24 then∃ys,x= .agg ys else∃y,x=y/\y.one=true:=h3
    obtain⟨es,h5,h6⟩:=h4
    have e3:z= .sl es .no:=by simpa using h5
    have key:∀es:List AV,(∀x∈es,Shp C n 24 (cellsOf x)/\if aggT C 24 then∃ys,x= .agg ys else∃y,x=y/\y.one=true)->∃l:List Ty,es=l.map emb:=by
     intro es
     induction es with
     |nil=>intro _;exact⟨[],rfl⟩
     |cons a es ih2=>
      intro h
      obtain⟨l,rfl⟩:=ih2 fun x hx=>h x (YAT _ hx)
      obtain⟨h7,h8⟩:=h a YAU
      obtain⟨t,ht⟩:=ih n (by omega) h7
      rw[if_pos (by decide)]at h8
      obtain⟨ys,rfl⟩:=h8
      refine⟨t::l,?_⟩
      rw[List.map_cons,zGz]
      have:ys=cellsOf (emb t):=ht
      rw[this,zGy]
    obtain⟨l,rfl⟩:=key es h6
    exact⟨.mk k m l,by rw[e1,e2,e3,zGy];rfl⟩
section
variable {H : Type} {enc : TypeId × Value -> H} {W : World} {r : Reach} {b0 : Nat} {spare : Nat -> Bool} {held : Bool} {v : Value} {d : DataW H} {ps : List MemPlace}
theorem zd5(hval:Value.okWide Try.prog W r b0 3 v)(hd:DataW.Trod enc Try.prog W 0 spare held 3 v d ps):∃n:Int,Rep (zah W) v (.int .i64 n):=by
 obtain⟨a,n,h1,h2,h3⟩:=zCi C_ok zdB (by decide) ty_3 hval hd
 obtain⟨m,hm⟩:=zVu h2
 rw[if_neg (by decide)]at h3
 obtain⟨y,rfl,hy⟩:=h3
 refine⟨m,?_⟩
 have:a= .int .i64 m:=zRb hy hm
 rw[<-this];exact h1
end
end
section
def ioL:List Char:=['h','a','r','n','e','s','s',' ','e','c','3','0','6','2','d','c','9','4','d','2','d','1','b','d','8','8','b','8','8','1','2','d','c','9','6','7','f','4','9','0','8','c','e','f','0','3','1','b','2','0','1','6','2','4','8','a','8','3','c','d','f','0','1','2','3','2','0','2','0','6','f','e',' ','c','u','t',' ','a','t',' ','s','u','r','e','t','y','/','s','u','r','e','t','y','l','a','w','1','2','.','S','t','o','r','e','L','i','n','k','s',' ','s','u','r','e','t','y','/','s','u','r','e','t','y','l','a','w','1','2','.','S','t','o','r','e','L','i','m','i','t',' ','s','u','r','e','t','y','/','s','u','r','e','t','y','l','a','w','1','2','.','S','t','o','r','e','L','e','v','e','l','s',' ','s','u','r','e','t','y','/','s','u','r','e','t','y','l','a','w','1','2','.','S','t','o','r','e','C','o','p','y',' ','s','u','r','e','t','y','/','s','u','r','e','t','y','l','a','w','1','2','.','S','t','o','r','e','R','e','a','d',' ','s','u','r','e','t','y','/','s','u','r','e','t','y','l','a','w','1','3','.','S','o','l','v','e','D','y','n',' ','s','u','r','e','t','y','/','s','u','r','e','t','y','l','a','w','1','3','.','S','o','l','v','e','P','l','a','y','s',' ','s','u','r','e','t','y','/','s','u','r','e','t','y','l','a','w','1','3','.','S','o','l','v','e','C','l','o','s','e','d',' ','s','u','r','e','t','y','/','s','u','r','e','t','y','l','a','w','1','2','.','S','t','o','r','e','P','l','a','y','s',' ','s','u','r','e','t','y','/','s','u','r','e','t','y','l','a','w','1','3','.','S','o','l','v','e','S','o','u','n','d',' ','s','u','r','e','t','y','/','s','u','r','e','t','y','l','a','w','1','3','.','S','o','l','v','e','B','o','t','h',' ','s','u','r','e','t','y','/','s','u','r','e','t','y','l','a','w','1','3','.','S','o','l','v','e','C','o','m','p','l','e','t','e',' ','s','u','r','e','t','y','/','s','u','r','e','t','y','l','a','w','1','4','.','P','a','t','s','E','x','a','c','t',' ','s','u','r','e','t','y','/','s','u','r','e','t','y','l','a','w','1','4','.','P','a','t','s','P','a','r','t','s',' ','s','u','r','e','t','y','/','s','u','r','e','t','y','l','a','w','1','4','.','P','a','t','s','O','p','e','n',' ','s','u','r','e','t','y','/','s','u','r','e','t','y','l','a','w','1','4','.','P','a','t','s','F','i','t']
theorem zL4:Try.prog.initOrder=String.ofList ioL:=by kernel_rfl
theorem zL6:Try.prog.initOrder.toList=ioL:=by rw[zL4,String.toList_ofList]
theorem zL8:Try.prog.mayEnter=true:=by
 unfold Program.mayEnter
 rw[zL6]
 kernel_rfl
theorem zL7:Try.prog.make=some .cut:=by
 unfold Program.make
 rw[zL6]
 kernel_rfl
theorem zL5:Try.prog.liftsFinal=false:=by
 unfold Program.liftsFinal Program.headLifts
 rw[zL6]
 kernel_rfl
end
end Go.Proofs.Ytdngjamjccjlmaa
