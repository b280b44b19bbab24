/- Lemmas: two nodes that are made to agree, first part. No condition. -/
import Derived.Test.YtdngjamjccjlmaaPWc
import Derived.Test.YtdngjamjccjlmaaPWb
import Derived.Test.YtdngjamjccjlmaaPWe
set_option linter.unusedSimpArgs false
set_option linter.unusedVariables false
namespace Go.Proofs.Ytdngjamjccjlmaa
open Go Go.Ab
section
structure Sto where
 L:Mem
 v:Nat
 cnt:Int
 rd:Int
def Sto.S(σ:Sto):St:=σ.L.st
def Sto.heap(σ:Sto)(F:List AObj)(s r:Nat)(lim:Int):List AObj:=hpS F s r σ.v σ.L lim σ.cnt σ.rd
def Sto.mark(σ:Sto)(n:Nat):Sto:= {σ with L:=mkL σ.L (σ.rd+1) (σ.L.st.all n),rd:=σ.rd+1}
def Sto.low(σ:Sto)(n:Nat)(lv:Int):Sto:= {σ with L:=lowL (mkL σ.L (σ.rd+1) (σ.L.st.all n)) lv (σ.L.st.vars n),rd:=σ.rd+1}
def Sto.link(σ:Sto)(x y:Nat):Int×Sto:=if x∈σ.L.st.all y then(5,σ.mark y)else(0,{σ with L:=zNL σ.L σ.rd x y,rd:=σ.rd+2})
def Sto.var(σ:Sto)(lv:Int):Sto:= {σ with L:=σ.L++ [varN lv],v:=σ.v+1,cnt:=σ.cnt+1}
def Sto.mk'(σ:Sto)(k:Int)(ks:List Nat):Sto:= {σ with L:=σ.L++ [(⟨k,0,none,ks⟩,0)],v:=σ.v+1,cnt:=σ.cnt+1}
def Sto.become(lim:Int)(σ:Sto)(x y:Nat):Option Nat×Int×Sto:=
 if σ.L.st.kind y=6 then(none,σ.link x y)
 else if 4 ∉ σ.L.st.all y then(none,(σ.mark y).link x y)
 else if x∈σ.L.st.all y then(none,5,(σ.mark y).mark y)
 else match σ.L.st.kids y with
  | [_]=>
   if σ.cnt=lim then(none,7,(σ.mark y).mark y)
   else if σ.cnt+1=lim then(none,7,((σ.mark y).mark y).var (σ.L.st.nd x).level)
   else(some (σ.L.length+1),((((σ.mark y).mark y).var (σ.L.st.nd x).level).mk' (σ.L.st.kind y) [σ.L.length]).link x (σ.L.length+1))
  | [_,_]=>
   if σ.cnt=lim then(none,7,(σ.mark y).mark y)
   else if σ.cnt+1=lim then(none,7,((σ.mark y).mark y).var (σ.L.st.nd x).level)
   else if σ.cnt+2=lim then(none,7,(((σ.mark y).mark y).var (σ.L.st.nd x).level).var (σ.L.st.nd x).level)
   else(some (σ.L.length+2),(((((σ.mark y).mark y).var (σ.L.st.nd x).level).var (σ.L.st.nd x).level).mk' (σ.L.st.kind y) [σ.L.length,σ.L.length+1]).link x (σ.L.length+2))
  |_=>(none,0,σ)
inductive Stp where
 |go (stk:List (Nat×Nat)) (σ:Sto)
 |stop (l r e:Int) (σ:Sto)
def zXk(lim:Int)(p:Nat×Nat)(stk:List (Nat×Nat))(σ:Sto):Stp:=
 let x:=σ.L.st.root p.1
 let y:=σ.L.st.root p.2
 if x=y then .go stk σ
 else if x=4 then .go stk (σ.low y 0)
 else if y=4 then .go stk (σ.low x 0)
 else if σ.L.st.kind x=6 then
  match σ.become lim x y with
  |(m,e,σ')=>if e≠0 then .stop 0 0 e σ' else match m with
   |none=> .go stk σ'
   |some m=> .go ((σ'.L.st.kids m).zip (σ'.L.st.kids y)++stk) σ'
 else if σ.L.st.kind y=6 then
  match σ.become lim y x with
  |(m,e,σ')=>if e≠0 then .stop 0 0 e σ' else match m with
   |none=> .go stk σ'
   |some m=> .go ((σ'.L.st.kids x).zip (σ'.L.st.kids m)++stk) σ'
 else if σ.L.st.kind x≠σ.L.st.kind y then .stop (σ.L.st.kind x) (σ.L.st.kind y) 4 σ
 else .go ((σ.L.st.kids x).zip (σ.L.st.kids y)++stk) σ
def runS(lim:Int):Nat->List (Nat×Nat)->Sto->Option (Int×Int×Int×Sto)
 |_,[],σ=>some (0,0,0,σ)
 |0,_::_,_=>none
 |n+1,p::stk,σ=>match zXk lim p stk σ with
  | .go stk' σ'=>runS lim n stk' σ'
  | .stop l r e σ'=>some (l,r,e,σ')
end
end Go.Proofs.Ytdngjamjccjlmaa
