/- Lemmas: trees and coercions in plain Lean. No condition. -/
import Derived.Test.YtmpegnogdgbleaaPTa
import Derived.Test.YtmpegnogdgbleaaPAb
set_option linter.unusedSimpArgs false
set_option linter.unusedVariables false
set_option maxHeartbeats 4000000
namespace Go.Proofs.Ytmpegnogdgbleaa
open Go Go.Ab
section
theorem Ty.ind{p:Ty->Prop}(h:∀t,(∀x∈t.kids,p x)->p t):∀t,p t:=by
 intro t
 have key:∀(n:Nat) (t:Ty),SizeOf.sizeOf t<=n->p t:=by
  intro n
  induction n with
  |zero=>intro t hs;cases t;simp at hs
  |succ n ih=>
   rintro⟨k,m,l⟩ hs
   refine h _ fun x hx=>ih x ?_
   have:=List.sizeOf_lt_of_mem (show x∈l from hx)
   simp only[Ty.mk.sizeOf_spec]at hs;omega
 exact key _ t (YAV _)
def Ty.kid(t:Ty)(i:Nat):Ty:=t.kids.getD i default
def allN(n:Nat)(g:Nat->Bool):Bool:=(List.range n).all g
theorem zB4{n i:Nat}{g:Nat->Bool}(h:i<n)(hg:g i=false):allN n g=false:=by
 cases h0:allN n g with
 |false=>rfl
 |true=>simp only[allN,List.all_eq_true,List.mem_range]at h0;rw[h0 i h]at hg;cases hg
theorem zB7{n:Nat}{g:Nat->Bool}(h:∀i,i<n->g i=true):allN n g=true:=by
 simp only[allN,List.all_eq_true,List.mem_range];exact h
theorem zB5{n:Nat}{g:Nat->Bool}:allN n g=true ↔ ∀i,i<n->g i=true:=by
 simp only[allN,List.all_eq_true,List.mem_range]
theorem zB8(g:Nat->Bool):allN 0 g=true:=rfl
theorem zB6(n:Nat)(g:Nat->Bool):allN (n+1) g=(g 0&&allN n fun i=>g (i+1)):=by
 rw[Bool.eq_iff_iff,YAA,zB5,zB5]
 constructor
 ·intro h;exact⟨h 0 (by omega),fun i hi=>h (i+1) (by omega)⟩
 ·rintro⟨h0,h1⟩ i hi
  cases i with
  |zero=>exact h0
  |succ i=>exact h1 i (by omega)
def arity(k:Int):Int:=
 if k=1\/k=2\/k=3\/k=4\/k=5\/k=6 then 0 else if k=8 then 1 else if k=7\/k=9 then 2 else-1
def okN(t:Ty):Bool:=decide ((t.kids.length:Int)=arity t.kind)&&(if t.kind=6 then decide (0<=t.num)&&decide (t.num<=1048576)else decide (t.num=0))
mutual
def right:Ty->Bool
 | .mk k n l=>okN (.mk k n l)&&zTu l
def zTu:List Ty->Bool
 | []=>true
 |t::l=>right t&&zTu l
end
theorem zTv:∀l,zTu l=allN l.length fun i=>right (l.getD i default)
 | []=>rfl
 |t::l=>by rw[zTu,List.length_cons,zB6,zTv l];rfl
theorem right_eq(t:Ty):right t=(okN t&&allN t.kids.length fun i=>right (t.kid i)):=by
 cases t with|mk k n l=>rw[right,zTv];rfl
mutual
def same:Ty->Ty->Bool
 | .mk k n l,.mk k' n' l'=>decide (k=k')&&decide (n=n')&&zVL l l'
def zVL:List Ty->List Ty->Bool
 | [],[]=>true
 |a::l,b::l'=>same a b&&zVL l l'
 |_,_=>false
end
theorem zVM:∀l l',zVL l l'=(decide (l.length=l'.length)&&allN l.length fun i=>same (l.getD i default) (l'.getD i default))
 | [],[]=>rfl
 | [],_::_=>rfl
 |_::_,[]=>rfl
 |a::l,b::l'=>by
  rw[zVL,List.length_cons,List.length_cons,zB6,zVM l l']
  simp[Bool.and_left_comm]
theorem same_eq(a b:Ty):same a b=(decide (a.kind=b.kind)&&decide (a.num=b.num)&&decide (a.kids.length=b.kids.length)&&allN a.kids.length fun i=>same (a.kid i) (b.kid i)):=by
 cases a with|mk k n l=>cases b with|mk k' n' l'=>rw[same,zVM];simp only[Ty.kind,Ty.num,Ty.kids,Ty.kid,Bool.and_assoc];rfl
end
section
mutual
def nodes:Ty->Nat
 | .mk _ _ l=>1+zQW l
def zQW:List Ty->Nat
 | []=>0
 |t::l=>nodes t+zQW l
end
mutual
def depth:Ty->Nat
 | .mk _ _ l=>zFh l+1
def zFh:List Ty->Nat
 | []=>0
 |t::l=>max (depth t) (zFh l)
end
theorem zQZ(t:Ty):nodes t=1+zQW t.kids:=by cases t;rfl
theorem zQa(t:Ty):0<nodes t:=by rw[zQZ];omega
theorem zQY{x:Ty}:∀ {l:List Ty},x∈l->nodes x<=zQW l
 |a::l,h=>by
  rcases List.mem_cons.1 h with rfl|h
  ·simp[zQW]
  ·have:=zQY h;simp[zQW];omega
theorem zch{t x:Ty}(h:x∈t.kids):nodes x<nodes t:=by have:=zQY h;rw[zQZ t];omega
theorem zNC:∀l:List Ty,l.length<=zQW l
 | []=>YAV _
 |a::l=>by have:=zNC l;have:=zQa a;simp[zQW];omega
theorem zND(t:Ty):t.kids.length<nodes t:=by have:=zNC t.kids;rw[zQZ];omega
mutual
theorem zFj:∀t,depth t<=nodes t
 | .mk _ _ l=>by have:=zFi l;simp[depth,nodes];omega
theorem zFi:∀l,zFh l<=zQW l
 | []=>YAV _
 |t::l=>by have:=zFi l;have:=zFj t;simp[zFh,zQW];omega
end
mutual
def without(k:Int):Ty->Bool
 | .mk k' _ l=>decide (k'≠k)&&za2 k l
def za2(k:Int):List Ty->Bool
 | []=>true
 |t::l=>without k t&&za2 k l
end
theorem za3(k:Int):∀l,za2 k l=allN l.length fun i=>without k (l.getD i default)
 | []=>rfl
 |t::l=>by rw[za2,List.length_cons,zB6,za3 k l];rfl
theorem za4(k:Int)(t:Ty):without k t=(decide (t.kind≠k)&&allN t.kids.length fun i=>without k (t.kid i)):=by
 cases t with|mk k n l=>rw[without,za3];rfl
def dynT:Ty:= .mk 5 0 []
def zM6(k:Int):Ty:= .mk k 0 []
def twoT(k:Int)(a b:Ty):Ty:= .mk k 0 [a,b]
def zNW(a:Ty):Ty:= .mk 8 0 [a]
def zQf:Ty:= .mk 0 0 []
mutual
def agree:Ty->Ty->Bool
 | .mk ka na la,b=>if ka=5 then without 6 b else if b.kind=5 then without 6 (.mk ka na la)else if ka≠b.kind\/na≠b.num then false else zB2 la b.kids
def zB2:List Ty->List Ty->Bool
 | [],_=>true
 |a::l,m=>agree a (m.getD 0 default)&&zB2 l (m.drop 1)
end
mutual
def meet:Ty->Ty->Ty
 | .mk ka na la,b=>if ka=5 then b else if b.kind=5\/la=[]then .mk ka na la else .mk ka 0 (zPD la b.kids)
def zPD:List Ty->List Ty->List Ty
 | [],_=> []
 |a::l,m=>meet a (m.getD 0 default)::zPD l (m.drop 1)
end
mutual
def below:Ty->Ty->Bool
 | .mk ka na la,b=>if b.kind=5 then true else if ka≠b.kind\/na≠b.num then false else zDb la b.kids
def zDb:List Ty->List Ty->Bool
 | [],_=>true
 |a::l,m=>below a (m.getD 0 default)&&zDb l (m.drop 1)
end
theorem zDc:∀l m,zDb l m=allN l.length fun i=>below (l.getD i default) (m.getD i default)
 | [],_=>rfl
 |a::l,m=>by
  rw[zDb,List.length_cons,zB6,zDc l (m.drop 1)]
  congr 2;funext i
  simp[YAF]
theorem zDh(a b:Ty):below a b=if b.kind=5 then true else if a.kind≠b.kind\/a.num≠b.num then false else allN a.kids.length fun i=>below (a.kid i) (b.kid i):=by
 cases a with|mk k n l=>rw[below,zDc];rfl
def ground(t:Ty):Ty:= .mk t.kind 0 (List.replicate t.kids.length dynT)
def zLB(k:Int):Bool:=decide (k=1\/k=2\/k=3\/k=4\/k=7\/k=8\/k=9)
def other(s:Int):Int:=if s=0 then 1 else if s=1 then 0 else 2
def subF:Nat->Int->Ty->Ty->Bool
 |0,_,_,_=>false
 |n+1,s,a,b=>
  if(s=0/\b.kind=5)\/(s=1/\a.kind=5)then true
  else if b.kind=5/\a.kind≠5 then decide (a.kind≠6)&&(if a.kind=9 then subF n (other s) dynT (a.kid 0)&&subF n s (a.kid 1) dynT else if a.kind=7 then subF n s (a.kid 0) dynT&&subF n s (a.kid 1) dynT else if a.kind=8 then subF n s (a.kid 0) dynT else true)
  else if a.kind≠b.kind\/a.num≠b.num then false
  else if a.kind=9 then subF n (other s) (b.kid 0) (a.kid 0)&&subF n s (a.kid 1) (b.kid 1)else if a.kind=7 then subF n s (a.kid 0) (b.kid 0)&&subF n s (a.kid 1) (b.kid 1)else if a.kind=8 then subF n s (a.kid 0) (b.kid 0)else true
def sub(s:Int)(a b:Ty):Bool:=subF (nodes a+nodes b) s a b
theorem zT0{t:Ty}(h:right t=true):(t.kids.length:Int)=arity t.kind/\∀x∈t.kids,right x=true:=by
 rw[right_eq,YAA]at h
 obtain⟨h1,h2⟩:=h
 simp only[okN,YAA,YAa]at h1
 refine⟨h1.1,fun x hx=> ?_⟩
 obtain⟨i,hi,rfl⟩:=List.mem_iff_getElem.1 hx
 have:=zB5.1 h2 i hi
 simpa [Ty.kid,hi]using this
theorem zT1{t:Ty}(h:right t=true)(hk:t.kind≠6):t.num=0:=by
 rw[right_eq,YAA]at h
 simp only[okN,YAA,hk,if_false,YAa]at h
 exact h.1.2
theorem zTz{t:Ty}(h:right t=true){i:Nat}(hi:i<t.kids.length):right (t.kid i)=true:=
 (zT0 h).2 _ (by simp[Ty.kid,hi])
theorem zTx{t:Ty}(h:right t=true):(t.kind=1\/t.kind=2\/t.kind=3\/t.kind=4\/t.kind=5\/t.kind=6)/\t.kids=[]\/t.kind=8/\t.kids.length=1\/(t.kind=7\/t.kind=9)/\t.kids.length=2:=by
 have h1:=(zT0 h).1
 unfold arity at h1
 split at h1
 ·rename_i hk
  exact .inl ⟨hk,List.eq_nil_of_length_eq_zero (by omega)⟩
 ·split at h1
  ·rename_i hk;exact .inr (.inl ⟨hk,by omega⟩)
  ·split at h1
   ·rename_i hk;exact .inr (.inr ⟨hk,by omega⟩)
   ·omega
end
section
theorem kidmem{t:Ty}{i:Nat}(h:i<t.kids.length):t.kid i∈t.kids:=by simp[h,Ty.kid]
theorem Ty.ext'{a b:Ty}(h:a.kind=b.kind)(hn:a.num=b.num)(hl:b.kids.length=a.kids.length)(hk:∀i,i<a.kids.length->a.kid i=b.kid i):a=b:=by
 cases a with|mk k n l=>cases b with|mk k' n' l'=>
  simp only[Ty.kind,Ty.num,Ty.kids,Ty.kid]at*
  subst h;subst hn
  have:l=l':=List.ext_getElem hl.symm fun i h1 h2=>by
   have:=hk i h1
   simpa [h1,h2]using this
  rw[this]
theorem zVO:∀t:Ty,same t t=true:=Ty.ind fun t ih=>by
 rw[same_eq,zB7 fun i hi=>ih _ (kidmem hi)];simp
theorem zcz{a b:Ty}:same a b=true ↔ a=b:=by
 constructor
 ·refine Ty.ind (p:=fun a=>∀b,same a b=true->a=b) (fun a ih b h=> ?_) a b
  rw[same_eq]at h
  simp only[YAA,YAa]at h
  obtain⟨⟨⟨h1,h2⟩,h3⟩,h4⟩:=h
  exact Ty.ext' h1 h2 h3.symm fun i hi=>ih _ (kidmem hi) _ (zB5.1 h4 i hi)
 ·rintro rfl;exact zVO a
theorem zDi{a b:Ty}:below a b=true ↔ b.kind=5\/(b.kind≠5/\a.kind=b.kind/\a.num=b.num/\∀i,i<a.kids.length->below (a.kid i) (b.kid i)=true):=by
 rw[zDh]
 by_cases h5:b.kind=5
 ·simp[h5]
 ·by_cases hk:a.kind=b.kind
  ·by_cases hn:a.num=b.num
   ·simp[h5,hk,hn,zB5]
   ·simp[h5,hk,hn]
  ·simp[h5,hk]
theorem zDg(t:Ty){d:Ty}(h:d.kind=5):below t d=true:=zDi.2 (.inl h)
theorem zT3{t:Ty}(h:right t=true):okN t=true:=by rw[right_eq,YAA]at h;exact h.1
theorem zRM{a b:Ty}(h1:b.kind=a.kind)(h2:b.num=a.num)(h3:b.kids.length=a.kids.length)(h:okN a=true):okN b=true:=by
 simp only[okN,h1,h2,h3]at h⊢;exact h
end
section
mutual
def zHZ:Ty->Ty->Ty
 | .mk k n l,b=>if k=5 then b else .mk k n (if k=b.kind then zHY l b.kids else l)
def zHY:List Ty->List Ty->List Ty
 | [],_=> []
 |a::l,m=>zHZ a (m.getD 0 default)::zHY l (m.drop 1)
end
mutual
def putT(v:Int):Ty->Ty
 | .mk k n l=> .mk (if k=5 then 6 else k) (if k=5 then v else n) (putL v l)
def putL(v:Int):List Ty->List Ty
 | []=> []
 |a::l=>putT v a::putL v l
end
mutual
def zNG:Ty->List Bool->Ty×List Bool
 | .mk k n kids,l=>if l.head?=some true then(dynT,l.tail)else(.mk k n (zNE kids l.tail).1,(zNE kids l.tail).2)
def zNE:List Ty->List Bool->List Ty×List Bool
 | [],l=>([],l)
 |a::ks,l=>((zNG a l).1::(zNE ks (zNG a l).2).1,(zNE ks (zNG a l).2).2)
end
mutual
theorem zNH:∀(t:Ty) (l:List Bool),right t=true->right (zNG t l).1=true/\below t (zNG t l).1=true/\nodes (zNG t l).1<=nodes t
 | .mk k n kids,l,h=>by
  rw[zNG]
  split
  ·exact⟨rfl,zDg _ rfl,zQa _⟩
  ·have hr:zTu kids=true:=by rw[right,YAA]at h;exact h.2
   obtain⟨h1,h2,h3,h4⟩:=zNF kids l.tail hr
   have hok:=zT3 h
   refine⟨?_,?_,?_⟩
   ·rw[right,YAA];exact⟨zRM (a:= .mk k n kids) rfl rfl h2 hok,h1⟩
   ·refine zDi.2 ?_
    by_cases h5:k=5
    ·exact .inl h5
    ·refine .inr ⟨h5,rfl,rfl,fun i hi=>h3 i hi⟩
   ·simp only[zQZ,Ty.kids];omega
theorem zNF:∀(ks:List Ty) (l:List Bool),zTu ks=true->zTu (zNE ks l).1=true/\(zNE ks l).1.length=ks.length/\(∀i,i<ks.length->below (ks.getD i default) ((zNE ks l).1.getD i default)=true)/\zQW (zNE ks l).1<=zQW ks
 | [],l,_=>⟨rfl,rfl,fun i hi=>absurd hi (by simp),YAV _⟩
 |a::ks,l,h=>by
  rw[zTu,YAA]at h
  obtain⟨h1,h2,h3⟩:=zNH a l h.1
  obtain⟨g1,g2,g3,g4⟩:=zNF ks (zNG a l).2 h.2
  rw[zNE]
  refine⟨by rw[zTu,h1,g1];rfl,by simp[g2],fun i hi=> ?_,by simp only[zQW];omega⟩
  cases i with
  |zero=>exact h2
  |succ i=>exact g3 i (by simpa using hi)
end
end
section
def kidF(r:Int->Ty->Ty->Bool)(s:Int)(a x y:Ty):Bool:=
 if a.kind=9 then r (other s) x (a.kid 0)&&r s (a.kid 1) y
 else if a.kind=7 then r s (a.kid 0) x&&r s (a.kid 1) y
 else if a.kind=8 then r s (a.kid 0) x else true
def sbF:Nat->Int->Ty->Ty->Bool
 |0,_,_,_=>false
 |n+1,s,a,b=>
  if(s=0/\b.kind=5)\/(s=1/\a.kind=5)then true
  else if b.kind=5/\a.kind≠5 then decide (a.kind≠6)&&kidF (sbF n) s a dynT dynT
  else if a.kind≠b.kind\/a.num≠b.num then false
  else kidF (sbF n) s a (b.kid 0) (b.kid 1)
def sb(s:Int)(a b:Ty):Bool:=sbF (nodes a+nodes b) s a b
def zV0(s:Int):Prop:=s=0\/s=1\/s=2
end
section
inductive Co where
 |mk (kind head label:Int) (neg:Bool) (kids:List Co)
instance:Inhabited Co:=⟨.mk 0 0 0 false []⟩
def Co.kind:Co->Int| .mk k _ _ _ _=>k
def Co.head:Co->Int| .mk _ h _ _ _=>h
def Co.label:Co->Int| .mk _ _ l _ _=>l
def Co.neg:Co->Bool| .mk _ _ _ n _=>n
def Co.kids:Co->List Co| .mk _ _ _ _ ks=>ks
def Co.kid(c:Co)(i:Nat):Co:=c.kids.getD i default
theorem Co.eta(c:Co):Co.mk c.kind c.head c.label c.neg c.kids=c:=by cases c;rfl
theorem Co.zMj(k h l:Int)(n:Bool)(ks:List Co):(Co.mk k h l n ks).kind=k:=rfl
theorem Co.zMf(k h l:Int)(n:Bool)(ks:List Co):(Co.mk k h l n ks).kids=ks:=rfl
theorem Co.ind{p:Co->Prop}(h:∀t,(∀x∈t.kids,p x)->p t):∀t,p t:=by
 intro t
 have key:∀(n:Nat) (t:Co),SizeOf.sizeOf t<=n->p t:=by
  intro n
  induction n with
  |zero=>intro t hs;cases t;simp at hs
  |succ n ih=>
   rintro⟨k,m,l,b,ks⟩ hs
   refine h _ fun x hx=>ih x ?_
   have:=List.sizeOf_lt_of_mem (show x∈ks from hx)
   simp only[Co.mk.sizeOf_spec]at hs;omega
 exact key _ t (YAV _)
theorem zFH{c:Co}{i:Nat}(h:i<c.kids.length):c.kid i∈c.kids:=by simp[h,Co.kid]
def former(k:Int):Int:=if k=2 then 9 else if k=3 then 7 else if k=4 then 8 else 0
def zMq(l:Int):Bool:=decide (0<=l)&&decide (l<=1048576)
def okC(c:Co):Bool:=
 if c.kind=1 then decide (c.kids.length=0)&&decide (c.head=0)&&decide (c.label=0)&& !c.neg
 else if c.kind=7 then decide (c.kids.length=0)&&decide (c.head=0)&&zMq c.label
 else if c.kind=5 then decide (c.kids.length=1)&&zLB c.head&&decide (c.label=0)&& !c.neg&&(decide ((c.kid 0).kind=1)||decide (former (c.kid 0).kind=c.head))
 else if c.kind=6 then decide (c.kids.length=1)&&zLB c.head&&zMq c.label&&(decide ((c.kid 0).kind=7)||(decide ((c.kid 0).kind=5)&&decide ((c.kid 0).head=c.head))||(decide ((c.kid 0).kind=1)||decide (former (c.kid 0).kind=c.head)))
 else if c.kind=2\/c.kind=3\/c.kind=4 then decide (c.kids.length=if c.kind=4 then 1 else 2)&&decide (c.head=0)&&decide (c.label=0)&& !c.neg&&c.kids.any fun x=>decide (x.kind≠1)
 else false
mutual
def zTn:Co->Bool
 | .mk k h l n ks=>okC (.mk k h l n ks)&&zTo ks
def zTo:List Co->Bool
 | []=>true
 |t::l=>zTn t&&zTo l
end
theorem zTp:∀l,zTo l=allN l.length fun i=>zTn (l.getD i default)
 | []=>rfl
 |t::l=>by rw[zTo,List.length_cons,zB6,zTp l];rfl
theorem zTq(t:Co):zTn t=(okC t&&allN t.kids.length fun i=>zTn (t.kid i)):=by
 cases t with|mk k h l n ks=>rw[zTn,zTp];rfl
theorem zTs{c x:Co}(h:zTn c=true)(hx:x∈c.kids):zTn x=true:=by
 rw[zTq,YAA,zB5]at h
 obtain⟨i,hi,rfl⟩:=List.mem_iff_getElem.1 hx
 have:=h.2 i hi
 simpa [Co.kid,hi]using this
theorem zTr{c:Co}(h:zTn c=true){i:Nat}(hi:i<c.kids.length):zTn (c.kid i)=true:=zTs h (zFH hi)
theorem zTt{c:Co}(h:zTn c=true):okC c=true:=by rw[zTq,YAA]at h;exact h.1
def within(c:Co)(h:Int):Bool:=(decide (c.kind=1)||decide (former c.kind=h))&&zTn c
mutual
def zVI:Co->Co->Bool
 | .mk k h l n ks,.mk k' h' l' n' ks'=>decide (k=k')&&decide (h=h')&&decide (l=l')&&(n==n')&&zVJ ks ks'
def zVJ:List Co->List Co->Bool
 | [],[]=>true
 |a::l,b::l'=>zVI a b&&zVJ l l'
 |_,_=>false
end
mutual
def zQU:Co->Nat
 | .mk _ _ _ _ l=>1+zQV l
def zQV:List Co->Nat
 | []=>0
 |t::l=>zQU t+zQV l
end
mutual
def zLR:Co->Nat
 | .mk k _ _ _ l=>if k=5\/k=6 then zLS l else zLS l+1
def zLS:List Co->Nat
 | []=>0
 |t::l=>max (zLR t) (zLS l)
end
inductive K where
 |id
 |fn (a b:K)
 |pair (a b:K)
 |list (a:K)
 |inj (h:Int) (k:K)
 |proj (h l:Int) (n:Bool) (k:K)
 |fail (l:Int) (n:Bool)
def K.co:K->Co
 | .id=> .mk 1 0 0 false []
 | .fn a b=> .mk 2 0 0 false [a.co,b.co]
 | .pair a b=> .mk 3 0 0 false [a.co,b.co]
 | .list a=> .mk 4 0 0 false [a.co]
 | .inj h k=> .mk 5 h 0 false [k.co]
 | .proj h l n k=> .mk 6 h l n [k.co]
 | .fail l n=> .mk 7 0 l n []
def K.form:K->Int
 | .fn _ _=>9
 | .pair _ _=>7
 | .list _=>8
 |_=>0
def K.isId:K->Bool| .id=>true|_=>false
def K.zMC:K->Bool| .fail _ _=>true|_=>false
def K.zLj(h:Int):K->Bool| .inj h' _=>decide (h'=h)|_=>false
def K.ok:K->Bool
 | .id=>true
 | .fn a b=>a.ok&&b.ok&& !(a.isId&&b.isId)
 | .pair a b=>a.ok&&b.ok&& !(a.isId&&b.isId)
 | .list a=>a.ok&& !a.isId
 | .inj h k=>k.ok&&zLB h&&(k.isId||decide (k.form=h))
 | .proj h l _ k=>k.ok&&zLB h&&zMq l&&(k.zMC||k.zLj h||(k.isId||decide (k.form=h)))
 | .fail l _=>zMq l
theorem zRe{c:Co}(h:c.kids.length=1):c.kids=[c.kid 0]:=by
 obtain⟨k,hd,l,n,ks⟩:=c
 match ks,h with
 | [x],_=>rfl
theorem zYt{c:Co}(h:c.kids.length=2):c.kids=[c.kid 0,c.kid 1]:=by
 obtain⟨k,hd,l,n,ks⟩:=c
 match ks,h with
 | [x,y],_=>rfl
theorem zQP{c:Co}(h:c.kids.length=0):c.kids=[]:=List.length_eq_zero_iff.1 h
theorem K.zRA:∀c:Co,zTn c=true->∃k:K,c=k.co:=by
 refine Co.ind fun c ih hc=> ?_
 have ho:=zTt hc
 have hk:∀i,i<c.kids.length->∃k:K,c.kid i=k.co:=fun i hi=>ih _ (zFH hi) (zTr hc hi)
 have e:=Co.eta c
 unfold okC at ho
 split at ho
 ·rename_i h1
  simp only[YAA,YAa,YAD]at ho
  exact⟨.id,by rw[<-e,h1,ho.1.1.2,ho.1.2,ho.2,zQP ho.1.1.1];rfl⟩
 split at ho
 ·rename_i h1
  simp only[YAA,YAa,YAD]at ho
  exact ⟨.fail c.label c.neg, by conv=>lhs;rw[<-e,h1,ho.1.2,zQP ho.1.1]
                                 rfl⟩
 split at ho
 ·rename_i h1
  simp only[YAA,YAa,YAD]at ho
  obtain⟨k,hk0⟩:=hk 0 (by omega)
  exact ⟨.inj c.head k, by conv=>lhs;rw[<-e,h1,ho.1.1.2,ho.1.2,zRe ho.1.1.1.1,hk0]
                           rfl⟩
 split at ho
 ·rename_i h1
  simp only[YAA,YAa,YAD]at ho
  obtain⟨k,hk0⟩:=hk 0 (by omega)
  exact ⟨.proj c.head c.label c.neg k, by conv=>lhs;rw[<-e,h1,zRe ho.1.1.1,hk0]
                                          rfl⟩
 split at ho
 ·rename_i h1
  simp only[YAA,YAa,YAD]at ho
  obtain⟨⟨⟨⟨h2,h3⟩,h4⟩,h5⟩,h6⟩:=ho
  rcases h1 with h1|h1|h1
  ·rw[if_neg (by omega)]at h2
   obtain⟨a,ha⟩:=hk 0 (by omega)
   obtain⟨b,hb⟩:=hk 1 (by omega)
   exact⟨.fn a b,by rw[<-e,h1,h3,h4,h5,zYt h2,ha,hb];rfl⟩
  ·rw[if_neg (by omega)]at h2
   obtain⟨a,ha⟩:=hk 0 (by omega)
   obtain⟨b,hb⟩:=hk 1 (by omega)
   exact⟨.pair a b,by rw[<-e,h1,h3,h4,h5,zYt h2,ha,hb];rfl⟩
  ·rw[if_pos h1]at h2
   obtain⟨a,ha⟩:=hk 0 (by omega)
   exact⟨.list a,by rw[<-e,h1,h3,h4,h5,zRe h2,ha];rfl⟩
 ·cases ho
end
section
def K.size:K->Nat
 | .id=>1
 | .fn a b=>a.size+b.size+1
 | .pair a b=>a.size+b.size+1
 | .list a=>a.size+1
 | .inj _ k=>k.size+1
 | .proj _ _ _ k=>k.size+1
 | .fail _ _=>1
def mkFn(a b:K):K:=if a.isId&&b.isId then .id else .fn a b
def zPa(a b:K):K:=if a.isId&&b.isId then .id else .pair a b
def zPZ(a:K):K:=if a.isId then .id else .list a
def zDy(f:K->K->K):Option K->Option K->Option K
 |some x,some y=>some (f x y)
 |_,_=>none
def zMN:Nat->K->K->Option K
 |0,_,_=>none
 |n+1,.id,d=>some d
 |n+1,.fail l b,_=>some (.fail l b)
 |n+1,.proj h l b k,d=>(zMN n k d).map (.proj h l b)
 |n+1,.inj h k,d=>match d with
  | .id=>some (.inj h k)
  | .proj h' l b k'=>if h=h' then zMN n k k' else some (.fail l b)
  |_=>none
 |n+1,.fn a a',d=>match d with
  | .id=>some (.fn a a')
  | .fail l b=>some (.fail l b)
  | .inj h k=>(zMN n (.fn a a') k).map (.inj h)
  | .fn b b'=>zDy mkFn (zMN n b a) (zMN n a' b')
  |_=>none
 |n+1,.pair a a',d=>match d with
  | .id=>some (.pair a a')
  | .fail l b=>some (.fail l b)
  | .inj h k=>(zMN n (.pair a a') k).map (.inj h)
  | .pair b b'=>zDy zPa (zMN n a b) (zMN n a' b')
  |_=>none
 |n+1,.list a,d=>match d with
  | .id=>some (.list a)
  | .fail l b=>some (.fail l b)
  | .inj h k=>(zMN n (.list a) k).map (.inj h)
  | .list b=>(zMN n a b).map zPZ
  |_=>none
def zMO(c d:K):Option K:=zMN (c.size+d.size) c d
def K.zMD(c:K):Bool:=decide (c.form≠0)
end
section
theorem zbT{n:Int}(h1: -9223372036854775808<=n)(h2:n<=9223372036854775807):IntKind.wrap .i64 n=n:=zbU .i64 n h1 h2
def kint(x n:Int):Int:=(x % 18446744073709551616) % n
end
end Go.Proofs.Ytmpegnogdgbleaa
