/- Lemmas: the composition and the casts in plain Lean. No condition. -/
import Derived.Test.YtmpegnogdgbleaaPMa
import Derived.Test.YtmpegnogdgbleaaPFb
set_option linter.unusedSimpArgs false
set_option linter.unusedVariables false
namespace Go.Proofs.Ytmpegnogdgbleaa
open Go Go.Ab
open Classical
section
def K.height:K->Nat
 | .id=>1
 | .fn a b=>max a.height b.height+1
 | .pair a b=>max a.height b.height+1
 | .list a=>a.height+1
 | .inj _ k=>k.height
 | .proj _ _ _ k=>k.height
 | .fail _ _=>1
end
section
inductive T where
 |base (k:Fin 4)
 |dyn
 |var (n:Int)
 |pair (a b:T)
 |list (a:T)
 |fn (a b:T)
 deriving DecidableEq
instance:Inhabited T:=⟨.dyn⟩
def T.ty:T->Ty
 | .base k=> .mk (k.val+1) 0 []
 | .dyn=> .mk 5 0 []
 | .var n=> .mk 6 n []
 | .pair a b=> .mk 7 0 [a.ty,b.ty]
 | .list a=> .mk 8 0 [a.ty]
 | .fn a b=> .mk 9 0 [a.ty,b.ty]
def T.kind:T->Int
 | .base k=>k.val+1
 | .dyn=>5
 | .var _=>6
 | .pair _ _=>7
 | .list _=>8
 | .fn _ _=>9
def T.ok:T->Bool
 | .var n=>decide (0<=n)&&decide (n<=1048576)
 | .pair a b=>a.ok&&b.ok
 | .list a=>a.ok
 | .fn a b=>a.ok&&b.ok
 |_=>true
theorem T.zT5:∀a:T,right a.ty=a.ok:=by
 intro a
 induction a with
 |base k=>match k with|0|1|2|3=>rfl
 |dyn=>rfl
 |var n=>rw[Bool.eq_iff_iff];simp[T.ty,right,zTu,okN,arity,Ty.kind,Ty.num,Ty.kids,T.ok];exact⟨fun h=>⟨of_decide_eq_true h.1,of_decide_eq_true h.2⟩,fun h=>⟨decide_eq_true h.1,decide_eq_true h.2⟩⟩
 |pair a b iha ihb=>simp[T.ty,right,zTu,okN,arity,Ty.kind,Ty.num,Ty.kids,T.ok,iha,ihb]
 |list a iha=>simp[T.ty,right,zTu,okN,arity,Ty.kind,Ty.num,Ty.kids,T.ok,iha]
 |fn a b iha ihb=>simp[T.ty,right,zTu,okN,arity,Ty.kind,Ty.num,Ty.kids,T.ok,iha,ihb]
theorem zaA{t:Ty}(h:t.kids.length=1):t.kids=[t.kid 0]:=by
 obtain⟨k,n,l⟩:=t
 match l,h with
 | [x],_=>rfl
theorem zaC{t:Ty}(h:t.kids.length=2):t.kids=[t.kid 0,t.kid 1]:=by
 obtain⟨k,n,l⟩:=t
 match l,h with
 | [x,y],_=>rfl
theorem T.zRA:∀t:Ty,right t=true->∃a:T,t=a.ty:=by
 refine Ty.ind fun t ih ht=> ?_
 have e:=Ty.eta t
 rcases zTx ht with ⟨hk,hl⟩|⟨hk,hl⟩|⟨hk,hl⟩
 ·by_cases h6:t.kind=6
  ·exact ⟨.var t.num, by conv=>lhs;rw[<-e,h6,hl]
                         rfl⟩
  ·have hn:=zT1 ht h6
   rcases hk with h|h|h|h|h|h
   ·exact⟨.base 0,by rw[<-e,h,hn,hl];rfl⟩
   ·exact⟨.base 1,by rw[<-e,h,hn,hl];rfl⟩
   ·exact⟨.base 2,by rw[<-e,h,hn,hl];rfl⟩
   ·exact⟨.base 3,by rw[<-e,h,hn,hl];rfl⟩
   ·exact⟨.dyn,by rw[<-e,h,hn,hl];rfl⟩
   ·exact absurd h h6
 ·have hn:=zT1 ht (by omega)
  obtain⟨a,ha⟩:=ih _ (kidmem (t:=t) (i:=0) (by omega)) (zTz ht (by omega))
  exact⟨.list a,by rw[<-e,hk,hn,zaA hl,ha];rfl⟩
 ·have hn:=zT1 ht (by omega)
  obtain⟨a,ha⟩:=ih _ (kidmem (t:=t) (i:=0) (by omega)) (zTz ht (by omega))
  obtain⟨b,hb⟩:=ih _ (kidmem (t:=t) (i:=1) (by omega)) (zTz ht (by omega))
  rcases hk with hk|hk
  ·exact⟨.pair a b,by rw[<-e,hk,hn,zaC hl,ha,hb];rfl⟩
  ·exact⟨.fn a b,by rw[<-e,hk,hn,zaC hl,ha,hb];rfl⟩
theorem zDC{k k':Fin 4}:((k.val:Int)+1=k'.val+1) ↔ k=k':=by
 constructor
 ·intro h;exact Fin.ext (by omega)
 ·rintro rfl;rfl
theorem T.zZ7:∀ {a b:T},a.ty=b.ty->a=b:=by
 intro a
 induction a with
 |base k=>
  intro b h
  cases b<;>simp only[T.ty,Ty.mk.injEq]at h<;>first|(exfalso;have:=h.1;omega)|(rw[zDC.1 h.1])
 |dyn=>
  intro b h
  cases b<;>simp only[T.ty,Ty.mk.injEq]at h<;>first|(exfalso;have:=h.1;omega)|rfl
 |var n=>
  intro b h
  cases b<;>simp only[T.ty,Ty.mk.injEq]at h<;>first|(exfalso;have:=h.1;omega)|(rw[h.2.1])
 |pair x y ih1 ih2=>
  intro b h
  cases b<;>simp only[T.ty,Ty.mk.injEq,List.cons.injEq]at h<;>first|(exfalso;have:=h.1;omega)|(rw[ih1 h.2.2.1,ih2 h.2.2.2.1])
 |list x ih1=>
  intro b h
  cases b<;>simp only[T.ty,Ty.mk.injEq,List.cons.injEq]at h<;>first|(exfalso;have:=h.1;omega)|(rw[ih1 h.2.2.1])
 |fn x y ih1 ih2=>
  intro b h
  cases b<;>simp only[T.ty,Ty.mk.injEq,List.cons.injEq]at h<;>first|(exfalso;have:=h.1;omega)|(rw[ih1 h.2.2.1,ih2 h.2.2.2.1])
theorem T.zc0(a b:T):same a.ty b.ty=decide (a=b):=by
 rw[Bool.eq_iff_iff,zcz,YAa]
 exact⟨T.zZ7,fun h=>h▸rfl⟩
def T.closed:T->Bool
 | .var _=>false
 | .pair a b=>a.closed&&b.closed
 | .list a=>a.closed
 | .fn a b=>a.closed&&b.closed
 |_=>true
def T.static:T->Bool
 | .dyn=>false
 | .pair a b=>a.static&&b.static
 | .list a=>a.static
 | .fn a b=>a.static&&b.static
 |_=>true
theorem T.zc4:∀a:T,without 5 a.ty=a.static:=by
 intro a
 induction a with
 |base k=>match k with|0|1|2|3=>rfl
 |_=>simp_all [T.ty,without,za2,T.static]
def zB3:T->T->Bool
 | .dyn,b=>b.closed
 | .base k,b=>match b with| .dyn=>true| .base k'=>decide (k=k')|_=>false
 | .var n,b=>match b with| .var m=>decide (n=m)|_=>false
 | .pair a a',b=>match b with| .dyn=>a.closed&&a'.closed| .pair c c'=>zB3 a c&&zB3 a' c'|_=>false
 | .list a,b=>match b with| .dyn=>a.closed| .list c=>zB3 a c|_=>false
 | .fn a a',b=>match b with| .dyn=>a.closed&&a'.closed| .fn c c'=>zB3 a c&&zB3 a' c'|_=>false
theorem zDD(k:Fin 4):¬((k.val:Int)+1=5)/\¬((k.val:Int)+1=6)/\¬((k.val:Int)+1=7)/\¬((k.val:Int)+1=8)/\¬((k.val:Int)+1=9):=by
 have:=k.isLt;refine⟨?_,?_,?_,?_,?_⟩<;>omega
mutual
def upT(l:Int):T->Bool->K
 | .base k,_=> .inj (k.val+1) .id
 | .pair a b,n=> .inj 7 (zPa (upT l a n) (upT l b n))
 | .list a,n=> .inj 8 (zPZ (upT l a n))
 | .fn a b,n=> .inj 9 (mkFn (zFx l a (!n)) (upT l b n))
 | .dyn,_=> .id
 | .var _,_=> .id
def zFx(l:Int):T->Bool->K
 | .base k,n=> .proj (k.val+1) l n .id
 | .pair a b,n=> .proj 7 l n (zPa (zFx l a n) (zFx l b n))
 | .list a,n=> .proj 8 l n (zPZ (zFx l a n))
 | .fn a b,n=> .proj 9 l n (mkFn (upT l a (!n)) (zFx l b n))
 | .dyn,_=> .id
 | .var _,_=> .id
end
def zEJ(l:Int):Nat->T->T->Bool->K
 |0,_,_,_=> .id
 |m+1,a,b,n=>match a,b with
  | .dyn,b=>zFx l b n
  |a,.dyn=>upT l a n
  | .pair a a',.pair b b'=>zPa (zEJ l m a b n) (zEJ l m a' b' n)
  | .list a,.list b=>zPZ (zEJ l m a b n)
  | .fn a a',.fn b b'=>mkFn (zEJ l m b a (!n)) (zEJ l m a' b' n)
  |_,_=> .id
def T.size:T->Nat
 | .pair a b=>a.size+b.size+1
 | .list a=>a.size+1
 | .fn a b=>a.size+b.size+1
 |_=>1
def zEK(l:Int)(a b:T)(n:Bool):K:=zEJ l (a.size+b.size) a b n
end
section
def ofH(h:Int):T:=
 if h=1 then .base 0 else if h=2 then .base 1 else if h=3 then .base 2 else if h=4 then .base 3 else if h=7 then .pair .dyn .dyn else if h=8 then .list .dyn else if h=9 then .fn .dyn .dyn else .dyn
def T.zMB:T->Bool| .dyn=>true|_=>false
def zHo:K->T->T->Bool
 | .id,a,b=>decide (a=b)
 | .fail _ _,a,_=> !a.zMB
 | .inj h k,a,b=>b.zMB&&decide (a.kind=h)&&zHo k a (ofH h)
 | .proj h _ _ k,a,b=>a.zMB&&zHo k (ofH h) b
 | .fn x y,a,b=>match a,b with| .fn a a',.fn b b'=>zHo x b a&&zHo y a' b'|_,_=>false
 | .pair x y,a,b=>match a,b with| .pair a a',.pair b b'=>zHo x a b&&zHo y a' b'|_,_=>false
 | .list x,a,b=>match a,b with| .list a,.list b=>zHo x a b|_,_=>false
def T.deep:T->Nat
 | .pair a b=>max a.deep b.deep+1
 | .list a=>a.deep+1
 | .fn a b=>max a.deep b.deep+1
 |_=>1
def K.cnt(s:Bool):K->Nat
 | .fn a b=>a.cnt s+b.cnt s
 | .pair a b=>a.cnt s+b.cnt s
 | .list a=>a.cnt s
 | .inj _ k=>k.cnt s
 | .proj _ _ n k=>(if n=s then 1 else 0)+k.cnt s
 |_=>0
def K.lab(l:Int):K->Bool
 | .fn a b=>a.lab l&&b.lab l
 | .pair a b=>a.lab l&&b.lab l
 | .list a=>a.lab l
 | .inj _ k=>k.lab l
 | .proj _ l' _ k=>decide (l'=l)&&k.lab l
 | .fail _ _=>false
 | .id=>true
def K.turn:K->K
 | .fn a b=> .fn a.turn b.turn
 | .pair a b=> .pair a.turn b.turn
 | .list a=> .list a.turn
 | .inj h k=> .inj h k.turn
 | .proj h l n k=> .proj h (l+1) (!n) k.turn
 |k=>k
end
section
def putS(σ:Int->T):T->T
 | .var n=>σ n
 | .pair a b=> .pair (putS σ a) (putS σ b)
 | .list a=> .list (putS σ a)
 | .fn a b=> .fn (putS σ a) (putS σ b)
 |a=>a
end
section
def K.fails:K->Bool
 | .fn a b=>a.fails||b.fails
 | .pair a b=>a.fails||b.fails
 | .list a=>a.fails
 | .inj _ k=>k.fails
 | .proj _ _ _ k=>k.fails
 | .fail _ _=>true
 | .id=>false
def zDd:T->T->Bool
 |_,.dyn=>true
 |a,.base k=>match a with| .base k'=>decide (k'=k)|_=>false
 |a,.var n=>match a with| .var m=>decide (m=n)|_=>false
 |a,.pair b b'=>match a with| .pair a a'=>zDd a b&&zDd a' b'|_=>false
 |a,.list b=>match a with| .list a=>zDd a b|_=>false
 |a,.fn b b'=>match a with| .fn a a'=>zDd a b&&zDd a' b'|_=>false
end
section
noncomputable def tOf(a:Ty):T:=if h:∃x:T,a=x.ty then h.choose else .dyn
theorem zX5(x:T):tOf x.ty=x:=by
 have h:∃k':T,x.ty=k'.ty:=⟨x,rfl⟩
 unfold tOf;rw[dif_pos h];exact(T.zZ7 h.choose_spec).symm
theorem T.zRB{a:Ty}(h:right a=true):∃x:T,a=x.ty/\x.ok=true:=by
 obtain⟨x,rfl⟩:=T.zRA a h
 exact⟨x,rfl,by rw[<-T.zT5];exact h⟩
theorem zQb(t:T):nodes t.ty=t.size:=by
 induction t with
 |base k=>rfl
 |dyn=>rfl
 |var n=>rfl
 |pair a b ih1 ih2=>simp only[T.ty,nodes,zQW,T.size,ih1,ih2];omega
 |fn a b ih1 ih2=>simp only[T.ty,nodes,zQW,T.size,ih1,ih2];omega
 |list a ih1=>simp only[T.ty,nodes,zQW,T.size,ih1];omega
end
end Go.Proofs.Ytmpegnogdgbleaa
