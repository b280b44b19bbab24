/- Lemmas: a store in plain Lean, second part. No condition. -/
import Derived.Test.YtdngjamjccjlmaaPSa
import Derived.Test.YtdngjamjccjlmaaPCa
import Derived.Test.YtdngjamjccjlmaaPVa
import Derived.Test.YtdngjamjccjlmaaPAb
set_option linter.unusedSimpArgs false
set_option linter.unusedVariables false
namespace Go.Proofs.Ytdngjamjccjlmaa
open Go Go.Ab
section
theorem Wf.zYd{S:St}(h:Wf S){x:Nd}(h':Wf (S++ [x]))(hl:x.link=none):∀n,n<S.length->St.tree (S++ [x]) n=S.tree n:=by
 refine h.ind (p:=fun n=>n<S.length->St.tree (S++ [x]) n=S.tree n) fun n ih hn=> ?_
 have hr:=h.root_lt n hn
 have e1:St.kind (S++ [x]) (S.root n)=S.kind (S.root n):=by simp only[St.kind,St.zPu];rw[if_neg (by omega)]
 have e2:St.kids (S++ [x]) (S.root n)=S.kids (S.root n):=by simp only[St.kids,St.zPu];rw[if_neg (by omega)]
 rw[h'.zYe (by simp;omega),h.zYe hn,h.zUF h' hl n hn,e1,e2]
 congr 1
 exact List.map_congr_left fun k hk=>ih k hk (h.zMa hk)
def putN:T->St->St×Nat
 | .base k,S=>(S,k.val)
 | .dyn,S=>(S,4)
 | .var _,S=>(S,0)
 | .pair a b,S=>let p:=putN a S;let q:=putN b p.1;(q.1++ [⟨7,0,none,[p.2,q.2]⟩],q.1.length)
 | .fn a b,S=>let p:=putN a S;let q:=putN b p.1;(q.1++ [⟨9,0,none,[p.2,q.2]⟩],q.1.length)
 | .list a,S=>let p:=putN a S;(p.1++ [⟨8,0,none,[p.2]⟩],p.1.length)
def T.inner:T->Nat
 | .pair a b=>a.inner+b.inner+1
 | .fn a b=>a.inner+b.inner+1
 | .list a=>a.inner+1
 |_=>0
structure PutOK (S:St) (t:T) (S':St) (n:Nat):Prop where
 wf:Wf S'
 len:S'.length=S.length+t.inner
 old:∀i,i<S.length->S'.nd i=S.nd i
 lt:n<S'.length
 root:S'.root n=n
 tree:S'.tree n=t.ty
 oldt:∀i,i<S.length->S'.tree i=S.tree i/\S'.root i=S.root i
theorem zS3{S:St}(h:Wf S){i:Nat}(hi:i<5):S.root i=i/\S.tree i= .mk (i+1) 0 []:=by
 have h5:=h.five
 have e:=h.leaf i hi
 have r:S.root i=i:=zUO (by rw[St.link,e])
 refine⟨r,?_⟩
 rw[h.zYe (by omega),r,St.kind,St.kids,e]
 rw[if_neg (show¬(i:Int)+1=6 by omega)];rfl
theorem PutOK.node{S S1 S2:St}{a b:T}{i j:Nat}{k:Int}(hk:k=7\/k=9)(h1:PutOK S a S1 i)(h2:PutOK S1 b S2 j){t:T}(ht:t.ty= .mk k 0 [a.ty,b.ty])(hin:t.inner=a.inner+b.inner+1):
 PutOK S t (S2++ [⟨k,0,none,[i,j]⟩]) S2.length:=by
 have hi:i<S2.length:=by have:=h1.lt;have:=h2.len;omega
 have hw:Wf (S2++ [⟨k,0,none,[i,j]⟩]):=h2.wf.add (.inr ⟨rfl,.inl ⟨hk,rfl⟩⟩) rfl (by
  intro x hx;simp only[List.mem_cons,List.not_mem_nil,or_false]at hx;rcases hx with rfl|rfl;exact hi;exact h2.lt)
 have ti:St.tree (S2++ [⟨k,0,none,[i,j]⟩]) i=a.ty:=by rw[h2.wf.zYd hw rfl i hi,(h2.oldt i h1.lt).1,h1.tree]
 have tj:St.tree (S2++ [⟨k,0,none,[i,j]⟩]) j=b.ty:=by rw[h2.wf.zYd hw rfl j h2.lt,h2.tree]
 refine⟨hw,by simp[h2.len,h1.len,hin];omega,fun x hx=> ?_,by simp,zUN rfl,?_,fun x hx=> ?_⟩
 ·rw[St.zPu,if_neg (by have:=h1.len;have:=h2.len;omega),h2.old x (by have:=h1.len;omega),h1.old x hx]
 ·rw[hw.zYe (by simp),zUN rfl,St.kind,St.kids,St.zPw,ht]
  rw[if_neg (by rcases hk with rfl|rfl<;>simp)]
  simp only[List.map_cons,List.map_nil,ti,tj]
 ·have hx1:x<S1.length:=by have:=h1.len;omega
  have hx2:x<S2.length:=by have:=h2.len;omega
  rw[h2.wf.zYd hw rfl x hx2,h2.wf.zUF hw rfl x hx2,(h2.oldt x hx1).1,(h2.oldt x hx1).2]
  exact h1.oldt x hx
theorem zSr:∀(t:T) (S:St),Wf S->t.closed=true->PutOK S t (putN t S).1 (putN t S).2:=by
 intro t
 induction t with
 |base k=>
  intro S h _
  have hk:=k.isLt
  obtain⟨r,e⟩:=zS3 h (i:=k.val) (by omega)
  exact⟨h,rfl,fun _ _=>rfl,by have:=h.five;show k.val<S.length;omega,r,e,fun _ _=>⟨rfl,rfl⟩⟩
 |dyn=>
  intro S h _
  obtain⟨r,e⟩:=zS3 h (i:=4) (by omega)
  exact⟨h,rfl,fun _ _=>rfl,by have:=h.five;show 4<S.length;omega,r,e,fun _ _=>⟨rfl,rfl⟩⟩
 |var n=>intro S _ hc;simp[T.closed]at hc
 |pair a b ih1 ih2=>
  intro S h hc
  simp only[T.closed,YAA]at hc
  have h1:=ih1 S h hc.1
  exact PutOK.node (.inl rfl) h1 (ih2 _ h1.wf hc.2) rfl rfl
 |fn a b ih1 ih2=>
  intro S h hc
  simp only[T.closed,YAA]at hc
  have h1:=ih1 S h hc.1
  exact PutOK.node (.inr rfl) h1 (ih2 _ h1.wf hc.2) rfl rfl
 |list a ih1=>
  intro S h hc
  simp only[T.closed]at hc
  have h1:=ih1 S h hc
  have hw:Wf ((putN a S).1++ [⟨8,0,none,[(putN a S).2]⟩]):=h1.wf.add (.inr ⟨rfl,.inr ⟨rfl,rfl⟩⟩) rfl (by
   intro x hx;simp only[List.mem_singleton]at hx;subst hx;exact h1.lt)
  have ti:=h1.wf.zYd hw rfl _ h1.lt
  refine⟨hw,by simp[putN,h1.len,T.inner];omega,fun x hx=> ?_,by simp[putN],zUN rfl,?_,fun x hx=> ?_⟩
  ·show St.nd ((putN a S).1++ [_]) x=_
   rw[St.zPu,if_neg (by have:=h1.len;omega),h1.old x hx]
  ·show St.tree ((putN a S).1++ [_]) (putN a S).1.length=_
   rw[hw.zYe (by simp),zUN rfl,St.kind,St.kids,St.zPw]
   simp only[List.map_cons,List.map_nil,ti,h1.tree];rfl
  ·have hx1:x<(putN a S).1.length:=by have:=h1.len;omega
   show St.tree ((putN a S).1++ [_]) x=_/\St.root ((putN a S).1++ [_]) x=_
   rw[h1.wf.zYd hw rfl x hx1,h1.wf.zUF hw rfl x hx1]
   exact h1.oldt x hx
end
section
abbrev BT:=Int×T
def zNg:List BT->Int->Option T
 | [],_=>none
 |p::l,n=>if p.1=n then some p.2 else zNg l n
def sigT(l:List BT)(n:Int):T:=(zNg l n).getD (.var n)
def T.zaU:T->List Int->List Int
 | .var n,out=>if n ∉ out then out++ [n]else out
 | .pair a b,out=>b.zaU (a.zaU out)
 | .fn a b,out=>b.zaU (a.zaU out)
 | .list a,out=>a.zaU out
 |_,out=>out
def T.has(n:Int):T->Bool
 | .var m=>decide (m=n)
 | .pair a b=>a.has n||b.has n
 | .fn a b=>a.has n||b.has n
 | .list a=>a.has n
 |_=>false
theorem zPL:∀(a:T) (out:List Int) (n:Int),n∈a.zaU out ↔ n∈out\/a.has n=true:=by
 intro a
 induction a with
 |var m=>
  intro out n
  simp only[T.zaU,T.has,YAa]
  by_cases h:m∈out
  ·simp only[h,not_true_eq_false,if_false]
   exact⟨.inl,fun h'=>h'.elim id fun e=>e▸h⟩
  ·simp only[h,not_false_eq_true,if_true,List.mem_append,List.mem_singleton]
   exact⟨fun h'=>h'.imp id Eq.symm,fun h'=>h'.imp id Eq.symm⟩
 |pair a b ih1 ih2=>intro out n;simp only[T.zaU,T.has,ih2,ih1,YAP,or_assoc]
 |fn a b ih1 ih2=>intro out n;simp only[T.zaU,T.has,ih2,ih1,YAP,or_assoc]
 |list a ih1=>intro out n;simp only[T.zaU,T.has,ih1]
 |_=>intro out n;simp[T.zaU,T.has]
theorem zQe:∀(a:T) (out:List Int),out.Nodup->(a.zaU out).Nodup:=by
 intro a
 induction a with
 |var m=>
  intro out h
  simp only[T.zaU]
  split
  ·rename_i hm;exact List.nodup_append.2 ⟨h,by simp,by simp;rintro x hx rfl;exact hm hx⟩
  ·exact h
 |pair a b ih1 ih2=>intro out h;exact ih2 _ (ih1 _ h)
 |fn a b ih1 ih2=>intro out h;exact ih2 _ (ih1 _ h)
 |list a ih1=>intro out h;exact ih1 _ h
 |_=>intro out h;exact h
theorem zSx{σ τ:Int->T}:∀a:T,(∀n,a.has n=true->σ n=τ n)->putS σ a=putS τ a:=by
 intro a
 induction a with
 |var n=>intro h;exact h n (by simp[T.has])
 |pair a b ih1 ih2=>intro h;simp only[putS];rw[ih1 fun n hn=>h n (by simp[T.has,hn]),ih2 fun n hn=>h n (by simp[T.has,hn])]
 |fn a b ih1 ih2=>intro h;simp only[putS];rw[ih1 fun n hn=>h n (by simp[T.has,hn]),ih2 fun n hn=>h n (by simp[T.has,hn])]
 |list a ih1=>intro h;simp only[putS];rw[ih1 fun n hn=>h n (by simp[T.has,hn])]
 |_=>intro _;rfl
def T.stat:T->Bool
 | .dyn=>false
 | .pair a b=>a.stat&&b.stat
 | .fn a b=>a.stat&&b.stat
 | .list a=>a.stat
 |_=>true
def zO6:T->T->List BT->Option (List BT)
 | .var n,u,l=>match zNg l n with
  |some v=>if v=u then some l else none
  |none=>if u.stat=true then some (l++ [(n,u)])else none
 | .pair a b,.pair c d,l=>(zO6 a c l).bind (zO6 b d)
 | .fn a b,.fn c d,l=>(zO6 a c l).bind (zO6 b d)
 | .list a,.list c,l=>zO6 a c l
 | .dyn,.dyn,l=>some l
 | .base k,.base k',l=>if k=k' then some l else none
 |_,_,_=>none
def zDx(σ:Int->T)(L:List Int):List BT:=L.map fun n=>(n,σ n)
end
section
theorem zTP{S:St}{n m:Nat}:Rch S n m ↔ m=S.root n\/∃k∈S.kids (S.root n),Rch S k m:=by
 constructor
 ·intro h
  cases h with
  |here=>exact .inl rfl
  |kid _ k _ hk hr=>exact .inr ⟨k,hk,hr⟩
 ·rintro(rfl|⟨k,hk,hr⟩)
  ·exact .here n
  ·exact .kid n k m hk hr
theorem Wf.shape{S:St}(h:Wf S){r:Nat}(hr:r<S.length)(hl:S.link r=none):
 (r<5/\S.kind r=r+1/\S.kids r=[])\/(5<=r/\S.kind r=6/\S.kids r=[])\/(∃i j,(S.kind r=7\/S.kind r=9)/\S.kids r=[i,j])\/∃i,S.kind r=8/\S.kids r=[i]:=by
 by_cases h5:r<5
 ·have e:=h.leaf r h5
  exact .inl ⟨h5,by rw[St.kind,e],by rw[St.kids,e]⟩
 ·rcases h.node r (by omega) hr with hk|⟨_,hk|hk⟩
  ·exact .inr (.inl ⟨by omega,hk.1,hk.2⟩)
  ·match e:(S.nd r).kids,hk.2 with
   | [i,j],_=>exact .inr (.inr (.inl ⟨i,j,hk.1,e⟩))
  ·match e:(S.nd r).kids,hk.2 with
   | [i],_=>exact .inr (.inr (.inr ⟨i,hk.1,e⟩))
theorem Wf.zYc{S:St}(h:Wf S)(hS:S.length<=1048577):∀n,n<S.length->∃x:T,S.tree n=x.ty/\x.ok=true/\∀m:Nat,x.has m=true ↔ Rch S n m/\S.kind m=6:=by
 refine h.ind (p:=fun n=>n<S.length->∃x:T,S.tree n=x.ty/\x.ok=true/\∀m:Nat,x.has m=true ↔ Rch S n m/\S.kind m=6) fun n ih hn=> ?_
 have hr:=h.root_lt n hn
 have e:=h.zYe hn
 rcases h.shape hr (h.zUK n)with ⟨h5,hk,hc⟩|⟨h5,hk,hc⟩|⟨i,j,hk,hc⟩|⟨i,hk,hc⟩
 ·rw[hk,hc,if_neg (by omega)]at e
  have rc:∀m:Nat,Rch S n m ↔ m=S.root n:=fun m=>by rw[zTP,hc];simp
  by_cases h4:S.root n=4
  ·refine⟨.dyn,by rw[e,h4];rfl,rfl,fun m=> ?_⟩
   rw[rc];simp only[T.has,YAB,false_iff];rintro⟨rfl,hk6⟩;omega
  ·refine⟨.base ⟨S.root n,by omega⟩,by rw[e];rfl,rfl,fun m=> ?_⟩
   rw[rc];simp only[T.has,YAB,false_iff];rintro⟨rfl,hk6⟩;omega
 ·rw[hk,hc,if_pos rfl]at e
  have rc:∀m:Nat,Rch S n m ↔ m=S.root n:=fun m=>by rw[zTP,hc];simp
  refine⟨.var (S.root n),e,by simp[T.ok];omega,fun m=> ?_⟩
  rw[rc];simp only[T.has,YAa]
  constructor
  ·intro h;have:m=S.root n:=by omega
   exact⟨this,this▸hk⟩
  ·rintro⟨rfl,_⟩;rfl
 ·have hi:i∈S.kids (S.root n):=by rw[hc];simp
  have hj:j∈S.kids (S.root n):=by rw[hc];simp
  obtain⟨x,ex,ox,hx⟩:=ih i hi (h.zMa hi)
  obtain⟨y,ey,oy,hy⟩:=ih j hj (h.zMa hj)
  have rc:∀m:Nat,Rch S n m/\S.kind m=6 ↔ (Rch S i m/\S.kind m=6)\/(Rch S j m/\S.kind m=6):=fun m=>by
   rw[zTP,hc]
   constructor
   ·rintro⟨rfl|⟨k,hk2,hr2⟩,h6⟩
    ·rcases hk with hk|hk<;>rw[hk]at h6<;>cases h6
    ·simp only[List.mem_cons,List.not_mem_nil,or_false]at hk2
     rcases hk2 with rfl|rfl
     ·exact .inl ⟨hr2,h6⟩
     ·exact .inr ⟨hr2,h6⟩
   ·rintro(⟨h1,h6⟩|⟨h1,h6⟩)
    ·exact⟨.inr ⟨i,by simp,h1⟩,h6⟩
    ·exact⟨.inr ⟨j,by simp,h1⟩,h6⟩
  rw[hc]at e
  simp only[List.map_cons,List.map_nil,ex,ey]at e
  rcases hk with hk|hk
  ·rw[hk,if_neg (by omega)]at e
   exact⟨.pair x y,e,by simp[T.ok,ox,oy],fun m=>by rw[rc];simp only[T.has,YAP,hx,hy]⟩
  ·rw[hk,if_neg (by omega)]at e
   exact⟨.fn x y,e,by simp[T.ok,ox,oy],fun m=>by rw[rc];simp only[T.has,YAP,hx,hy]⟩
 ·have hi:i∈S.kids (S.root n):=by rw[hc];simp
  obtain⟨x,ex,ox,hx⟩:=ih i hi (h.zMa hi)
  have rc:∀m:Nat,Rch S n m/\S.kind m=6 ↔ Rch S i m/\S.kind m=6:=fun m=>by
   rw[zTP,hc]
   constructor
   ·rintro⟨rfl|⟨k,hk2,hr2⟩,h6⟩
    ·rw[hk]at h6;cases h6
    ·simp only[List.mem_singleton]at hk2;subst hk2;exact⟨hr2,h6⟩
   ·rintro⟨h1,h6⟩;exact⟨.inr ⟨i,by simp,h1⟩,h6⟩
  rw[hc]at e
  simp only[List.map_cons,List.map_nil,ex]at e
  rw[hk,if_neg (by omega)]at e
  exact⟨.list x,e,by simp[T.ok,ox],fun m=>by rw[rc];simp only[T.has,hx]⟩
theorem zOy{l:List Nat}{f:Nat->Ty}{a b:Ty}(h: [a,b]=l.map f):∃i j,l=[i,j]/\f i=a/\f j=b:=by
 rcases l with _|⟨i,_|⟨j,_|⟨k,l⟩⟩⟩<;>simp at h
 exact⟨i,j,rfl,h.1.symm,h.2.symm⟩
theorem zOw{l:List Nat}{f:Nat->Ty}{a:Ty}(h: [a]=l.map f):∃i,l=[i]/\f i=a:=by
 rcases l with _|⟨i,_|⟨j,l⟩⟩<;>simp at h
 exact⟨i,rfl,h.symm⟩
theorem Wf.zYg{S:St}(h:Wf S):∀n,n<S.length->∀x:T,S.tree n=x.ty->∀z:Int,x.has z=true->∃m:Nat,z=m:=by
 refine h.ind (p:=fun n=>n<S.length->∀x:T,S.tree n=x.ty->∀z:Int,x.has z=true->∃m:Nat,z=m) fun n ih hn x hx z hz=> ?_
 have e:=h.zYe hn
 rw[hx]at e
 cases x with
 |var w=>
  simp only[T.ty,Ty.mk.injEq]at e
  simp only[T.has,YAa]at hz
  rw[<-e.1,if_pos rfl]at e
  exact⟨S.root n,by rw[<-hz];exact e.2.1⟩
 |pair a b=>
  simp only[T.ty,Ty.mk.injEq]at e
  simp only[T.has,YAP]at hz
  obtain⟨i,j,hk,ei,ej⟩:=zOy e.2.2
  rcases hz with hz|hz
  ·exact ih i (by rw[hk];simp) (h.zMa (i:=S.root n) (by rw[hk];simp)) a ei z hz
  ·exact ih j (by rw[hk];simp) (h.zMa (i:=S.root n) (by rw[hk];simp)) b ej z hz
 |fn a b=>
  simp only[T.ty,Ty.mk.injEq]at e
  simp only[T.has,YAP]at hz
  obtain⟨i,j,hk,ei,ej⟩:=zOy e.2.2
  rcases hz with hz|hz
  ·exact ih i (by rw[hk];simp) (h.zMa (i:=S.root n) (by rw[hk];simp)) a ei z hz
  ·exact ih j (by rw[hk];simp) (h.zMa (i:=S.root n) (by rw[hk];simp)) b ej z hz
 |list a=>
  simp only[T.ty,Ty.mk.injEq]at e
  simp only[T.has]at hz
  obtain⟨i,hk,ei⟩:=zOw e.2.2
  exact ih i (by rw[hk];simp) (h.zMa (i:=S.root n) (by rw[hk];simp)) a ei z hz
 |_=>simp[T.has]at hz
def St.vars(S:St)(n:Nat):List Nat:=(S.all n).filter fun m=>decide (S.kind m=6)
theorem Wf.zPJ{S:St}(h:Wf S){n m:Nat}(hn:n<S.length):m∈S.vars n ↔ Rch S n m/\S.kind m=6:=by
 simp only[St.vars,List.mem_filter,YAa,h.zPE hn]
theorem Wf.zae{S:St}(h:Wf S)(hS:S.length<=1048577){n:Nat}(hn:n<S.length){x:T}(hx:S.tree n=x.ty):(S.vars n).length=(x.zaU []).length:=by
 obtain⟨y,e,_,hy⟩:=h.zYc hS n hn
 have exy:x=y:=by rw[hx]at e;exact T.zZ7 e
 subst exy
 have p:((S.vars n).map fun m:Nat=>(m:Int)).Perm (x.zaU []):=by
  refine(List.perm_ext_iff_of_nodup ?_ (zQe x [] List.nodup_nil)).2 fun z=> ?_
  ·exact List.Pairwise.map _ (fun a b (h:a≠b) (e:(a:Int)=b)=>h (by omega)) ((h.zQc hn).filter _)
  ·rw[List.mem_map]
   constructor
   ·rintro⟨m,hm,rfl⟩
    rw[zPL]
    exact .inr ((hy m).2 ((h.zPJ hn).1 hm))
   ·intro hz
    rw[zPL]at hz
    rcases hz with hz|hz
    ·cases hz
    ·obtain⟨m,rfl⟩:=h.zYg n hn x hx z hz
     exact⟨m,(h.zPJ hn).2 ((hy m).1 hz),rfl⟩
 have:=p.length_eq
 simpa using this
end
section
def idxI(vs:List Int)(n:Int):Int:=((vs.idxOf n:Nat):Int)
def zEI(a:T):T:=putS (fun n=> .var (idxI (a.zaU []) n)) a
theorem zTZ{ρ:Int->Int}:∀(a:T) (out:List Int),(∀m n,(m∈out\/a.has m=true)->(n∈out\/a.has n=true)->ρ m=ρ n->m=n)->(putS (fun n=> .var (ρ n)) a).zaU (out.map ρ)=(a.zaU out).map ρ:=by
 intro a
 induction a with
 |var n=>
  intro out h
  simp only[putS,T.zaU,List.mem_map]
  by_cases hn:n∈out
  ·rw[if_neg (by simpa using⟨n,hn,rfl⟩),if_neg (by simpa using hn)]
  ·rw[if_pos (by rintro⟨m,hm,e⟩;exact hn (h m n (.inl hm) (.inr (by simp[T.has])) e▸hm)),if_pos hn,List.map_append];rfl
 |pair a b ih1 ih2=>
  intro out h
  simp only[putS,T.zaU]
  rw[ih1 out fun m n hm hn=>h m n (hm.imp id fun x=>by simp[T.has,x]) (hn.imp id fun x=>by simp[T.has,x])]
  refine ih2 _ fun m n hm hn=>h m n ?_ ?_
  ·rw[zPL]at hm;simp only[T.has,YAP];rcases hm with (h|h)|h<;>simp[h]
  ·rw[zPL]at hn;simp only[T.has,YAP];rcases hn with (h|h)|h<;>simp[h]
 |fn a b ih1 ih2=>
  intro out h
  simp only[putS,T.zaU]
  rw[ih1 out fun m n hm hn=>h m n (hm.imp id fun x=>by simp[T.has,x]) (hn.imp id fun x=>by simp[T.has,x])]
  refine ih2 _ fun m n hm hn=>h m n ?_ ?_
  ·rw[zPL]at hm;simp only[T.has,YAP];rcases hm with (h|h)|h<;>simp[h]
  ·rw[zPL]at hn;simp only[T.has,YAP];rcases hn with (h|h)|h<;>simp[h]
 |list a ih1=>
  intro out h
  simp only[putS,T.zaU]
  exact ih1 out fun m n hm hn=>h m n (hm.imp id fun x=>by simpa [T.has]using x) (hn.imp id fun x=>by simpa [T.has]using x)
 |_=>intro out _;rfl
end
section
theorem Wf.zYf{S:St}(h:Wf S){a b:Nat}(ha:a<S.length)(hb:b<S.length)(e:S.root a=S.root b):S.tree a=S.tree b:=by
 rw[h.zYe ha,h.zYe hb,e]
structure VI (S:St) (vs:List (Int×Int)):Prop where
 at_:∀k n,mget vs k=some n->∃m:Nat,n=m/\m<S.length/\S.root m=m/\S.kind m=6
 inj:∀k k' n,mget vs k=some n->mget vs k'=some n->k=k'
def nu(vs:List (Int×Int))(k:Int):Int:=(mget vs k).getD 0
def zOK(lvl:Int):T->St->List (Int×Int)->St×List (Int×Int)×Nat
 | .var k,S,vs=>match mget vs k with
  |some n=>(S,vs,n.toNat)
  |none=>(S++ [⟨6,lvl,none,[]⟩],mput vs k S.length,S.length)
 | .base k,S,vs=>(S,vs,k.val)
 | .dyn,S,vs=>(S,vs,4)
 | .pair a b,S,vs=>let p:=zOK lvl a S vs;let q:=zOK lvl b p.1 p.2.1;(q.1++ [⟨7,0,none,[p.2.2,q.2.2]⟩],q.2.1,q.1.length)
 | .fn a b,S,vs=>let p:=zOK lvl a S vs;let q:=zOK lvl b p.1 p.2.1;(q.1++ [⟨9,0,none,[p.2.2,q.2.2]⟩],q.2.1,q.1.length)
 | .list a,S,vs=>let p:=zOK lvl a S vs;(p.1++ [⟨8,0,none,[p.2.2]⟩],p.2.1,p.1.length)
structure MadeOK (lvl:Int) (S:St) (vs:List (Int×Int)) (t:T) (S':St) (vs':List (Int×Int)) (n:Nat):Prop where
 wf:Wf S'
 len:S.length<=S'.length/\S'.length<=S.length+t.size
 old:∀i,i<S.length->S'.nd i=S.nd i
 lt:n<S'.length
 root:S'.root n=n
 tree:S'.tree n=(putS (fun k=> .var (nu vs' k)) t).ty
 oldt:∀i,i<S.length->S'.tree i=S.tree i/\S'.root i=S.root i
 vi:VI S' vs'
 ext:∀k n,mget vs k=some n->mget vs' k=some n
 dom:∀k,t.has k=true->(mget vs' k).isSome=true
 dom':∀k,(mget vs' k).isSome=true->(mget vs k).isSome=true\/t.has k=true
 lvl:∀i,S.length<=i->i<S'.length->S'.kind i=6->(S'.nd i).level=lvl
theorem VI.add{S:St}{vs:List (Int×Int)}(h:VI S vs)(hw:Wf S){x:Nd}(hw':Wf (S++ [x]))(hl:x.link=none):VI (S++ [x]) vs:=by
 refine⟨fun k n e=> ?_,h.inj⟩
 obtain⟨m,e1,e2,e3,e4⟩:=h.at_ k n e
 refine⟨m,e1,by simp;omega,by rw[hw.zUF hw' hl m e2,e3],?_⟩
 rw[St.kind,St.zPu,if_neg (by omega)];exact e4
theorem zQm{vs vs':List (Int×Int)}(h:∀k n,mget vs k=some n->mget vs' k=some n){k:Int}(hk:(mget vs k).isSome=true):nu vs' k=nu vs k:=by
 obtain⟨n,hn⟩:=Option.isSome_iff_exists.1 hk
 rw[nu,nu,hn,h k n hn]
theorem MadeOK.node{lvl:Int}{S S1 S2:St}{vs v1 v2:List (Int×Int)}{a b:T}{i j:Nat}{k:Int}(hk:k=7\/k=9)(h1:MadeOK lvl S vs a S1 v1 i)(h2:MadeOK lvl S1 v1 b S2 v2 j){t:T}
 (ht:∀σ:Int->T,(putS σ t).ty= .mk k 0 [(putS σ a).ty,(putS σ b).ty]) (hsz:t.size=a.size+b.size+1) (hh:∀z,t.has z=(a.has z||b.has z)):
 MadeOK lvl S vs t (S2++ [⟨k,0,none,[i,j]⟩]) v2 S2.length:=by
 have l1:=h1.len
 have l2:=h2.len
 have hi:i<S2.length:=by have:=h1.lt;omega
 have hw:Wf (S2++ [⟨k,0,none,[i,j]⟩]):=h2.wf.add (.inr ⟨rfl,.inl ⟨hk,rfl⟩⟩) rfl (by
  intro x hx;simp only[List.mem_cons,List.not_mem_nil,or_false]at hx;rcases hx with rfl|rfl;exact hi;exact h2.lt)
 have ti:St.tree (S2++ [⟨k,0,none,[i,j]⟩]) i=(putS (fun k=> .var (nu v2 k)) a).ty:=by
  rw[h2.wf.zYd hw rfl i hi,(h2.oldt i h1.lt).1,h1.tree]
  rw[zSx (τ:=fun k=> .var (nu v2 k)) a fun z hz=>by rw[zQm h2.ext (h1.dom z hz)]]
 have tj:St.tree (S2++ [⟨k,0,none,[i,j]⟩]) j=(putS (fun k=> .var (nu v2 k)) b).ty:=by rw[h2.wf.zYd hw rfl j h2.lt,h2.tree]
 refine⟨hw,by simp[hsz];omega,fun x hx=> ?_,by simp,zUN rfl,?_,fun x hx=> ?_,h2.vi.add h2.wf hw rfl,fun z n e=>h2.ext z n (h1.ext z n e),fun z hz=> ?_,fun z hz=> ?_,fun x hx1 hx2 hx6=> ?_⟩
 ·rw[St.zPu,if_neg (by omega),h2.old x (by omega),h1.old x hx]
 ·rw[hw.zYe (by simp),zUN rfl,St.kind,St.kids,St.zPw,ht]
  rw[if_neg (by rcases hk with rfl|rfl<;>simp)]
  simp only[List.map_cons,List.map_nil,ti,tj]
 ·have hx1:x<S1.length:=by omega
  have hx2:x<S2.length:=by omega
  rw[h2.wf.zYd hw rfl x hx2,h2.wf.zUF hw rfl x hx2,(h2.oldt x hx1).1,(h2.oldt x hx1).2]
  exact h1.oldt x hx
 ·rw[hh,YAP]at hz
  rcases hz with hz|hz
  ·obtain⟨n,hn⟩:=Option.isSome_iff_exists.1 (h1.dom z hz)
   rw[h2.ext z n hn];rfl
  ·exact h2.dom z hz
 ·rw[hh,YAP]
  rcases h2.dom' z hz with hz|hz
  ·rcases h1.dom' z hz with hz|hz
   ·exact .inl hz
   ·exact .inr (.inl hz)
  ·exact .inr (.inr hz)
 ·have e:St.nd (S2++ [⟨k,0,none,[i,j]⟩]) x=if x=S2.length then⟨k,0,none,[i,j]⟩else S2.nd x:=St.zPu
  rw[St.kind,e]at hx6
  rw[e]
  split at hx6
  ·exfalso;simp only at hx6;rcases hk with e|e<;>omega
  ·rename_i hne
   rw[if_neg hne]
   simp only[YAJ,List.length_cons,List.length_nil]at hx2
   by_cases hx3:x<S1.length
   ·rw[h2.old x hx3]
    rw[h2.old x hx3]at hx6
    exact h1.lvl x hx1 hx3 hx6
   ·exact h2.lvl x (by omega) (by omega) hx6
theorem MadeOK.vars{lvl:Int}{S S':St}{vs vs':List (Int×Int)}{t:T}{n:Nat}(h:MadeOK lvl S vs t S' vs' n)(hS:S'.length<=1048577):(S'.vars n).length=(t.zaU []).length:=by
 rw[h.wf.zae hS h.lt h.tree]
 have:=zTZ (ρ:=nu vs') t [] fun k k' hk hk' e=>by
  simp only[List.not_mem_nil,false_or]at hk hk'
  obtain⟨m,hm⟩:=Option.isSome_iff_exists.1 (h.dom k hk)
  obtain⟨m',hm'⟩:=Option.isSome_iff_exists.1 (h.dom k' hk')
  rw[nu,nu,hm,hm']at e
  simp only[Option.getD_some]at e
  subst e
  exact h.vi.inj k k' m hm hm'
 simp only[List.map_nil]at this
 rw[this,YAK]
end
section
theorem zoo:∀(Z:List (Int×Int)) (k:Int),(mget Z k).isSome=true ↔ k∈Z.map Prod.fst:=by
 intro Z k
 induction Z with
 |nil=>simp[mget]
 |cons p Z ih=>
  obtain⟨j,w⟩:=p
  simp only[mget,List.map_cons,List.mem_cons]
  by_cases e:j=k
  ·simp[e]
  ·rw[if_neg e,ih]
   constructor
   ·exact .inr
   ·rintro(h|h)
    ·exact absurd h.symm e
    ·exact h
theorem zor:∀(Z:List (Int×Int)) (k v:Int),mget Z k=none->mput Z k v=Z++ [(k,v)]:=by
 intro Z k v
 induction Z with
 |nil=>intro _;rfl
 |cons p Z ih=>
  obtain⟨j,w⟩:=p
  intro h
  simp only[mget]at h
  by_cases e:j=k
  ·simp[e]at h
  ·rw[if_neg e]at h
   simp only[mput,if_neg e,ih h];rfl
end
end Go.Proofs.Ytdngjamjccjlmaa
