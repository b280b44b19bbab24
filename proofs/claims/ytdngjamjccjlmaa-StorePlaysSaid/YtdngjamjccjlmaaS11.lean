/- A copy in a store: plain. No condition. -/
import Derived.Test.YtdngjamjccjlmaaPWc
import Derived.Test.YtdngjamjccjlmaaPSb
set_option linter.unusedSimpArgs false
set_option linter.unusedVariables false
namespace Go.Proofs.Ytdngjamjccjlmaa
open Go Go.Ab
def hld(S:St)(to:List (Int×Int))(r:Nat):Bool:=(S.all r).any fun z=>(mget to (z:Int)).isSome
theorem zoS{S:St}{to:List (Int×Int)}(h:Wf S){r:Nat}(hr:r<S.length):hld S to r=true ↔ ∃z,Rch S r z/\(mget to (z:Int)).isSome=true:=by
 simp only[hld,List.any_eq_true]
 constructor
 ·rintro⟨z,h1,h2⟩;exact⟨z,(h.zPE hr).1 h1,h2⟩
 ·rintro⟨z,h1,h2⟩;exact⟨z,(h.zPE hr).2 h1,h2⟩
theorem zoU{S:St}{to:List (Int×Int)}(h:Wf S){r:Nat}(hr:r<S.length):hld S to (S.root r)=hld S to r:=by
 rw[Bool.eq_iff_iff,zoS h (h.root_lt r hr),zoS h hr]
 constructor
 ·rintro⟨z,h1,h2⟩;exact⟨z,zTO (h.zUQ r) h1,h2⟩
 ·rintro⟨z,h1,h2⟩;exact⟨z,zTO (h.zUQ r).symm h1,h2⟩
theorem zoV{S:St}{to:List (Int×Int)}(h:Wf S){r:Nat}(hr:r<S.length)(hrr:S.root r=r):hld S to r=((mget to (r:Int)).isSome||(S.kids r).any fun k=>hld S to (S.root k)):=by
 rw[Bool.eq_iff_iff,zoS h hr,YAP,List.any_eq_true]
 constructor
 ·rintro⟨z,h1,h2⟩
  rw[zTP,hrr]at h1
  rcases h1 with rfl|⟨k,hk,h1⟩
  ·exact .inl h2
  ·have hkl:=h.zMa hk
   exact .inr ⟨k,hk,by rw[zoU h hkl];exact(zoS h hkl).2 ⟨z,h1,h2⟩⟩
 ·rintro(h1|⟨k,hk,h1⟩)
  ·exact⟨r,zTP.2 (.inl hrr.symm),h1⟩
  ·have hkl:=h.zMa hk
   rw[zoU h hkl]at h1
   obtain⟨z,h1,h2⟩:=(zoS h hkl).1 h1
   exact⟨z,zTP.2 (.inr ⟨k,by rw[hrr];exact hk,h1⟩),h2⟩
mutual
def sbT(f:Int->Option Ty):Ty->Ty
 | .mk k n ks=>match(if k=6 then f n else none)with
  |some y=>y
  |none=> .mk k n (sbL f ks)
def sbL(f:Int->Option Ty):List Ty->List Ty
 | []=> []
 |t::ts=>sbT f t::sbL f ts
end
theorem zpo(f:Int->Option Ty):∀l,sbL f l=l.map (sbT f)
 | []=>by simp[sbL]
 |t::ts=>by simp[sbL,zpo f ts]
theorem zpp(f:Int->Option Ty)(k n:Int)(ks:List Ty):sbT f (.mk k n ks)=match(if k=6 then f n else none)with
 |some y=>y
 |none=> .mk k n (ks.map (sbT f)):=by rw[sbT,zpo]
def fOf(S:St)(to:List (Int×Int))(z:Int):Option Ty:=(mget to z).map fun t=>S.tree t.toNat
theorem zpq{S:St}{to:List (Int×Int)}(h:Wf S){n:Nat}(hn:n<S.length)(ht:∀t,mget to (S.root n:Int)=some t->S.kind (S.root n)=6):
 sbT (fOf S to) (S.tree n)=match mget to (S.root n:Int)with
  |some t=>S.tree t.toNat
  |none=> .mk (S.kind (S.root n)) (if S.kind (S.root n)=6 then(S.root n:Int)else 0) ((S.kids (S.root n)).map fun k=>sbT (fOf S to) (S.tree k)):=by
 rw[h.zYe hn,zpp]
 by_cases h6:S.kind (S.root n)=6
 ·simp only[h6,if_true,fOf]
  cases mget to (S.root n:Int)with
  |some t=>rfl
  |none=>simp
 ·simp only[h6,if_false]
  cases e:mget to (S.root n:Int)with
  |some t=>exact absurd (ht t e) h6
  |none=>simp
theorem zpr{S:St}{to:List (Int×Int)}(h:Wf S)(ht:∀z t,mget to z=some t->∀m:Nat,z=m->S.kind m=6):∀n,n<S.length->hld S to n=false->sbT (fOf S to) (S.tree n)=S.tree n:=by
 refine h.ind (p:=fun n=>n<S.length->hld S to n=false->sbT (fOf S to) (S.tree n)=S.tree n) fun n ih hn hh=> ?_
 rw[zpq h hn fun t e=>ht _ t e _ rfl,h.zYe hn]
 rw[<-zoU h hn,zoV h (h.root_lt n hn) (h.zUQ n),YAE]at hh
 obtain⟨h1,h2⟩:=hh
 cases e:mget to (S.root n:Int)with
 |some t=>rw[e]at h1;cases h1
 |none=>
  simp only
  congr 1
  refine List.map_congr_left fun k hk=>ih k hk (h.zMa hk) ?_
  rw[<-zoU h (h.zMa hk)]
  exact List.any_eq_false.1 h2 k hk|>fun h=>by simpa using h
structure CX (S:St) (to:List (Int×Int)) (rd:Int) (L:Mem) (Z M:List (Int×Int)):Prop where
 si:SI L rd
 len:S.length<=L.length
 nd:∀i,i<S.length->L.st.nd i=S.nd i
 tr:∀i,i<S.length->L.st.tree i=S.tree i/\L.st.root i=S.root i
 vh:∀k x,mget Z k=some x->∃n:Nat,k=n/\x=if hld S to n then 1 else 2
 vm:∀k m,mget M k=some m->∃n m':Nat,k=n/\m=m'/\n<S.length/\m'<L.length/\L.st.tree m'=sbT (fOf S to) (S.tree n)
theorem CX.add{S:St}{to:List (Int×Int)}{rd:Int}{L:Mem}{Z M:List (Int×Int)}(h:CX S to rd L Z M){x:Nd}(hx:okNd x)(hl:x.link=none)(hk:∀k∈x.kids,k<L.length):CX S to rd (L++ [(x,0)]) Z M:=by
 have h1:=h.si.add hx hl hk
 have hw:=h1.wf
 have hlen:=h.len
 have hw':Wf (L.st++ [x]):=by rw[<-Mem.zXM L (x,0)];exact hw
 have ta:∀i,i<L.length->(L++ [(x,0)]).st.tree i=L.st.tree i:=fun i hi=>by rw[Mem.zXM];exact h.si.wf.zYd hw' hl i (by rw[Mem.zXR];exact hi)
 have ra:∀i,i<L.length->(L++ [(x,0)]).st.root i=L.st.root i:=fun i hi=>by rw[Mem.zXM];exact h.si.wf.zUF hw' hl i (by rw[Mem.zXR];exact hi)
 refine⟨h1,by simp;omega,fun i hi=> ?_,fun i hi=> ?_,h.vh,fun k m e=> ?_⟩
 ·rw[Mem.zXM,St.zPv (by rw[Mem.zXR];omega),h.nd i hi]
 ·rw[ta i (by omega),ra i (by omega)];exact h.tr i hi
 ·obtain⟨n,m',e1,e2,e3,e4,e5⟩:=h.vm k m e
  exact⟨n,m',e1,e2,e3,by simp;omega,by rw[ta m' e4];exact e5⟩
theorem CX.putM{S:St}{to:List (Int×Int)}{rd:Int}{L:Mem}{Z M:List (Int×Int)}(h:CX S to rd L Z M){n m:Nat}(hn:n<S.length)(hm:m<L.length)(ht:L.st.tree m=sbT (fOf S to) (S.tree n)):CX S to rd L Z (mput M n m):=by
 refine⟨h.si,h.len,h.nd,h.tr,h.vh,fun k x e=> ?_⟩
 rw[zPO]at e
 split at e
 ·rename_i hk;cases e;exact⟨n,m,hk.symm,rfl,hn,hm,ht⟩
 ·exact h.vm k x e
theorem CX.putH{S:St}{to:List (Int×Int)}{rd:Int}{L:Mem}{Z Z' M:List (Int×Int)}(h:CX S to rd L Z M)(hv:∀k x,mget Z' k=some x->∃n:Nat,k=n/\x=if hld S to n then 1 else 2):CX S to rd L Z' M:=
 ⟨h.si,h.len,h.nd,h.tr,hv,h.vm⟩
end Go.Proofs.Ytdngjamjccjlmaa
