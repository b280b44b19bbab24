/- Lemmas: a store in plain Lean, first part. No condition. -/
import Derived.Test.YtdngjamjccjlmaaPMa
set_option linter.unusedSimpArgs false
set_option linter.unusedVariables false
namespace Go.Proofs.Ytdngjamjccjlmaa
open Go Go.Ab
section
structure Nd where
 kind:Int
 level:Int
 link:Option Nat
 kids:List Nat
 deriving DecidableEq
instance:Inhabited Nd:=⟨⟨0,0,none,[]⟩⟩
abbrev St:=List Nd
def St.nd(S:St)(i:Nat):Nd:=S.getD i default
def St.link(S:St)(i:Nat):Option Nat:=(S.nd i).link
def St.kids(S:St)(i:Nat):List Nat:=(S.nd i).kids
def St.kind(S:St)(i:Nat):Int:=(S.nd i).kind
theorem St.zPx{S:St}{i:Nat}(h:S.length<=i):S.nd i=default:=by simp[St.nd,h]
theorem St.zPv{S S':St}{i:Nat}(h:i<S.length):St.nd (S++S') i=S.nd i:=by simp[St.nd,List.getElem?_append,h]
theorem St.zPw{S:St}{x:Nd}:St.nd (S++ [x]) S.length=x:=by simp[St.nd]
theorem St.zP0{S:St}{i j:Nat}{x:Nd}:St.nd (S.set i x) j=if j=i/\i<S.length then x else S.nd j:=by
 simp only[St.nd,YAF,List.getElem?_set]
 by_cases h:i=j
 ·subst h
  by_cases h2:i<S.length
  ·simp[h2]
  ·simp[h2]
 ·have:¬j=i:=fun e=>h e.symm
  simp[h,this]
structure Rk (S:St) (ρ:Nat->Nat):Prop where
 link:∀i j,S.link i=some j->ρ j<ρ i
 kid:∀i j,j∈S.kids i->ρ j<ρ i
def okNd(x:Nd):Prop:=(x.kind=6/\x.kids=[])\/(x.link=none/\((x.kind=7\/x.kind=9)/\x.kids.length=2\/x.kind=8/\x.kids.length=1))
structure Wf (S:St):Prop where
 five:5<=S.length
 leaf:∀i,i<5->S.nd i=⟨i+1,0,none,[]⟩
 node:∀i,5<=i->i<S.length->okNd (S.nd i)
 link_lt:∀i j,S.link i=some j->j<S.length
 kid_lt:∀i j,j∈S.kids i->j<S.length
 rk:∃ρ,Rk S ρ
theorem Wf.zN5{S:St}(h:Wf S){i j:Nat}(hl:S.link i=some j):i<S.length:=by
 refine Nat.lt_of_not_le fun hi=> ?_
 rw[St.link,St.zPx hi]at hl;cases hl
theorem Wf.zN4{S:St}(h:Wf S){i j:Nat}(hl:j∈S.kids i):i<S.length:=by
 refine Nat.lt_of_not_le fun hi=> ?_
 rw[St.kids,St.zPx hi]at hl;cases hl
theorem Wf.zNV{S:St}(h:Wf S){i j:Nat}(hl:S.link i=some j):5<=i/\S.kind i=6/\S.kids i=[]:=by
 have hi:=h.zN5 hl
 by_cases h5:i<5
 ·rw[St.link,h.leaf i h5]at hl;cases hl
 ·refine⟨by omega,?_⟩
  rcases h.node i (by omega) hi with hk|hk
  ·exact hk
  ·rw[St.link,hk.1]at hl;cases hl
theorem zFJ{α:Type}{p q:α->Bool}{l:List α}(h:∀x∈l,p x=true->q x=true){y:α}(hy:y∈l)(h1:p y=false)(h2:q y=true):l.countP p<l.countP q:=by
 induction l with
 |nil=>cases hy
 |cons a l ih=>
  have hle:l.countP p<=l.countP q:=List.countP_mono_left fun x hx=>h x (YAT _ hx)
  rcases List.mem_cons.1 hy with rfl|hy
  ·rw[List.countP_cons,List.countP_cons,h1,h2];simp;omega
  ·have:=ih (fun x hx=>h x (YAT _ hx)) hy
   rw[List.countP_cons,List.countP_cons]
   have ha:=h a YAU
   cases hpa:p a with
   |false=>simp;omega
   |true=>rw[ha hpa];simp;omega
def rkOf(S:St)(ρ:Nat->Nat)(i:Nat):Nat:=(List.range S.length).countP fun j=>decide (ρ j<ρ i)
theorem zT6{S:St}{ρ:Nat->Nat}{i:Nat}(hi:i<S.length):rkOf S ρ i<S.length:=by
 have h:=zFJ (p:=fun j=>decide (ρ j<ρ i)) (q:=fun _=>true) (l:=List.range S.length) (fun _ _ _=>rfl) (y:=i) (by simpa using hi) (by simp) rfl
 have h2:(List.range S.length).countP (fun _=>true)=S.length:=by simp
 unfold rkOf;omega
theorem zT7{S:St}{ρ:Nat->Nat}{i j:Nat}(hj:j<S.length)(h:ρ j<ρ i):rkOf S ρ j<rkOf S ρ i:=by
 refine zFJ (y:=j) (fun x _ hx=> ?_) (by simpa using hj) (by simp) (by simpa using h)
 simp only[YAa]at*;omega
theorem Wf.rank{S:St}(h:Wf S):∃ρ,Rk S ρ/\∀i,i<S.length->ρ i<S.length:=by
 obtain⟨ρ,hρ⟩:=h.rk
 exact⟨rkOf S ρ,⟨fun i j hl=>zT7 (h.link_lt i j hl) (hρ.link i j hl),fun i j hk=>zT7 (h.kid_lt i j hk) (hρ.kid i j hk)⟩,fun i hi=>zT6 hi⟩
def zUD(S:St):Nat->Nat->Nat
 |0,n=>n
 |f+1,n=>match S.link n with
  |none=>n
  |some j=>zUD S f j
def St.root(S:St)(n:Nat):Nat:=zUD S S.length n
theorem zUE{S:St}{ρ:Nat->Nat}(h:Rk S ρ):∀(f f' n:Nat),ρ n<=f->ρ n<=f'->zUD S f n=zUD S f' n:=by
 intro f
 induction f with
 |zero=>
  intro f' n hf hf'
  have hl:S.link n=none:=by
   cases hl:S.link n with
   |none=>rfl
   |some j=>have:=h.link n j hl;omega
  cases f' with
  |zero=>rfl
  |succ f'=>simp[zUD,hl]
 |succ f ih=>
  intro f' n hf hf'
  cases hl:S.link n with
  |none=>cases f'<;>simp[zUD,hl]
  |some j=>
   have:=h.link n j hl
   cases f' with
   |zero=>omega
   |succ f'=>simp only[zUD,hl];exact ih f' j (by omega) (by omega)
theorem zUO{S:St}{n:Nat}(h:S.link n=none):S.root n=n:=by
 unfold St.root;cases S.length<;>simp[zUD,h]
theorem Wf.zUR{S:St}(h:Wf S){n j:Nat}(hl:S.link n=some j):S.root n=S.root j:=by
 obtain⟨ρ,hρ,hlt⟩:=h.rank
 have h1:=hρ.link n j hl
 have h2:=hlt n (h.zN5 hl)
 unfold St.root
 obtain⟨m,hm⟩:=Nat.exists_eq_succ_of_ne_zero (show S.length≠0 by omega)
 have e:zUD S S.length n=zUD S m j:=by rw[hm];simp only[Nat.succ_eq_add_one,zUD,hl]
 rw[e]
 exact zUE hρ _ _ _ (by omega) (by omega)
theorem Wf.zNS{S:St}(h:Wf S){p:Nat->Prop}(h0:∀n,S.link n=none->p n)(h1:∀n j,S.link n=some j->p j->p n):∀n,p n:=by
 obtain⟨ρ,hρ⟩:=h.rk
 intro n
 induction hn:ρ n using Nat.strongRecOn generalizing n with
 |_ m ih=>
  cases hl:S.link n with
  |none=>exact h0 n hl
  |some j=>exact h1 n j hl (ih (ρ j) (by have:=hρ.link n j hl;omega) j rfl)
theorem Wf.zUK{S:St}(h:Wf S):∀n,S.link (S.root n)=none:=by
 refine h.zNS ?_ ?_
 ·intro n hn;rw[zUO hn];exact hn
 ·intro n j hl ih;rw[h.zUR hl];exact ih
theorem Wf.zUQ{S:St}(h:Wf S)(n:Nat):S.root (S.root n)=S.root n:=zUO (h.zUK n)
theorem Wf.root_lt{S:St}(h:Wf S):∀n,n<S.length->S.root n<S.length:=by
 refine h.zNS (p:=fun n=>n<S.length->S.root n<S.length) ?_ ?_
 ·intro n hn hl;rw[zUO hn];exact hl
 ·intro n j hl ih _;rw[h.zUR hl];exact ih (h.link_lt n j hl)
theorem Wf.zUJ{S:St}(h:Wf S){ρ:Nat->Nat}(hρ:Rk S ρ):∀n,ρ (S.root n)<=ρ n:=by
 refine h.zNS ?_ ?_
 ·intro n hn;rw[zUO hn];exact YAV _
 ·intro n j hl ih;rw[h.zUR hl];have:=hρ.link n j hl;omega
theorem Wf.zMc{S:St}(h:Wf S){ρ:Nat->Nat}(hρ:Rk S ρ){n k:Nat}(hk:k∈S.kids (S.root n)):ρ (S.root k)<ρ (S.root n):=by
 have:=h.zUJ hρ k;have:=hρ.kid _ _ hk;omega
theorem Wf.ind{S:St}(h:Wf S){p:Nat->Prop}(hs:∀n,(∀k∈S.kids (S.root n),p k)->p n):∀n,p n:=by
 obtain⟨ρ,hρ⟩:=h.rk
 intro n
 induction hn:ρ (S.root n)using Nat.strongRecOn generalizing n with
 |_ m ih=>
  exact hs n fun k hk=>ih (ρ (S.root k)) (by have:=h.zMc hρ hk;omega) k rfl
def zNe(S:St):Nat->Nat->List Nat->List Nat
 |0,_,l=>l
 |f+1,n,l=>if S.root n∈l then l else(S.kids (S.root n)).foldl (fun l k=>zNe S f k l) (l++ [S.root n])
def St.look(S:St)(n:Nat)(l:List Nat):List Nat:=zNe S S.length n l
def St.all(S:St)(n:Nat):List Nat:=S.look n []
theorem zHu{α β:Type}{f g:β->α->β}:∀ {l:List α} (b:β),(∀x∈l,∀b,f b x=g b x)->l.foldl f b=l.foldl g b
 | [],_,_=>rfl
 |a::l,b,h=>by
  simp only[List.foldl_cons]
  rw[h a YAU,zHu _ fun x hx=>h x (YAT _ hx)]
theorem zNf{S:St}(h:Wf S){ρ:Nat->Nat}(hρ:Rk S ρ):∀(f f' n:Nat) (l:List Nat),ρ (S.root n)<f->ρ (S.root n)<f'->zNe S f n l=zNe S f' n l:=by
 intro f
 induction f with
 |zero=>intro f' n l hf;omega
 |succ f ih=>
  intro f' n l hf hf'
  cases f' with
  |zero=>omega
  |succ f'=>
   simp only[zNe]
   split
   ·rfl
   ·exact zHu _ fun k hk b=>ih f' k b (by have:=h.zMc hρ hk;omega) (by have:=h.zMc hρ hk;omega)
theorem Wf.look_eq{S:St}(h:Wf S){n:Nat}(hn:n<S.length)(l:List Nat):S.look n l=if S.root n∈l then l else(S.kids (S.root n)).foldl (fun l k=>S.look k l) (l++ [S.root n]):=by
 obtain⟨ρ,hρ,hlt⟩:=h.rank
 have hr:=hlt _ (h.root_lt n hn)
 obtain⟨m,hm⟩:=Nat.exists_eq_succ_of_ne_zero (show S.length≠0 by omega)
 have e:S.look n l=zNe S (m+1) n l:=by rw[St.look,hm]
 rw[e,zNe]
 split
 ·rfl
 ·refine zHu _ fun k hk b=> ?_
  have:=h.zMc hρ hk
  exact zNf h hρ _ _ _ _ (by omega) (by omega)
inductive Rch (S:St):Nat->Nat->Prop
 |here (n:Nat):Rch S n (S.root n)
 |kid (n k r:Nat):k∈S.kids (S.root n)->Rch S k r->Rch S n r
def zYa(S:St):Nat->Nat->Ty
 |0,_=>default
 |f+1,n=> .mk (S.kind (S.root n)) (if S.kind (S.root n)=6 then(S.root n:Int)else 0) ((S.kids (S.root n)).map (zYa S f))
def St.tree(S:St)(n:Nat):Ty:=zYa S S.length n
theorem zYb{S:St}(h:Wf S){ρ:Nat->Nat}(hρ:Rk S ρ):∀(f f' n:Nat),ρ (S.root n)<f->ρ (S.root n)<f'->zYa S f n=zYa S f' n:=by
 intro f
 induction f with
 |zero=>intro f' n hf;omega
 |succ f ih=>
  intro f' n hf hf'
  cases f' with
  |zero=>omega
  |succ f'=>
   simp only[zYa]
   congr 1
   exact List.map_congr_left fun k hk=>ih f' k (by have:=h.zMc hρ hk;omega) (by have:=h.zMc hρ hk;omega)
theorem Wf.zYe{S:St}(h:Wf S){n:Nat}(hn:n<S.length):S.tree n= .mk (S.kind (S.root n)) (if S.kind (S.root n)=6 then(S.root n:Int)else 0) ((S.kids (S.root n)).map S.tree):=by
 obtain⟨ρ,hρ,hlt⟩:=h.rank
 have hr:=hlt _ (h.root_lt n hn)
 obtain⟨m,hm⟩:=Nat.exists_eq_succ_of_ne_zero (show S.length≠0 by omega)
 have e:S.tree n=zYa S (m+1) n:=by rw[St.tree,hm]
 rw[e,zYa]
 congr 1
 refine List.map_congr_left fun k hk=> ?_
 have:=h.zMc hρ hk
 exact zYb h hρ _ _ _ (by omega) (by omega)
end
section
theorem Wf.zMa{S:St}(h:Wf S){i k:Nat}(hk:k∈S.kids i):k<S.length:=h.kid_lt i k hk
def Cl(S:St)(l A:List Nat):Prop:=∀x∈l,x∈A\/∀k∈S.kids x,S.root k∈l
theorem zNo{S:St}(h:Wf S){ρ:Nat->Nat}(hρ:Rk S ρ):∀(m n:Nat) (l A:List Nat),ρ (S.root n)<m->n<S.length->Cl S l A->(∀a∈A,ρ (S.root n)<ρ a)->l.Nodup->
 (∀x∈l,x∈S.look n l)/\S.root n∈S.look n l/\Cl S (S.look n l) A/\(S.look n l).Nodup/\∀x∈S.look n l,x∈l\/Rch S n x:=by
 intro m
 induction m with
 |zero=>intro n l A hm;omega
 |succ m ih=>
  intro n l A hm hn hc hA hd
  rw[h.look_eq hn]
  by_cases hr:S.root n∈l
  ·rw[if_pos hr];exact⟨fun x hx=>hx,hr,hc,hd,fun x hx=> .inl hx⟩
  ·rw[if_neg hr]
   have key:∀(ks:List Nat) (l:List Nat),(∀k∈ks,k∈S.kids (S.root n))->Cl S l (S.root n::A)->l.Nodup->S.root n∈l->
    (∀x∈l,x∈ks.foldl (fun l k=>S.look k l) l)/\(∀k∈ks,S.root k∈ks.foldl (fun l k=>S.look k l) l)/\Cl S (ks.foldl (fun l k=>S.look k l) l) (S.root n::A)/\(ks.foldl (fun l k=>S.look k l) l).Nodup/\∀x∈ks.foldl (fun l k=>S.look k l) l,x∈l\/∃k∈ks,Rch S k x:=by
    intro ks
    induction ks with
    |nil=>intro l _ hc hd _;exact⟨fun x hx=>hx,by simp,hc,hd,fun x hx=> .inl hx⟩
    |cons k ks ihk=>
     intro l hk hc hd hrl
     have hk1:=hk k YAU
     have hlt:=h.zMc hρ hk1
     obtain⟨a1,a2,a3,a4,a5⟩:=ih k l (S.root n::A) (by omega) (h.zMa hk1) hc (fun a ha=>by
      rcases List.mem_cons.1 ha with rfl|ha
      ·exact hlt
      ·have:=hA a ha;omega) hd
     obtain⟨b1,b2,b3,b4,b5⟩:=ihk (S.look k l) (fun x hx=>hk x (YAT _ hx)) a3 a4 (a1 _ hrl)
     simp only[List.foldl_cons]
     refine⟨fun x hx=>b1 x (a1 x hx),fun x hx=> ?_,b3,b4,fun x hx=> ?_⟩
     ·rcases List.mem_cons.1 hx with rfl|hx
      ·exact b1 _ a2
      ·exact b2 x hx
     ·rcases b5 x hx with hx|⟨k',hk',hx⟩
      ·rcases a5 x hx with hx|hx
       ·exact .inl hx
       ·exact .inr ⟨k,YAU,hx⟩
      ·exact .inr ⟨k',YAT _ hk',hx⟩
   have hc':Cl S (l++ [S.root n]) (S.root n::A):=by
    intro x hx
    rcases List.mem_append.1 hx with hx|hx
    ·rcases hc x hx with hx'|hx'
     ·exact .inl (YAT _ hx')
     ·exact .inr fun k hk=>List.mem_append_left _ (hx' k hk)
    ·rw[List.mem_singleton]at hx;rw[hx];exact .inl YAU
   have hd':(l++ [S.root n]).Nodup:=by
    refine List.nodup_append.2 ⟨hd,by simp,?_⟩
    intro x hx y hy e
    rw[List.mem_singleton]at hy
    rw[e,hy]at hx;exact hr hx
   obtain⟨b1,b2,b3,b4,b5⟩:=key (S.kids (S.root n)) (l++ [S.root n]) (fun k hk=>hk) hc' hd' (by simp)
   refine⟨fun x hx=>b1 x (by simp[hx]),b1 _ (by simp),fun x hx=> ?_,b4,fun x hx=> ?_⟩
   ·rcases b3 x hx with hx'|hx'
    ·rcases List.mem_cons.1 hx' with e|hx'
     ·rw[e];exact .inr b2
     ·exact .inl hx'
    ·exact .inr hx'
   ·rcases b5 x hx with hx|⟨k,hk,hx⟩
    ·rcases List.mem_append.1 hx with hx|hx
     ·exact .inl hx
     ·rw[List.mem_singleton]at hx;rw[hx];exact .inr (.here n)
    ·exact .inr (.kid n k x hk hx)
theorem Rch.root{S:St}(h:Wf S){n m:Nat}(hr:Rch S n m):S.root m=m:=by
 induction hr with
 |here n=>exact h.zUQ n
 |kid n k r hk _ ih=>exact ih
theorem Rch.lt{S:St}(h:Wf S){n m:Nat}(hr:Rch S n m):n<S.length->m<S.length:=by
 induction hr with
 |here n=>exact h.root_lt n
 |kid n k r hk _ ih=>intro _;exact ih (h.zMa hk)
theorem Wf.zPE{S:St}(h:Wf S){n:Nat}(hn:n<S.length){m:Nat}:m∈S.all n ↔ Rch S n m:=by
 obtain⟨ρ,hρ⟩:=h.rk
 obtain⟨_,a2,a3,_,a5⟩:=zNo h hρ (ρ (S.root n)+1) n [] [] (by omega) hn (fun x hx=>by cases hx) (fun a ha=>by cases ha) List.nodup_nil
 constructor
 ·intro hm
  rcases a5 m hm with hm|hm
  ·cases hm
  ·exact hm
 ·intro hm
  have key:∀n m,Rch S n m->S.root n∈S.all n->(∀l,S.root n∈l->Cl S l []->m∈l):=by
   intro n m hr
   induction hr with
   |here n=>intro _ l hl _;exact hl
   |kid n k r hk hr ih=>
    intro _ l hl hc
    rcases hc _ hl with hx|hx
    ·cases hx
    ·have hk2:k<S.length:=h.zMa hk
     obtain⟨_,c2,_,_,_⟩:=zNo h hρ (ρ (S.root k)+1) k [] [] (by omega) hk2 (fun x hx=>by cases hx) (fun a ha=>by cases ha) List.nodup_nil
     exact ih c2 l (hx k hk) hc
  exact key n m hm a2 _ a2 a3
theorem Wf.zQc{S:St}(h:Wf S){n:Nat}(hn:n<S.length):(S.all n).Nodup:=by
 obtain⟨ρ,hρ⟩:=h.rk
 exact(zNo h hρ (ρ (S.root n)+1) n [] [] (by omega) hn (fun x hx=>by cases hx) (fun a ha=>by cases ha) List.nodup_nil).2.2.2.1
end
section
theorem St.zPu{S:St}{x:Nd}{i:Nat}:St.nd (S++ [x]) i=if i=S.length then x else S.nd i:=by
 by_cases h:i<S.length
 ·rw[St.zPv h,if_neg (by omega)]
 ·by_cases h2:i=S.length
  ·subst h2;rw[St.zPw,if_pos rfl]
  ·rw[St.zPx (by simp;omega),if_neg h2,St.zPx (by omega)]
theorem Wf.add{S:St}(h:Wf S){x:Nd}(hx:okNd x)(hl:x.link=none)(hk:∀k∈x.kids,k<S.length):Wf (S++ [x]):=by
 have h5:=h.five
 have lk:∀i j,St.link (S++ [x]) i=some j->S.link i=some j:=fun i j e=>by
  rw[St.link,St.zPu]at e
  split at e
  ·rw[hl]at e;cases e
  ·exact e
 have kd:∀i j,j∈St.kids (S++ [x]) i->(i=S.length/\j∈x.kids)\/j∈S.kids i:=fun i j e=>by
  rw[St.kids,St.zPu]at e
  split at e
  ·rename_i hi;exact .inl ⟨hi,e⟩
  ·exact .inr e
 refine⟨by simp;omega,fun i hi=> ?_,fun i hi hl2=> ?_,fun i j e=> ?_,fun i j e=> ?_,?_⟩
 ·rw[St.zPu,if_neg (by omega)];exact h.leaf i hi
 ·rw[St.zPu]
  split
  ·exact hx
  ·rename_i hne;simp at hl2;exact h.node i hi (by omega)
 ·have:=h.link_lt i j (lk i j e);simp;omega
 ·rcases kd i j e with ⟨_,e⟩|e
  ·have:=hk j e;simp;omega
  ·have:=h.kid_lt i j e;simp;omega
 ·obtain⟨ρ,hρ,hlt⟩:=h.rank
  refine⟨fun i=>if i=S.length then S.length else ρ i,fun i j e=> ?_,fun i j e=> ?_⟩
  ·have e':=lk i j e
   have h1:=h.zN5 e';have h2:=h.link_lt i j e'
   rw[if_neg (by omega),if_neg (by omega)];exact hρ.link i j e'
  ·rcases kd i j e with ⟨hi,e⟩|e
   ·have h2:=hk j e
    rw[if_pos hi,if_neg (by omega)];exact hlt j h2
   ·have h1:=h.zN4 e;have h2:=h.kid_lt i j e
    rw[if_neg (by omega),if_neg (by omega)];exact hρ.kid i j e
theorem Wf.zUF{S:St}(h:Wf S){x:Nd}(h':Wf (S++ [x]))(hl:x.link=none):∀n,n<S.length->St.root (S++ [x]) n=S.root n:=by
 refine h.zNS (p:=fun n=>n<S.length->St.root (S++ [x]) n=S.root n) (fun n hn hlt=> ?_) (fun n j hn ih hlt=> ?_)
 ·rw[zUO hn,zUO]
  rw[St.link,St.zPu,if_neg (by omega)];exact hn
 ·have hj:=h.link_lt n j hn
  rw[h.zUR hn,h'.zUR (n:=n) (j:=j),ih hj]
  rw[St.link,St.zPu,if_neg (by omega)];exact hn
theorem zUN{S:St}{x:Nd}(hl:x.link=none):St.root (S++ [x]) S.length=S.length:=by
 apply zUO
 rw[St.link,St.zPu,if_pos rfl];exact hl
inductive Rc (S:St):Nat->Nat->Prop
 |refl (n:Nat):Rc S n n
 |link (n j m:Nat):S.link n=some j->Rc S j m->Rc S n m
 |kid (n j m:Nat):j∈S.kids n->Rc S j m->Rc S n m
theorem zTO{S:St}{n n' m:Nat}(e:S.root n=S.root n')(hr:Rch S n m):Rch S n' m:=by
 cases hr with
 |here=>rw[e];exact .here n'
 |kid _ k _ hk hr=>exact .kid n' k m (e▸hk) hr
theorem Rc.rch{S:St}(h:Wf S){n m:Nat}(hr:Rc S n m)(hm:S.link m=none):Rch S n m:=by
 induction hr with
 |refl n=>have:=Rch.here (S:=S) n;rwa[zUO hm]at this
 |link n j m hl _ ih=>exact zTO (h.zUR hl).symm (ih hm)
 |kid n j m hk _ ih=>
  have hn:S.link n=none:=by
   cases e:S.link n with
   |none=>rfl
   |some i=>rw[(h.zNV e).2.2]at hk;cases hk
  exact .kid n j m (by rw[zUO hn];exact hk) (ih hm)
def St.lk(S:St)(r to:Nat):St:=S.set r {S.nd r with link:=some to}
theorem St.zPy{S:St}{r to i:Nat}(hr:r<S.length):(S.lk r to).nd i=if i=r then {S.nd r with link:=some to}else S.nd i:=by
 rw[St.lk,St.zP0]
 by_cases h:i=r
 ·simp[h,hr]
 ·simp[h]
theorem St.zNZ{S:St}{r to:Nat}:(S.lk r to).length=S.length:=by simp[St.lk]
theorem Wf.lk{S:St}(h:Wf S){r to:Nat}(hr:r<S.length)(ht:to<S.length)(hlr:S.link r=none)(hkr:S.kind r=6)(hlt:S.link to=none)(hn:r ∉ S.all to):Wf (S.lk r to):=by
 have h5:5<=r:=by
  refine Nat.le_of_not_lt fun hr5=> ?_
  have:=h.leaf r hr5
  rw[St.kind,this]at hkr;simp only at hkr;omega
 have hok:=h.node r h5 hr
 have hkids:S.kids r=[]:=by
  rcases hok with hk|hk
  ·exact hk.2
  ·rcases hk.2 with hk|hk
   ·rw[St.kind]at hkr;rcases hk.1 with e|e<;>(rw[e]at hkr;cases hkr)
   ·rw[St.kind,hk.1]at hkr;cases hkr
 have lk:∀i j,(S.lk r to).link i=some j->(i=r/\j=to)\/S.link i=some j:=fun i j e=>by
  rw[St.link,St.zPy hr]at e
  split at e
  ·rename_i hi;simp only[YAM]at e;exact .inl ⟨hi,e.symm⟩
  ·exact .inr e
 have kd:∀i,(S.lk r to).kids i=S.kids i:=fun i=>by
  rw[St.kids,St.zPy hr]
  split
  ·rename_i hi;subst hi;rfl
  ·rfl
 refine⟨by rw[St.zNZ];exact h.five,fun i hi=> ?_,fun i hi hl2=> ?_,fun i j e=> ?_,fun i j e=> ?_,?_⟩
 ·rw[St.zPy hr,if_neg (by omega)];exact h.leaf i hi
 ·rw[St.zPy hr]
  rw[St.zNZ]at hl2
  split
  ·exact .inl ⟨hkr,hkids⟩
  ·exact h.node i hi hl2
 ·rw[St.zNZ]
  rcases lk i j e with ⟨_,rfl⟩|e
  ·exact ht
  ·exact h.link_lt i j e
 ·rw[St.zNZ];rw[kd]at e;exact h.kid_lt i j e
 ·obtain⟨ρ,hρ⟩:=h.rk
  have hto:¬Rc S to r:=fun hc=>hn ((h.zPE ht).2 (hc.rch h hlr))
  classical
  refine⟨fun i=>if Rc S i r then ρ i+(ρ to+1)else ρ i,fun i j e=> ?_,fun i j e=> ?_⟩
  ·rcases lk i j e with ⟨rfl,rfl⟩|e
   ·rw[if_neg hto,if_pos (.refl _)];omega
   ·have:=hρ.link i j e
    by_cases hj:Rc S j r
    ·rw[if_pos hj,if_pos (.link i j r e hj)];omega
    ·rw[if_neg hj];split<;>omega
  ·rw[kd]at e
   have:=hρ.kid i j e
   by_cases hj:Rc S j r
   ·rw[if_pos hj,if_pos (.kid i j r e hj)];omega
   ·rw[if_neg hj];split<;>omega
theorem Wf.zUL{S:St}(h:Wf S){r to:Nat}(h':Wf (S.lk r to))(hr:r<S.length)(hlr:S.link r=none)(hlt:S.link to=none)(hne:to≠r):∀n,(S.lk r to).root n=if S.root n=r then to else S.root n:=by
 have ht:(S.lk r to).root to=to:=by
  apply zUO
  rw[St.link,St.zPy hr,if_neg hne];exact hlt
 refine h.zNS (fun n hn=> ?_) (fun n j hn ih=> ?_)
 ·rw[zUO hn]
  by_cases e:n=r
  ·subst e
   rw[if_pos rfl,h'.zUR (n:=n) (j:=to),ht]
   rw[St.link,St.zPy hr,if_pos rfl]
  ·rw[if_neg e,zUO]
   rw[St.link,St.zPy hr,if_neg e];exact hn
 ·have e:n≠r:=by rintro rfl;rw[hlr]at hn;cases hn
  rw[h.zUR hn,h'.zUR (n:=n) (j:=j),ih]
  rw[St.link,St.zPy hr,if_neg e];exact hn
def St.lv(S:St)(i:Nat)(n:Int):St:=S.set i {S.nd i with level:=n}
theorem St.zPz{S:St}{i j:Nat}{n:Int}(hi:i<S.length):(S.lv i n).nd j=if j=i then {S.nd i with level:=n}else S.nd j:=by
 rw[St.lv,St.zP0]
 by_cases h:j=i
 ·simp[h,hi]
 ·simp[h]
theorem St.zN7{S:St}{i:Nat}{n:Int}:(S.lv i n).length=S.length:=by simp[St.lv]
structure Lv (S S':St):Prop where
 len:S'.length=S.length
 kind:∀i,S'.kind i=S.kind i
 link:∀i,S'.link i=S.link i
 kids:∀i,S'.kids i=S.kids i
theorem Lv.refl(S:St):Lv S S:=⟨rfl,fun _=>rfl,fun _=>rfl,fun _=>rfl⟩
theorem Lv.trans{S S' S'':St}(h:Lv S S')(h':Lv S' S''):Lv S S'':=
 ⟨h'.len.trans h.len,fun i=>(h'.kind i).trans (h.kind i),fun i=>(h'.link i).trans (h.link i),fun i=>(h'.kids i).trans (h.kids i)⟩
theorem Lv.lv{S:St}{i:Nat}{n:Int}(hi:i<S.length):Lv S (S.lv i n):=by
 refine⟨St.zN7,fun j=> ?_,fun j=> ?_,fun j=> ?_⟩<;>(simp only[St.kind,St.link,St.kids];rw[St.zPz hi];split<;>simp_all)
theorem Lv.root{S S':St}(h:Lv S S')(n:Nat):S'.root n=S.root n:=by
 have:∀f n,zUD S' f n=zUD S f n:=by
  intro f
  induction f with
  |zero=>intro n;rfl
  |succ f ih=>intro n;simp only[zUD,h.link];cases S.link n<;>simp[ih]
 unfold St.root;rw[h.len];exact this _ n
theorem Lv.look{S S':St}(h:Lv S S')(n:Nat)(l:List Nat):S'.look n l=S.look n l:=by
 have:∀f n l,zNe S' f n l=zNe S f n l:=by
  intro f
  induction f with
  |zero=>intro n l;rfl
  |succ f ih=>
   intro n l
   simp only[zNe,h.root,h.kids]
   split
   ·rfl
   ·exact zHu _ fun k _ b=>ih k b
 unfold St.look;rw[h.len];exact this _ n l
theorem Lv.tree{S S':St}(h:Lv S S')(n:Nat):S'.tree n=S.tree n:=by
 have:∀f n,zYa S' f n=zYa S f n:=by
  intro f
  induction f with
  |zero=>intro n;rfl
  |succ f ih=>
   intro n
   simp only[zYa,h.root,h.kids,h.kind]
   congr 1
   exact List.map_congr_left fun k _=>ih k
 unfold St.tree;rw[h.len];exact this _ n
theorem Wf.lv{S:St}(h:Wf S){i:Nat}{n:Int}(h5:5<=i)(hi:i<S.length):Wf (S.lv i n):=by
 have hl:=Lv.lv (S:=S) (n:=n) hi
 refine⟨by rw[St.zN7];exact h.five,fun j hj=> ?_,fun j hj hl2=> ?_,fun a b e=> ?_,fun a b e=> ?_,?_⟩
 ·rw[St.zPz hi,if_neg (by omega)];exact h.leaf j hj
 ·rw[St.zN7]at hl2
  rw[St.zPz hi]
  split
  ·exact h.node i h5 hi
  ·exact h.node j hj hl2
 ·rw[hl.link]at e;rw[St.zN7];exact h.link_lt a b e
 ·rw[hl.kids]at e;rw[St.zN7];exact h.kid_lt a b e
 ·obtain⟨ρ,hρ⟩:=h.rk
  exact⟨ρ,fun a b e=>hρ.link a b (by rw[hl.link]at e;exact e),fun a b e=>hρ.kid a b (by rw[hl.kids]at e;exact e)⟩
end
end Go.Proofs.Ytdngjamjccjlmaa
