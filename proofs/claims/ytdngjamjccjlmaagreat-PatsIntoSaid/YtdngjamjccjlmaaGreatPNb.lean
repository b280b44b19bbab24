/- Lemmas: two nodes that are made to agree, second part. No condition. -/
import Derived.Test.YtdngjamjccjlmaaGreatPNa
import Derived.Test.YtdngjamjccjlmaaGreatPSb
import Derived.Test.YtdngjamjccjlmaaGreatPCa
set_option linter.unusedSimpArgs false
set_option linter.unusedVariables false
namespace Go.Proofs.YtdngjamjccjlmaaGreat
open Go Go.Ab
section
def okB(σ:Sto)(n:Nat):Prop:=σ.L.length<=700000/\σ.rd<=80000000000/\0<=σ.cnt/\σ.cnt<=800000/\n<=1000000000000
def RunB(lim:Int):Nat->List (Nat×Nat)->Sto->(Int×Int×Int×Sto)->Prop
 |_,[],σ,res=>res=(0,0,0,σ)
 |0,_::_,_,_=>False
 |n+1,p::stk,σ,res=>okB σ (stk.length+1)/\match zXk lim p stk σ with
  | .go stk' σ'=>RunB lim n stk' σ' res
  | .stop l r e σ'=>res=(l,r,e,σ')
def Lt2(n:Nat)(stk:List (Nat×Nat)):Prop:=∀q∈stk,q.1<n/\q.2<n
theorem zbz{l l':List Nat}{n:Nat}(h:∀k∈l,k<n)(h':∀k∈l',k<n):Lt2 n (l.zip l'):=fun q hq=>by
 obtain⟨a,b⟩:=q
 have:=List.of_mem_zip hq
 exact⟨h _ this.1,h' _ this.2⟩
theorem Lt2.app{n:Nat}{a b:List (Nat×Nat)}(h:Lt2 n a)(h':Lt2 n b):Lt2 n (a++b):=fun q hq=>(List.mem_append.1 hq).elim (h q) (h' q)
theorem Lt2.mono{n m:Nat}{a:List (Nat×Nat)}(h:Lt2 n a)(hm:n<=m):Lt2 m a:=fun q hq=>⟨by have:=(h q hq).1;omega,by have:=(h q hq).2;omega⟩
theorem GrowS.refl{σ:Sto}(h:GoodS σ):GrowS σ σ 3 4 3:=⟨h,YAV _,by omega,YAQ _,by omega,YAQ _,by omega⟩
theorem Wf.zMe{L:Mem}(h:Wf L.st)(n:Nat):∀k∈L.st.kids n,k<L.length:=fun k hk=>by
 have:=h.kid_lt n k hk;rwa[Mem.zXR]at this
def zBC(σ:Sto):Stp->Prop
 | .go stk' σ'=>GrowS σ σ' 3 4 3/\Lt2 σ'.L.length stk'
 | .stop _ _ _ σ'=>GrowS σ σ' 3 4 3
theorem zDF{lim:Int}{σ:Sto}(h:GoodS σ){x y:Nat}(hx:x<σ.L.length)(hy:y<σ.L.length)(ex:σ.L.st.root x=x)(ey:σ.L.st.root y=y)(h6:σ.L.st.kind x=6){stk:List (Nat×Nat)}(hs:Lt2 σ.L.length stk)(g:Nat->St->List (Nat×Nat))(hg:∀m (L:Mem),Wf L.st->Lt2 L.length (g m L.st)):
 zBC σ (match σ.become lim x y with
 |(m,e,σ')=>if e≠0 then .stop 0 0 e σ' else match m with
  |none=> .go stk σ'
  |some m=> .go (g m σ'.L.st++stk) σ'):=by
 have hG:=Sto.zDH h (lim:=lim) hx hy ex ey h6
 generalize σ.become lim x y=q at*
 obtain⟨m,e,σ'⟩:=q
 simp only at hG⊢
 split
 ·exact hG
 ·cases m with
  |none=>exact⟨hG,hs.mono hG.len1⟩
  |some m=>exact⟨hG,(hg m _ hG.good.si.wf).app (hs.mono hG.len1)⟩
theorem zXm{lim:Int}{σ:Sto}(h:GoodS σ){p:Nat×Nat}(hp:p.1<σ.L.length/\p.2<σ.L.length){stk:List (Nat×Nat)}(hs:Lt2 σ.L.length stk):zBC σ (zXk lim p stk σ):=by
 have hx:σ.L.st.root p.1<σ.L.length:=by have:=h.si.wf.root_lt p.1 (by rw[Mem.zXR];exact hp.1);rwa[Mem.zXR]at this
 have hy:σ.L.st.root p.2<σ.L.length:=by have:=h.si.wf.root_lt p.2 (by rw[Mem.zXR];exact hp.2);rwa[Mem.zXR]at this
 have ex:=h.si.wf.zUQ p.1
 have ey:=h.si.wf.zUQ p.2
 unfold zXk
 simp only
 split
 ·exact⟨GrowS.refl h,hs⟩
 split
 ·have:=(Sto.zNx h (lv:=0) hy (YAQ _)).mono (a':=3) (b':=4) (c':=3) (by omega) (by omega) (by omega)
  exact⟨this,hs.mono this.len1⟩
 split
 ·have:=(Sto.zNx h (lv:=0) hx (YAQ _)).mono (a':=3) (b':=4) (c':=3) (by omega) (by omega) (by omega)
  exact⟨this,hs.mono this.len1⟩
 split
 ·rename_i h6
  exact zDF h hx hy ex ey h6 hs (fun m S=>(S.kids m).zip (S.kids (σ.L.st.root p.2))) fun m L hw=>zbz (hw.zMe _) (hw.zMe _)
 split
 ·rename_i h6
  exact zDF h hy hx ey ex h6 hs (fun m S=>(S.kids (σ.L.st.root p.1)).zip (S.kids m)) fun m L hw=>zbz (hw.zMe _) (hw.zMe _)
 split
 ·exact GrowS.refl h
 ·exact⟨GrowS.refl h,(zbz (h.si.wf.zMe _) (h.si.wf.zMe _)).app hs⟩
theorem Wf.zMk{S:St}(h:Wf S){x:Nat}(hx:x<S.length):0<S.kind x:=by
 rcases h.zVs hx with hk|⟨_,hk,_⟩|⟨hk,_⟩|⟨hk,_⟩<;>omega
theorem Wf.zMh{S:St}(h:Wf S){x y:Nat}(hx:x<S.length)(hy:y<S.length)(hne:x≠y)(hk:S.kind x=S.kind y)(h6:S.kind x≠6):(S.kids x).length=(S.kids y).length/\1<=(S.kids x).length/\(S.kids x).length<=2:=by
 rcases h.zVs hx with a|⟨a1,a2,_⟩|⟨a1,a,ea⟩|⟨a1,a,b,ea⟩
 ·exact absurd a.1 h6
 ·rcases h.zVs hy with b|⟨b1,b2,_⟩|⟨b1,_⟩|⟨b1,_⟩<;>omega
 ·rcases h.zVs hy with b|⟨b1,b2,_⟩|⟨b1,b,eb⟩|⟨b1,_⟩
  ·omega
  ·omega
  ·rw[ea,eb];simp
  ·omega
 ·rcases h.zVs hy with b|⟨b1,b2,_⟩|⟨b1,b,eb⟩|⟨b1,c,d,eb⟩
  ·omega
  ·omega
  ·omega
  ·rw[ea,eb];simp
theorem zYu{l l':List Nat}(h:l.length=l'.length)(h1:1<=l.length)(h2:l.length<=2):(∃a c,l=[a]/\l'=[c])\/∃a b c d,l=[a,b]/\l'=[c,d]:=by
 rcases l with _|⟨a,_|⟨b,_|⟨x,l⟩⟩⟩
 ·simp at h1
 ·rcases l' with _|⟨c,_|⟨d,l'⟩⟩
  ·simp at h
  ·exact .inl ⟨a,c,rfl,rfl⟩
  ·simp at h
 ·rcases l' with _|⟨c,_|⟨d,_|⟨y,l'⟩⟩⟩
  ·simp at h
  ·simp at h
  ·exact .inr ⟨a,b,c,d,rfl,rfl⟩
  ·simp at h
 ·simp at h2
theorem zU1{lim:Int}:∀(m:Nat) (stk:List (Nat×Nat)) (σ:Sto) (res:Int×Int×Int×Sto),GoodS σ->Lt2 σ.L.length stk->RunB lim m stk σ res->GoodS res.2.2.2/\σ.L.length<=res.2.2.2.L.length:=by
 intro m
 induction m with
 |zero=>
  intro stk σ res hg hlt hr
  cases stk with
  | nil => have e:res=(0,0,0,σ):=hr
           subst e;exact⟨hg,YAV _⟩
  |cons p stk=>exact hr.elim
 |succ m ih=>
  intro stk σ res hg hlt hr
  cases stk with
  | nil => have e:res=(0,0,0,σ):=hr
           subst e;exact⟨hg,YAV _⟩
  |cons p stk=>
   obtain⟨_,hr⟩:=hr
   have hkeep:=zXm (lim:=lim) hg (hlt p YAU) fun q hq=>hlt q (YAT _ hq)
   generalize zXk lim p stk σ=st at hkeep hr
   cases st with
   |go stk' σ'=>
    obtain⟨h1,h2⟩:=ih stk' σ' res hkeep.1.good hkeep.2 hr
    have:=hkeep.1.len1
    exact⟨h1,by omega⟩
   |stop l r e σ'=>
    have e:res=(l,r,e,σ'):=hr
    rw[e];exact⟨GrowS.good hkeep,GrowS.len1 hkeep⟩
def okBc(σ:Sto)(n:Nat):Bool:=decide (σ.L.length<=700000)&&decide (σ.rd<=80000000000)&&decide (0<=σ.cnt)&&decide (σ.cnt<=800000)&&decide (n<=1000000000000)
def runC(lim:Int):Nat->List (Nat×Nat)->Sto->Option (Int×Int×Int×Sto)
 |_,[],σ=>some (0,0,0,σ)
 |0,_::_,_=>none
 |n+1,p::stk,σ=>if okBc σ (stk.length+1)then(match zXk lim p stk σ with
  | .go stk' σ'=>runC lim n stk' σ'
  | .stop l r e σ'=>some (l,r,e,σ'))else none
theorem zUj{lim:Int}:∀(n:Nat) (stk:List (Nat×Nat)) (σ:Sto) (res:Int×Int×Int×Sto),runC lim n stk σ=some res->RunB lim n stk σ res:=by
 intro n
 induction n with
 |zero=>
  intro stk σ res h
  cases stk with
  |nil=>simp only[runC,YAM]at h;exact h.symm
  |cons p stk=>cases h
 |succ n ih=>
  intro stk σ res h
  cases stk with
  |nil=>simp only[runC,YAM]at h;exact h.symm
  |cons p stk=>
   rw[runC]at h
   split at h
   ·rename_i hok
    simp only[okBc,YAA,YAa]at hok
    refine⟨⟨hok.1.1.1.1,hok.1.1.1.2,hok.1.1.2,hok.1.2,hok.2⟩,?_⟩
    generalize zXk lim p stk σ=st at h⊢
    cases st with
    |go stk' σ'=>exact ih _ _ _ h
    |stop l r e σ'=>simp only[YAM]at h;exact h.symm
   ·cases h
end
section
def St.zQS(S:St)(r:Nat)(f:Nat->T):T:=match S.kids r with
 | [i]=> .list (f i)
 | [i,j]=>if S.kind r=7 then .pair (f i) (f j)else .fn (f i) (f j)
 |_=>if S.kind r=6 then .var r else if h:r<4 then .base ⟨r,h⟩else .dyn
def tTF(S:St):Nat->Nat->T
 |0,_=> .dyn
 |f+1,n=>S.zQS (S.root n) (tTF S f)
def St.tT(S:St)(n:Nat):T:=tTF S S.length n
theorem zQT{S:St}{r:Nat}{f g:Nat->T}(h:∀k∈S.kids r,f k=g k):S.zQS r f=S.zQS r g:=by
 unfold St.zQS
 split
 ·rename_i i e;rw[h i (by rw[e];simp)]
 ·rename_i i j e;rw[h i (by rw[e];simp),h j (by rw[e];simp)]
 ·rfl
theorem zX6{S:St}(h:Wf S){ρ:Nat->Nat}(hρ:Rk S ρ):∀(f f' n:Nat),ρ (S.root n)<f->ρ (S.root n)<f'->tTF S f n=tTF S f' n:=by
 intro f
 induction f with
 |zero=>intro f' n hf;omega
 |succ f ih=>
  intro f' n hf hf'
  cases f' with
  |zero=>omega
  |succ f'=>
   simp only[tTF]
   exact zQT fun k hk=>ih f' k (by have:=h.zMc hρ hk;omega) (by have:=h.zMc hρ hk;omega)
theorem Wf.zX8{S:St}(h:Wf S){n:Nat}(hn:n<S.length):S.tT n=S.zQS (S.root n) S.tT:=by
 obtain⟨ρ,hρ,hlt⟩:=h.rank
 have hr:=hlt _ (h.root_lt n hn)
 obtain⟨m,hm⟩:=Nat.exists_eq_succ_of_ne_zero (show S.length≠0 by omega)
 have e:S.tT n=tTF S (m+1) n:=by rw[St.tT,hm]
 rw[e,tTF]
 refine zQT fun k hk=> ?_
 have:=h.zMc hρ hk
 exact zX6 h hρ _ _ _ (by omega) (by omega)
inductive ShT (S:St) (r:Nat):T->Prop
 |base (h:r<4):S.kind r=r+1->S.kids r=[]->ShT S r (.base ⟨r,h⟩)
 |dyn:r=4->S.kind r=5->S.kids r=[]->ShT S r .dyn
 |var:5<=r->S.kind r=6->S.kids r=[]->ShT S r (.var r)
 |pair (i j:Nat):5<=r->S.kind r=7->S.kids r=[i,j]->i<S.length->j<S.length->ShT S r (.pair (S.tT i) (S.tT j))
 |fn (i j:Nat):5<=r->S.kind r=9->S.kids r=[i,j]->i<S.length->j<S.length->ShT S r (.fn (S.tT i) (S.tT j))
 |list (i:Nat):5<=r->S.kind r=8->S.kids r=[i]->i<S.length->ShT S r (.list (S.tT i))
theorem Wf.zHq{S:St}(h:Wf S){r i:Nat}(hi:i∈S.kids r):5<=r:=Nat.le_of_not_lt fun hr=>by
 rw[St.kids,h.leaf r hr]at hi;cases hi
theorem Wf.shT{S:St}(h:Wf S){n:Nat}(hn:n<S.length):ShT S (S.root n) (S.tT n):=by
 have e:=h.zX8 hn
 rw[e]
 rcases h.shape (h.root_lt n hn) (h.zUK n)with ⟨h5,hk,hc⟩|⟨h5,hk,hc⟩|⟨i,j,hk,hc⟩|⟨i,hk,hc⟩
 ·by_cases h4:S.root n<4
  ·have:S.zQS (S.root n) S.tT= .base ⟨S.root n,h4⟩:=by
    unfold St.zQS;rw[hc];simp only;rw[if_neg (by omega),dif_pos h4]
   rw[this];exact .base h4 hk hc
  ·have:S.zQS (S.root n) S.tT= .dyn:=by
    unfold St.zQS;rw[hc];simp only;rw[if_neg (by omega),dif_neg h4]
   rw[this];exact .dyn (by omega) (by omega) hc
 ·have:S.zQS (S.root n) S.tT= .var (S.root n):=by
   unfold St.zQS;rw[hc];simp only;rw[if_pos hk]
  rw[this];exact .var h5 hk hc
 ·have h5:5<=S.root n:=h.zHq (i:=i) (by rw[hc];simp)
  have hi:i<S.length:=h.kid_lt (S.root n) i (by rw[hc];simp)
  have hj:j<S.length:=h.kid_lt (S.root n) j (by rw[hc];simp)
  rcases hk with hk|hk
  ·have:S.zQS (S.root n) S.tT= .pair (S.tT i) (S.tT j):=by
    unfold St.zQS;rw[hc];simp only;rw[if_pos hk]
   rw[this];exact .pair i j h5 hk hc hi hj
  ·have:S.zQS (S.root n) S.tT= .fn (S.tT i) (S.tT j):=by
    unfold St.zQS;rw[hc];simp only;rw[if_neg (by omega)]
   rw[this];exact .fn i j h5 hk hc hi hj
 ·have h5:5<=S.root n:=h.zHq (i:=i) (by rw[hc];simp)
  have hi:i<S.length:=h.kid_lt (S.root n) i (by rw[hc];simp)
  have:S.zQS (S.root n) S.tT= .list (S.tT i):=by
   unfold St.zQS;rw[hc]
  rw[this];exact .list i h5 hk hc hi
theorem Wf.zYE{S:St}(h:Wf S){a b:Nat}(ha:a<S.length)(hb:b<S.length)(e:S.root a=S.root b):S.tT a=S.tT b:=by
 rw[h.zX8 ha,h.zX8 hb,e]
theorem Wf.zYI{S:St}(h:Wf S):∀n,n<S.length->S.tree n=(S.tT n).ty:=by
 refine h.ind (p:=fun n=>n<S.length->S.tree n=(S.tT n).ty) fun n ih hn=> ?_
 have e:=h.zYe hn
 have sh:=h.shT hn
 generalize S.tT n=x at sh⊢
 cases sh with
 |base h4 hk hc=>rw[e,hk,hc,if_neg (by omega)];rfl
 |dyn h4 hk hc=>rw[e,hk,hc,if_neg (by omega)];rfl
 |var h5 hk hc=>rw[e,hk,hc,if_pos rfl];rfl
 |pair i j h5 hk hc hi hj=>
  rw[e,hk,hc,if_neg (by omega)]
  simp only[List.map_cons,List.map_nil,T.ty,ih i (by rw[hc];simp) hi,ih j (by rw[hc];simp) hj]
 |fn i j h5 hk hc hi hj=>
  rw[e,hk,hc,if_neg (by omega)]
  simp only[List.map_cons,List.map_nil,T.ty,ih i (by rw[hc];simp) hi,ih j (by rw[hc];simp) hj]
 |list i h5 hk hc hi=>
  rw[e,hk,hc,if_neg (by omega)]
  simp only[List.map_cons,List.map_nil,T.ty,ih i (by rw[hc];simp) hi]
theorem Wf.zK8{S:St}(h:Wf S):∀n,n<S.length->∀m:Nat,(S.tT n).has m=true ↔ Rch S n m/\S.kind m=6:=by
 refine h.ind (p:=fun n=>n<S.length->∀m:Nat,(S.tT n).has m=true ↔ Rch S n m/\S.kind m=6) fun n ih hn m=> ?_
 have sh:=h.shT hn
 rw[zTP]
 generalize S.tT n=x at sh⊢
 cases sh with
 |base h4 hk hc=>rw[hc];simp only[T.has,YAB,false_iff];rintro⟨rfl|⟨k,hk,_⟩,h6⟩;omega;cases hk
 |dyn h4 hk hc=>rw[hc];simp only[T.has,YAB,false_iff];rintro⟨rfl|⟨k,hk,_⟩,h6⟩;omega;cases hk
 |var h5 hk hc=>
  rw[hc];simp only[T.has,YAa]
  constructor
  ·intro e;have e:m=S.root n:=by omega
   exact⟨.inl e,e▸hk⟩
  ·rintro⟨rfl|⟨k,hk,_⟩,h6⟩
   ·rfl
   ·cases hk
 |pair i j h5 hk hc hi hj=>
  have hi':=ih i (by rw[hc];simp) hi m
  have hj':=ih j (by rw[hc];simp) hj m
  rw[hc];simp only[T.has,YAP,hi',hj',List.mem_cons,List.not_mem_nil,or_false,exists_eq_or_imp,exists_eq_left]
  constructor
  ·rintro(⟨a,b⟩|⟨a,b⟩)
   ·exact⟨.inr (.inl a),b⟩
   ·exact⟨.inr (.inr a),b⟩
  ·rintro⟨rfl|a|a,b⟩
   ·omega
   ·exact .inl ⟨a,b⟩
   ·exact .inr ⟨a,b⟩
 |fn i j h5 hk hc hi hj=>
  have hi':=ih i (by rw[hc];simp) hi m
  have hj':=ih j (by rw[hc];simp) hj m
  rw[hc];simp only[T.has,YAP,hi',hj',List.mem_cons,List.not_mem_nil,or_false,exists_eq_or_imp,exists_eq_left]
  constructor
  ·rintro(⟨a,b⟩|⟨a,b⟩)
   ·exact⟨.inr (.inl a),b⟩
   ·exact⟨.inr (.inr a),b⟩
  ·rintro⟨rfl|a|a,b⟩
   ·omega
   ·exact .inl ⟨a,b⟩
   ·exact .inr ⟨a,b⟩
 |list i h5 hk hc hi=>
  have hi':=ih i (by rw[hc];simp) hi m
  rw[hc];simp only[T.has,hi',List.mem_cons,List.not_mem_nil,or_false,exists_eq_left]
  constructor
  ·rintro⟨a,b⟩;exact⟨.inr a,b⟩
  ·rintro⟨rfl|a,b⟩
   ·omega
   ·exact⟨a,b⟩
theorem Wf.zK9{S:St}(h:Wf S):∀n,n<S.length->∀z:Int,(S.tT n).has z=true->∃m:Nat,z=m/\m<S.length/\S.kind m=6/\S.root m=m:=by
 refine h.ind (p:=fun n=>n<S.length->∀z:Int,(S.tT n).has z=true->∃m:Nat,z=m/\m<S.length/\S.kind m=6/\S.root m=m) fun n ih hn z hz=> ?_
 have sh:=h.shT hn
 generalize S.tT n=x at sh hz
 cases sh with
 |base h4 hk hc=>simp[T.has]at hz
 |dyn h4 hk hc=>simp[T.has]at hz
 |var h5 hk hc=>simp only[T.has,YAa]at hz;exact⟨_,hz.symm,h.root_lt n hn,hk,h.zUQ n⟩
 |pair i j h5 hk hc hi hj=>
  simp only[T.has,YAP]at hz
  exact hz.elim (ih i (by rw[hc];simp) hi z) (ih j (by rw[hc];simp) hj z)
 |fn i j h5 hk hc hi hj=>
  simp only[T.has,YAP]at hz
  exact hz.elim (ih i (by rw[hc];simp) hi z) (ih j (by rw[hc];simp) hj z)
 |list i h5 hk hc hi=>exact ih i (by rw[hc];simp) hi z (by simpa [T.has]using hz)
theorem Wf.zXc{S:St}(h:Wf S):∀n,n<S.length->((S.tT n).static=false ↔ Rch S n 4):=by
 refine h.ind (p:=fun n=>n<S.length->((S.tT n).static=false ↔ Rch S n 4)) fun n ih hn=> ?_
 have sh:=h.shT hn
 rw[zTP]
 generalize S.tT n=x at sh⊢
 cases sh with
 |base h4 hk hc=>rw[hc];simp only[T.static,Bool.true_eq_false,false_iff];rintro(e|⟨k,hk,_⟩);omega;cases hk
 |dyn h4 hk hc=>simp only[T.static,true_iff];exact .inl h4.symm
 |var h5 hk hc=>rw[hc];simp only[T.static,Bool.true_eq_false,false_iff];rintro(e|⟨k,hk,_⟩);omega;cases hk
 |pair i j h5 hk hc hi hj=>
  have hi':=ih i (by rw[hc];simp) hi
  have hj':=ih j (by rw[hc];simp) hj
  rw[hc];simp only[T.static,Bool.and_eq_false_iff,hi',hj',List.mem_cons,List.not_mem_nil,or_false,exists_eq_or_imp,exists_eq_left]
  constructor
  ·exact .inr
  ·rintro(e|e)
   ·omega
   ·exact e
 |fn i j h5 hk hc hi hj=>
  have hi':=ih i (by rw[hc];simp) hi
  have hj':=ih j (by rw[hc];simp) hj
  rw[hc];simp only[T.static,Bool.and_eq_false_iff,hi',hj',List.mem_cons,List.not_mem_nil,or_false,exists_eq_or_imp,exists_eq_left]
  constructor
  ·exact .inr
  ·rintro(e|e)
   ·omega
   ·exact e
 |list i h5 hk hc hi=>
  have hi':=ih i (by rw[hc];simp) hi
  rw[hc];simp only[T.static,hi',List.mem_cons,List.not_mem_nil,or_false,exists_eq_left]
  constructor
  ·exact .inr
  ·rintro(e|e)
   ·omega
   ·exact e
theorem Wf.all4{S:St}(h:Wf S){n:Nat}(hn:n<S.length):4 ∉ S.all n ↔ (S.tT n).static=true:=by
 rw[h.zPE hn,<-h.zXc n hn];simp
theorem Wf.allx{S:St}(h:Wf S){n x:Nat}(hn:n<S.length)(h6:S.kind x=6):x∈S.all n ↔ (S.tT n).has x=true:=by
 rw[h.zPE hn,h.zK8 n hn];simp[h6]
theorem Wf.zFe{S:St}(h:Wf S):∀n,n<S.length->(S.tT n).deep<=S.length:=by
 obtain⟨ρ,hρ,hlt⟩:=h.rank
 have key:∀m n,n<S.length->ρ (S.root n)<m->(S.tT n).deep<=m:=by
  intro m
  induction m with
  |zero=>intro n _ hm;omega
  |succ m ih=>
   intro n hn hm
   have sh:=h.shT hn
   generalize S.tT n=x at sh⊢
   cases sh with
   |base h4 hk hc=>simp[T.deep]
   |dyn h4 hk hc=>simp[T.deep]
   |var h5 hk hc=>simp[T.deep]
   |pair i j h5 hk hc hi hj=>
    have a:=ih i hi (by have:=h.zMc hρ (n:=n) (k:=i) (by rw[hc];simp);omega)
    have b:=ih j hj (by have:=h.zMc hρ (n:=n) (k:=j) (by rw[hc];simp);omega)
    simp only[T.deep];omega
   |fn i j h5 hk hc hi hj=>
    have a:=ih i hi (by have:=h.zMc hρ (n:=n) (k:=i) (by rw[hc];simp);omega)
    have b:=ih j hj (by have:=h.zMc hρ (n:=n) (k:=j) (by rw[hc];simp);omega)
    simp only[T.deep];omega
   |list i h5 hk hc hi=>
    have a:=ih i hi (by have:=h.zMc hρ (n:=n) (k:=i) (by rw[hc];simp);omega)
    simp only[T.deep];omega
 exact fun n hn=>key _ n hn (hlt _ (h.root_lt n hn))
structure Ext (S S':St):Prop where
 wf:Wf S'
 len:S.length<=S'.length
 kind:∀i,i<S.length->S'.kind i=S.kind i
 kids:∀i,i<S.length->S'.kids i=S.kids i
 link:∀i j,S.link i=some j->S'.link i=some j
theorem Ext.refl{S:St}(h:Wf S):Ext S S:=⟨h,YAV _,fun _ _=>rfl,fun _ _=>rfl,fun _ _ e=>e⟩
theorem Ext.trans{S S' S'':St}(h:Ext S S')(h':Ext S' S''):Ext S S'':=
 ⟨h'.wf,Nat.le_trans h.len h'.len,fun i hi=>by rw[h'.kind i (YAW hi h.len),h.kind i hi],fun i hi=>by rw[h'.kids i (YAW hi h.len),h.kids i hi],fun i j e=>h'.link i j (h.link i j e)⟩
theorem Ext.lv{S S':St}(hw:Wf S')(h:Lv S S'):Ext S S':=⟨hw,Nat.le_of_eq h.len.symm,fun i _=>h.kind i,fun i _=>h.kids i,fun i j e=>by rw[h.link];exact e⟩
theorem Ext.add{S:St}{x:Nd}(hw:Wf (S++ [x])):Ext S (S++ [x]):=by
 refine⟨hw,by simp,fun i hi=> ?_,fun i hi=> ?_,fun i j e=> ?_⟩
 ·rw[St.kind,St.zPv hi];rfl
 ·rw[St.kids,St.zPv hi];rfl
 ·have hi:i<S.length:=Nat.lt_of_not_le fun hi=>by rw[St.link,St.zPx hi]at e;cases e
  rw[St.link,St.zPv hi];exact e
theorem Ext.lk{S:St}{r to:Nat}(hw:Wf (S.lk r to))(hr:r<S.length)(hl:S.link r=none):Ext S (S.lk r to):=by
 refine⟨hw,Nat.le_of_eq St.zNZ.symm,fun i hi=> ?_,fun i hi=> ?_,fun i j e=> ?_⟩
 ·rw[St.kind,St.zPy hr];split
  ·rename_i e;subst e;rfl
  ·rfl
 ·rw[St.kids,St.zPy hr];split
  ·rename_i e;subst e;rfl
  ·rfl
 ·have hne:i≠r:=by rintro rfl;rw[hl]at e;cases e
  rw[St.link,St.zPy hr,if_neg hne];exact e
theorem Ext.root{S S':St}(hw:Wf S)(h:Ext S S'):∀n,S'.root n=S'.root (S.root n):=by
 refine hw.zNS (fun n hn=>by rw[zUO hn]) fun n j hn ih=> ?_
 rw[hw.zUR hn,h.wf.zUR (h.link n j hn)];exact ih
theorem Ext.zUG{S S':St}(hw:Wf S)(h:Ext S S'){r:Nat}(hr:r<S.length)(h6:S.kind r≠6):S'.root r=r:=by
 apply zUO
 cases e:S'.link r with
 |none=>rfl
 |some j=>exact absurd (h.wf.zNV e).2.1 (by rw[h.kind r hr];exact h6)
theorem Ext.tT{S S':St}(hw:Wf S)(h:Ext S S'):∀n,n<S.length->S'.tT n=putS (fun v=>S'.tT v.toNat) (S.tT n):=by
 refine hw.ind (p:=fun n=>n<S.length->S'.tT n=putS (fun v=>S'.tT v.toNat) (S.tT n)) fun n ih hn=> ?_
 have hr:=hw.root_lt n hn
 have hle:=h.len
 have e0:S'.tT n=S'.tT (S.root n):=h.wf.zYE (by omega) (by omega) (h.root hw n)
 have sh:=hw.shT hn
 rw[e0]
 generalize hx:S.tT n=x at sh⊢
 cases sh with
 |var h5 hk hc=>simp only[putS,Int.toNat_natCast]
 |base h4 hk hc=>
  have er:=h.zUG hw hr (by omega)
  have e1:=h.kids _ hr
  have e2:=h.kind _ hr
  rw[h.wf.zX8 (by omega),er,St.zQS,e1,hc]
  simp only[putS]
  rw[if_neg (by omega),dif_pos h4]
 |dyn h4 hk hc=>
  have er:=h.zUG hw hr (by omega)
  have e1:=h.kids _ hr
  have e2:=h.kind _ hr
  rw[h.wf.zX8 (by omega),er,St.zQS,e1,hc]
  simp only[putS]
  rw[if_neg (by omega),dif_neg (by omega)]
 |pair i j h5 hk hc hi hj=>
  have er:=h.zUG hw hr (by omega)
  have e1:=h.kids _ hr
  have e2:=h.kind _ hr
  rw[h.wf.zX8 (by omega),er,St.zQS,e1,hc]
  simp only[putS]
  rw[if_pos (by omega),ih i (by rw[hc];simp) hi,ih j (by rw[hc];simp) hj]
 |fn i j h5 hk hc hi hj=>
  have er:=h.zUG hw hr (by omega)
  have e1:=h.kids _ hr
  have e2:=h.kind _ hr
  rw[h.wf.zX8 (by omega),er,St.zQS,e1,hc]
  simp only[putS]
  rw[if_neg (by omega),ih i (by rw[hc];simp) hi,ih j (by rw[hc];simp) hj]
 |list i h5 hk hc hi=>
  have er:=h.zUG hw hr (by omega)
  have e1:=h.kids _ hr
  have e2:=h.kind _ hr
  rw[h.wf.zX8 (by omega),er,St.zQS,e1,hc]
  simp only[putS]
  rw[ih i (by rw[hc];simp) hi]
theorem Lv.tT{S S':St}(h:Lv S S')(n:Nat):S'.tT n=S.tT n:=by
 have:∀f n,tTF S' f n=tTF S f n:=by
  intro f
  induction f with
  |zero=>intro n;rfl
  |succ f ih=>
   intro n
   simp only[tTF,h.root]
   unfold St.zQS
   rw[h.kids,h.kind]
   split<;>simp[ih]
 unfold St.tT;rw[h.len];exact this _ n
end
section
def T.wD:T->Nat
 | .dyn=>1
 | .pair a b=>if a.wD+b.wD=0 then 0 else a.wD+b.wD+1
 | .fn a b=>if a.wD+b.wD=0 then 0 else a.wD+b.wD+1
 | .list a=>if a.wD=0 then 0 else a.wD+1
 |_=>0
theorem zak:∀a:T,a.wD=0 ↔ a.static=true:=by
 intro a
 induction a with
 |pair a b ih1 ih2=>simp only[T.wD,T.static,YAA,<-ih1,<-ih2];split<;>omega
 |fn a b ih1 ih2=>simp only[T.wD,T.static,YAA,<-ih1,<-ih2];split<;>omega
 |list a ih1=>simp only[T.wD,T.static,<-ih1];split<;>omega
 |_=>simp[T.wD,T.static]
theorem zaj{σ:Int->T}:∀a:T,(∀n,a.has n=true->(σ n).static=true)->(putS σ a).wD=a.wD:=by
 intro a
 induction a with
 |var n=>intro h;exact(zak _).2 (h n (by simp[T.has]))
 |pair a b ih1 ih2=>intro h;simp only[putS,T.wD];rw[ih1 fun n hn=>h n (by simp[T.has,hn]),ih2 fun n hn=>h n (by simp[T.has,hn])]
 |fn a b ih1 ih2=>intro h;simp only[putS,T.wD];rw[ih1 fun n hn=>h n (by simp[T.has,hn]),ih2 fun n hn=>h n (by simp[T.has,hn])]
 |list a ih1=>intro h;simp only[putS,T.wD];rw[ih1 fun n hn=>h n (by simp[T.has,hn])]
 |_=>intro _;rfl
theorem zXg{σ:Int->T}{a:T}(h:∀n,a.has n=true->(σ n).static=true):(putS σ a).static=a.static:=by
 rw[Bool.eq_iff_iff,<-zak,<-zak,zaj a h]
theorem zXf{σ:Int->T}(a:T)(h:∀n,a.has n=true->(σ n).static=true)(ha:a.static=true):(putS σ a).static=true:=by rw[zXg h];exact ha
def StV(S:St):Prop:=∀v,v<S.length->S.kind v=6->(S.tT v).static=true
theorem Ext.wD{S S':St}(hw:Wf S)(h:Ext S S')(hs:StV S'){n:Nat}(hn:n<S.length):(S'.tT n).wD=(S.tT n).wD:=by
 rw[h.tT hw n hn]
 refine zaj _ fun z hz=> ?_
 obtain⟨m,rfl,h1,h2,_⟩:=hw.zK9 n hn z hz
 exact hs m (YAW h1 h.len) (by rw[h.kind m h1];exact h2)
theorem Ext.static{S S':St}(hw:Wf S)(h:Ext S S')(hs:StV S'){n:Nat}(hn:n<S.length):(S'.tT n).static=(S.tT n).static:=by
 rw[Bool.eq_iff_iff,<-zak,<-zak,h.wD hw hs hn]
theorem StV.lv{S S':St}(h:StV S)(hl:Lv S S'):StV S':=fun v hv hk=>by
 rw[hl.tT];exact h v (by rw[<-hl.len];exact hv) (by rw[<-hl.kind];exact hk)
theorem Wf.zX7{S:St}(h:Wf S){x:Nd}(h':Wf (S++ [x]))(hl:x.link=none){n:Nat}(hn:n<S.length):St.tT (S++ [x]) n=S.tT n:=
 T.zZ7 (by rw[<-h'.zYI n (by simp;omega),h.zYd h' hl n hn,h.zYI n hn])
theorem Wf.zYB{S:St}{lv:Int}(h':Wf (S++ [⟨6,lv,none,[]⟩])):St.tT (S++ [⟨6,lv,none,[]⟩]) S.length= .var S.length:=by
 have e:=h'.shT (n:=S.length) (by simp)
 rw[zUN rfl]at e
 have k:St.kind (S++ [⟨6,lv,none,[]⟩]) S.length=6:=by rw[St.kind,St.zPw]
 generalize St.tT (S++ [⟨6,lv,none,[]⟩]) S.length=z at e⊢
 cases e<;>first|rfl|omega
theorem StV.var{S:St}(hw:Wf S)(h:StV S){lv:Int}(h':Wf (S++ [⟨6,lv,none,[]⟩])):StV (S++ [⟨6,lv,none,[]⟩]):=fun v hv hk=>by
 simp only[YAJ,List.length_cons,List.length_nil]at hv
 by_cases e:v=S.length
 ·subst e;rw[h'.zYB];rfl
 ·have hv':v<S.length:=by omega
  rw[hw.zX7 h' rfl hv']
  exact h v hv' (by rw[St.kind,St.zPv hv']at hk;exact hk)
theorem StV.node{S:St}(hw:Wf S)(h:StV S){x:Nd}(h':Wf (S++ [x]))(hl:x.link=none)(hk6:x.kind≠6):StV (S++ [x]):=fun v hv hk=>by
 simp only[YAJ,List.length_cons,List.length_nil]at hv
 by_cases e:v=S.length
 ·subst e;rw[St.kind,St.zPw]at hk;exact absurd hk hk6
 ·have hv':v<S.length:=by omega
  rw[hw.zX7 h' hl hv']
  exact h v hv' (by rw[St.kind,St.zPv hv']at hk;exact hk)
theorem Wf.zYA{S:St}(h:Wf S){v:Nat}(hv:v<S.length)(h6:S.kind v=6)(hl:S.link v=none):S.tT v= .var v:=by
 have e:=h.shT hv
 have er:S.root v=v:=zUO hl
 rw[er]at e
 generalize S.tT v=z at e⊢
 cases e<;>first|rfl|omega
structure CanLk (S:St) (x y:Nat):Prop where
 hx:x<S.length
 hy:y<S.length
 lx:S.link x=none
 ly:S.link y=none
 h6:S.kind x=6
 hn:x ∉ S.all y
theorem CanLk.ne{S:St}{x y:Nat}(hw:Wf S)(h:CanLk S x y):y≠x:=fun e=>h.hn (by
 rw[hw.zPE h.hy,zTP];left;rw[zUO h.ly];exact e.symm)
theorem CanLk.wf{S:St}{x y:Nat}(hw:Wf S)(h:CanLk S x y):Wf (S.lk x y):=hw.lk h.hx h.hy h.lx h.h6 h.ly h.hn
theorem CanLk.ext{S:St}{x y:Nat}(hw:Wf S)(h:CanLk S x y):Ext S (S.lk x y):=Ext.lk (h.wf hw) h.hx h.lx
theorem CanLk.root{S:St}{x y:Nat}(hw:Wf S)(h:CanLk S x y)(n:Nat):(S.lk x y).root n=if S.root n=x then y else S.root n:=
 hw.zUL (h.wf hw) h.hx h.lx h.ly (h.ne hw) n
theorem CanLk.has{S:St}{x y:Nat}(hw:Wf S)(h:CanLk S x y):(S.tT y).has x=false:=by
 have:=h.hn
 rw[hw.allx h.hy h.h6]at this;simpa using this
theorem CanLk.zYD{S:St}{x y z:Nat}(hw:Wf S)(h:CanLk S x y)(hz:z<S.length)(h6:S.kind z=6)(er:S.root z=z)(hne:z≠x):(S.lk x y).tT z= .var z:=by
 have e:(S.lk x y).root z=z:=by rw[h.root hw,er,if_neg hne]
 refine(h.wf hw).zYA (by rw[St.zNZ];exact hz) (by rw[(h.ext hw).kind z hz];exact h6) ?_
 have:=(h.wf hw).zUK z
 rwa[e]at this
theorem CanLk.tT_y{S:St}{x y:Nat}(hw:Wf S)(h:CanLk S x y):(S.lk x y).tT y=S.tT y:=by
 rw[(h.ext hw).tT hw y h.hy]
 conv=>rhs;rw[<-zS2 (S.tT y)]
 refine zSx _ fun z hz=> ?_
 obtain⟨m,rfl,h1,h2,h3⟩:=hw.zK9 y h.hy z hz
 rw[Int.toNat_natCast]
 refine h.zYD hw h1 h2 h3 fun e=> ?_
 subst e
 rw[h.has hw]at hz;cases hz
theorem CanLk.tT_x{S:St}{x y:Nat}(hw:Wf S)(h:CanLk S x y):(S.lk x y).tT x=S.tT y:=by
 rw[<-h.tT_y hw]
 refine(h.wf hw).zYE (by rw[St.zNZ];exact h.hx) (by rw[St.zNZ];exact h.hy) ?_
 rw[h.root hw,h.root hw,zUO h.lx,if_pos rfl,zUO h.ly,if_neg (h.ne hw)]
theorem CanLk.tT{S:St}{x y:Nat}(hw:Wf S)(h:CanLk S x y){n:Nat}(hn:n<S.length):(S.lk x y).tT n=putS (fun z=>if z=x then S.tT y else .var z) (S.tT n):=by
 rw[(h.ext hw).tT hw n hn]
 refine zSx _ fun z hz=> ?_
 obtain⟨m,rfl,h1,h2,h3⟩:=hw.zK9 n hn z hz
 rw[Int.toNat_natCast]
 by_cases e:m=x
 ·subst e;rw[if_pos rfl,h.tT_x hw]
 ·rw[if_neg (by omega),h.zYD hw h1 h2 h3 e]
theorem CanLk.stV{S:St}{x y:Nat}(hw:Wf S)(h:CanLk S x y)(hs:StV S)(hy:(S.tT y).static=true):StV (S.lk x y):=fun v hv hk=>by
 rw[St.zNZ]at hv
 rw[(h.ext hw).kind v hv]at hk
 rw[h.tT hw hv]
 refine zXf _ (fun z _=> ?_) (hs v hv hk)
 split
 ·exact hy
 ·rfl
def St.zME(S:St)(i:Nat):Bool:=(S.kind i==6)&&(S.link i).isNone
def St.free(S:St):Nat:=(List.range S.length).countP S.zME
theorem Lv.free{S S':St}(h:Lv S S'):S'.free=S.free:=by
 unfold St.free
 rw[h.len]
 congr 1
 funext i
 simp only[St.zME,h.kind,h.link]
theorem zFL{α:Type}{p q:α->Bool}:∀ {l:List α},(∀x∈l,p x=q x)->l.countP p=l.countP q
 | [],_=>rfl
 |a::l,h=>by
  rw[List.countP_cons,List.countP_cons,h a YAU,zFL fun x hx=>h x (YAT _ hx)]
theorem zFK{p q:Nat->Bool}{r:Nat}(hp:p r=true)(hq:q r=false)(h:∀i,i≠r->q i=p i):∀l:List Nat,l.Nodup->r∈l->l.countP q+1=l.countP p
 | [],_,hr=>by cases hr
 |a::l,hd,hr=>by
  rw[List.nodup_cons]at hd
  rw[List.countP_cons,List.countP_cons]
  by_cases e:a=r
  ·subst e
   rw[hp,hq,zFL (p:=q) (q:=p) fun x hx=>h x fun e=>hd.1 (e▸hx)];simp
  ·have:=zFK hp hq h l hd.2 ((List.mem_cons.1 hr).resolve_left fun e'=>e e'.symm)
   rw[h a e];omega
theorem zH2{S:St}{x:Nd}(hl:x.link=none):St.free (S++ [x])=S.free+if x.kind=6 then 1 else 0:=by
 unfold St.free
 rw[YAJ,List.length_singleton,List.range_succ,List.countP_append,List.countP_singleton]
 congr 1
 ·refine zFL fun i hi=> ?_
  have hi':i<S.length:=List.mem_range.1 hi
  simp only[St.zME,St.kind,St.link,St.zPv hi']
 ·simp only[St.zME,St.kind,St.link,St.zPw,hl]
  by_cases e:x.kind=6<;>simp[e]
theorem CanLk.free{S:St}{x y:Nat}(h:CanLk S x y):(S.lk x y).free+1=S.free:=by
 unfold St.free
 rw[St.zNZ]
 refine zFK (r:=x) ?_ ?_ (fun i hi=> ?_) _ List.nodup_range (List.mem_range.2 h.hx)
 ·simp[St.zME,h.h6,h.lx]
 ·simp only[St.zME,St.link,St.zPy h.hx,if_pos];simp
 ·simp only[St.zME,St.kind,St.link,St.zPy h.hx,if_neg hi]
def LvOK(S:St):Prop:=∀v,v<S.length->S.kind v=6->∀w:Nat,(S.tT v).has w=true->(S.nd w).level<=(S.nd v).level
theorem LvOK.var{S:St}(hw:Wf S)(h:LvOK S){lv:Int}(h':Wf (S++ [⟨6,lv,none,[]⟩])):LvOK (S++ [⟨6,lv,none,[]⟩]):=fun v hv hk w hh=>by
 simp only[YAJ,List.length_cons,List.length_nil]at hv
 by_cases e:v=S.length
 ·subst e;rw[h'.zYB]at hh
  simp only[T.has,YAa]at hh
  have:w=S.length:=by omega
  subst this;exact YAQ _
 ·have hv':v<S.length:=by omega
  rw[hw.zX7 h' rfl hv']at hh
  obtain⟨m,e1,h1,_⟩:=hw.zK9 v hv' w hh
  have:w=m:=by omega
  subst this
  rw[St.zPv hv',St.zPv h1]
  exact h v hv' (by rw[St.kind,St.zPv hv']at hk;exact hk) w hh
theorem LvOK.node{S:St}(hw:Wf S)(h:LvOK S){x:Nd}(h':Wf (S++ [x]))(hl:x.link=none)(hk6:x.kind≠6):LvOK (S++ [x]):=fun v hv hk w hh=>by
 simp only[YAJ,List.length_cons,List.length_nil]at hv
 by_cases e:v=S.length
 ·subst e;rw[St.kind,St.zPw]at hk;exact absurd hk hk6
 ·have hv':v<S.length:=by omega
  rw[hw.zX7 h' hl hv']at hh
  obtain⟨m,e1,h1,_⟩:=hw.zK9 v hv' w hh
  have:w=m:=by omega
  subst this
  rw[St.zPv hv',St.zPv h1]
  exact h v hv' (by rw[St.kind,St.zPv hv']at hk;exact hk) w hh
structure LowAt (S S':St) (n:Nat) (l:Int):Prop where
 lv:Lv S S'
 level:∀i,(S'.nd i).level=if i∈S.vars n then min (S.nd i).level l else(S.nd i).level
theorem LowAt.le{S S':St}{n:Nat}{l:Int}(h:LowAt S S' n l)(i:Nat):(S'.nd i).level<=(S.nd i).level:=by
 rw[h.level];split<;>omega
theorem LowAt.linked{S S':St}{n:Nat}{l:Int}(hw:Wf S)(hn:n<S.length)(h:LowAt S S' n l){i:Nat}(hi:S.root i≠i):(S'.nd i).level=(S.nd i).level:=by
 rw[h.level,if_neg]
 intro hm
 exact hi (((hw.zPJ hn).1 hm).1.root hw)
theorem LowAt.ok{S S':St}{n:Nat}{l:Int}(hw:Wf S)(hn:n<S.length)(h:LowAt S S' n l)(hk:LvOK S):LvOK S':=fun v hv h6 w hh=>by
 rw[h.lv.len]at hv
 rw[h.lv.kind]at h6
 rw[h.lv.tT]at hh
 by_cases er:S.root v=v
 ·have hf:S.tT v= .var v:=hw.zYA hv h6 (by have:=hw.zUK v;rwa[er]at this)
  rw[hf]at hh
  simp only[T.has,YAa]at hh
  have:w=v:=by omega
  subst this;exact YAQ _
 ·rw[h.linked hw hn er]
  have:=hk v hv h6 w hh
  have:=h.le w
  omega
theorem LvOK.lk{S S':St}{x y:Nat}(hw:Wf S)(h:CanLk S x y)(hl:LowAt (S.lk x y) S' y (S.nd x).level)(hk:LvOK S):LvOK S':=by
 have hwl:=h.wf hw
 have lev:∀i,((S.lk x y).nd i).level=(S.nd i).level:=fun i=>by
  rw[St.zPy h.hx];split
  ·rename_i e;subst e;rfl
  ·rfl
 intro v hv h6 w hh
 rw[hl.lv.len,St.zNZ]at hv
 rw[hl.lv.kind,(h.ext hw).kind v hv]at h6
 rw[hl.lv.tT]at hh
 have hyl:y<(S.lk x y).length:=by rw[St.zNZ];exact h.hy
 have low:∀z:Nat,(S.tT y).has z=true->(S'.nd z).level<=(S.nd x).level:=fun z hz=>by
  obtain⟨m,e1,h1,h2,h3⟩:=hw.zK9 y h.hy z hz
  have:z=m:=by omega
  subst this
  rw[hl.level,if_pos,lev]
  ·omega
  ·rw[hwl.zPJ hyl,<-hwl.zK8 y hyl,h.tT_y hw];exact hz
 by_cases er:(S.lk x y).root v=v
 ·have hf:(S.lk x y).tT v= .var v:=hwl.zYA (by rw[St.zNZ];exact hv) (by rw[(h.ext hw).kind v hv];exact h6) (by have:=hwl.zUK v;rwa[er]at this)
  rw[hf]at hh
  simp only[T.has,YAa]at hh
  have:w=v:=by omega
  subst this;exact YAQ _
 ·rw[hl.linked hwl hyl er,lev]
  by_cases ev:S.root v=v
  ·
   have hvx:v=x:=by
    rw[h.root hw,ev]at er
    split at er
    ·assumption
    ·exact absurd rfl er
   subst hvx
   rw[h.tT_x hw]at hh
   exact low w hh
  ·rw[h.tT hw hv]at hh
   have key:∀a:T,(putS (fun z=>if z=(x:Int)then S.tT y else .var z) a).has w=true->(a.has x=true/\(S.tT y).has w=true)\/a.has w=true:=by
    intro a
    induction a with
    |var n=>
     simp only[putS,T.has]
     split
     ·rename_i e;intro hz;left;exact⟨by simp[e],hz⟩
     ·intro hz;right;simpa [T.has]using hz
    |pair a b ih1 ih2=>
     simp only[putS,T.has,YAP]
     rintro(hz|hz)
     ·rcases ih1 hz with ⟨a1,a2⟩|a1
      ·exact .inl ⟨.inl a1,a2⟩
      ·exact .inr (.inl a1)
     ·rcases ih2 hz with ⟨a1,a2⟩|a1
      ·exact .inl ⟨.inr a1,a2⟩
      ·exact .inr (.inr a1)
    |fn a b ih1 ih2=>
     simp only[putS,T.has,YAP]
     rintro(hz|hz)
     ·rcases ih1 hz with ⟨a1,a2⟩|a1
      ·exact .inl ⟨.inl a1,a2⟩
      ·exact .inr (.inl a1)
     ·rcases ih2 hz with ⟨a1,a2⟩|a1
      ·exact .inl ⟨.inr a1,a2⟩
      ·exact .inr (.inr a1)
    |list a ih1=>exact ih1
    |_=>simp[putS,T.has]
   rcases key _ hh with ⟨a1,a2⟩|a1
   ·have:=hk v hv h6 x a1
    have:=low w a2
    omega
   ·have:=hk v hv h6 w a1
    have:=hl.le w
    rw[lev]at this
    omega
end
section
structure LinkS (S:St) (x y:Nat) (σ':Sto):Prop where
 good:GoodS σ'
 low:LowAt (S.lk x y) σ'.L.st y (S.nd x).level
theorem Sto.zNO(σ:Sto)(x y:Nat):(σ.link x y).2.cnt=σ.cnt:=by unfold Sto.link;split<;>rfl
theorem Sto.zmT(σ:Sto)(x y:Nat):(σ.link x y).2.L.length=σ.L.length:=by
 unfold Sto.link;split
 ·exact Sto.zOz _ _
 ·exact zNM
theorem Sto.zNU{σ:Sto}(h:GoodS σ){x y:Nat}(c:CanLk σ.L.st x y):(σ.link x y).1=0/\LinkS σ.L.st x y (σ.link x y).2:=by
 have hx:=c.hx
 have hy:=c.hy
 rw[Mem.zXR]at hx hy
 have hG:=h.link hx hy (zUO c.lx) (zUO c.ly) c.h6
 obtain⟨hw,h1,h2⟩:=h.si.link hx hy c.lx c.h6 c.ly c.hn
 unfold Sto.link at hG⊢
 rw[if_neg c.hn]at hG⊢
 refine⟨rfl,hG,h2,fun i=> ?_⟩
 show((lowL _ _ _).st.nd i).level=_
 rw[zNu _ _ (fun z hz=>by
  have:=zad hw (by rw[St.zNZ,Mem.zXR];exact hy) z hz
  rw[zPW,zVT,zPW];rw[St.zNZ,Mem.zXR]at this;exact this.2),zPY,zVV,zPY]
theorem Sto.zNz{σ:Sto}(h:GoodS σ){n:Nat}(hn:n<σ.L.length){lv:Int}(hl:0<=lv):GoodS (σ.low n lv)/\LowAt σ.L.st (σ.low n lv).L.st n lv:=by
 obtain⟨h1,h2⟩:=h.si.low hn lv
 refine⟨h.low hn hl,h2,fun i=> ?_⟩
 show((lowL _ _ _).st.nd i).level=_
 rw[zNu _ _ (fun x hx=>by
  have:=zad h.si.wf (by rw[Mem.zXR];exact hn) x hx
  rw[zPW];rw[Mem.zXR]at this;exact this.2),zPY]
structure CpyOK (S S1:St) (x y m:Nat) (fr:List Nat):Prop where
 ext:Ext S S1
 len:S1.length=m+1
 tT:∀n,n<S.length->S1.tT n=S.tT n
 nd:∀n,n<S.length->S1.nd n=S.nd n
 root:S1.root m=m
 kids:S1.kids m=fr
 kind:S1.kind m=S.kind y
 two:(∃a,S.kids y=[a]/\fr=[S.length]/\m=S.length+1/\S.kind y=8)\/(∃a b,S.kids y=[a,b]/\fr=[S.length,S.length+1]/\m=S.length+2/\(S.kind y=7\/S.kind y=9))
 frs:∀f∈fr,S.length<=f/\f<m/\S1.kind f=6/\S1.link f=none/\(S1.nd f).level=(S.nd x).level
 free:S1.free=S.free+fr.length
 stv:StV S->StV S1
 lvok:LvOK S->LvOK S1
 can:CanLk S1 x m
theorem CpyOK.wf{S S1:St}{x y m:Nat}{fr:List Nat}(h:CpyOK S S1 x y m fr):Wf S1:=h.ext.wf
theorem CpyOK.zX9{S S1:St}{x y m:Nat}{fr:List Nat}(h:CpyOK S S1 x y m fr){f:Nat}(hf:f∈fr):S1.tT f= .var f:=by
 obtain⟨_,h2,h3,h4,_⟩:=h.frs f hf
 exact h.wf.zYA (by rw[h.len];omega) h3 h4
def St.cpy1(S:St)(x y:Nat):St:=S++ [⟨6,(S.nd x).level,none,[]⟩]++ [⟨S.kind y,0,none,[S.length]⟩]
def St.cpy2(S:St)(x y:Nat):St:=S++ [⟨6,(S.nd x).level,none,[]⟩]++ [⟨6,(S.nd x).level,none,[]⟩]++ [⟨S.kind y,0,none,[S.length,S.length+1]⟩]
theorem zFS{S:St}(hw:Wf S){x y a:Nat}(hx:x<S.length)(h6:S.kind x=6)(lx:S.link x=none)(hy:y<S.length)(hk:S.kind y=8)(hc:S.kids y=[a]):CpyOK S (S.cpy1 x y) x y (S.length+1) [S.length]:=by
 have w1:Wf (S++ [⟨6,(S.nd x).level,none,[]⟩]):=hw.add (.inl ⟨rfl,rfl⟩) rfl (by simp)
 have w2:Wf (S.cpy1 x y):=w1.add (.inr ⟨rfl,.inr ⟨hk,rfl⟩⟩) rfl (by simp)
 have l1:(S++ [(⟨6,(S.nd x).level,none,[]⟩:Nd)]).length=S.length+1:=by simp
 have l2:(S.cpy1 x y).length=S.length+1+1:=by simp[St.cpy1]
 have nd:∀n,n<S.length->(S.cpy1 x y).nd n=S.nd n:=fun n hn=>by rw[St.cpy1,St.zPv (by rw[l1];omega),St.zPv hn]
 have ndf:(S.cpy1 x y).nd S.length=⟨6,(S.nd x).level,none,[]⟩:=by rw[St.cpy1,St.zPv (by rw[l1];omega),St.zPw]
 have ndm:(S.cpy1 x y).nd (S.length+1)=⟨S.kind y,0,none,[S.length]⟩:=by
  have:=St.zPw (S:=S++ [⟨6,(S.nd x).level,none,[]⟩]) (x:=⟨S.kind y,0,none,[S.length]⟩)
  rwa[l1]at this
 have e2:Ext S (S.cpy1 x y):=(Ext.add w1).trans (Ext.add w2)
 have rm:(S.cpy1 x y).root (S.length+1)=S.length+1:=zUO (by rw[St.link,ndm])
 have tf:(S.cpy1 x y).tT S.length= .var S.length:=w2.zYA (by rw[l2];omega) (by rw[St.kind,ndf]) (by rw[St.link,ndf])
 refine⟨e2,l2,fun n hn=> ?_,nd,rm,by rw[St.kids,ndm],by rw[St.kind,ndm],.inl ⟨a,hc,rfl,rfl,hk⟩,fun f hf=> ?_,?_,fun h=> ?_,fun h=> ?_,?_⟩
 ·rw[St.cpy1,w1.zX7 w2 rfl (by rw[l1];omega),hw.zX7 w1 rfl hn]
 ·rw[List.mem_singleton]at hf;subst hf
  exact⟨YAV _,by omega,by rw[St.kind,ndf],by rw[St.link,ndf],by rw[ndf]⟩
 ·rw[St.cpy1,zH2 rfl,zH2 rfl,if_pos rfl,if_neg (show¬S.kind y=6 by omega)];rfl
 ·exact(h.var hw w1).node w1 w2 rfl (by show S.kind y≠6;omega)
 ·exact(h.var hw w1).node w1 w2 rfl (by show S.kind y≠6;omega)
 ·refine⟨by rw[l2];omega,by rw[l2];omega,by rw[St.link,nd x hx];exact lx,by rw[St.link,ndm],by rw[St.kind,nd x hx];exact h6,?_⟩
  rw[w2.allx (by rw[l2];omega) (by rw[St.kind,nd x hx];exact h6),w2.zX8 (by rw[l2];omega),rm,St.zQS,St.kids,ndm]
  simp only[T.has,tf,YAa]
  omega
theorem zFT{S:St}(hw:Wf S){x y a b:Nat}(hx:x<S.length)(h6:S.kind x=6)(lx:S.link x=none)(hy:y<S.length)(hk:S.kind y=7\/S.kind y=9)(hc:S.kids y=[a,b]):CpyOK S (S.cpy2 x y) x y (S.length+2) [S.length,S.length+1]:=by
 have l1:(S++ [(⟨6,(S.nd x).level,none,[]⟩:Nd)]).length=S.length+1:=by simp
 have l2:(S++ [(⟨6,(S.nd x).level,none,[]⟩:Nd)]++ [(⟨6,(S.nd x).level,none,[]⟩:Nd)]).length=S.length+2:=by simp
 have l3:(S.cpy2 x y).length=S.length+2+1:=by simp[St.cpy2]
 have w1:Wf (S++ [⟨6,(S.nd x).level,none,[]⟩]):=hw.add (.inl ⟨rfl,rfl⟩) rfl (by simp)
 have w2:Wf (S++ [⟨6,(S.nd x).level,none,[]⟩]++ [⟨6,(S.nd x).level,none,[]⟩]):=w1.add (.inl ⟨rfl,rfl⟩) rfl (by simp)
 have w3:Wf (S.cpy2 x y):=w2.add (.inr ⟨rfl,.inl ⟨hk,rfl⟩⟩) rfl (by simp)
 have nd:∀n,n<S.length->(S.cpy2 x y).nd n=S.nd n:=fun n hn=>by rw[St.cpy2,St.zPv (by rw[l2];omega),St.zPv (by rw[l1];omega),St.zPv hn]
 have ndf:(S.cpy2 x y).nd S.length=⟨6,(S.nd x).level,none,[]⟩:=by rw[St.cpy2,St.zPv (by rw[l2];omega),St.zPv (by rw[l1];omega),St.zPw]
 have ndg:(S.cpy2 x y).nd (S.length+1)=⟨6,(S.nd x).level,none,[]⟩:=by
  have:=St.zPw (S:=S++ [⟨6,(S.nd x).level,none,[]⟩]) (x:=⟨6,(S.nd x).level,none,[]⟩)
  rw[l1]at this
  rw[St.cpy2,St.zPv (by rw[l2];omega)];exact this
 have ndm:(S.cpy2 x y).nd (S.length+2)=⟨S.kind y,0,none,[S.length,S.length+1]⟩:=by
  have:=St.zPw (S:=S++ [⟨6,(S.nd x).level,none,[]⟩]++ [⟨6,(S.nd x).level,none,[]⟩]) (x:=⟨S.kind y,0,none,[S.length,S.length+1]⟩)
  rwa[l2]at this
 have e2:Ext S (S.cpy2 x y):=((Ext.add w1).trans (Ext.add w2)).trans (Ext.add w3)
 have rm:(S.cpy2 x y).root (S.length+2)=S.length+2:=zUO (by rw[St.link,ndm])
 have tf:(S.cpy2 x y).tT S.length= .var S.length:=w3.zYA (by rw[l3];omega) (by rw[St.kind,ndf]) (by rw[St.link,ndf])
 have tg:(S.cpy2 x y).tT (S.length+1)= .var ((S.length+1:Nat):Int):=w3.zYA (by rw[l3];omega) (by rw[St.kind,ndg]) (by rw[St.link,ndg])
 have k6:S.kind y≠6:=by rcases hk with e|e<;>omega
 refine⟨e2,l3,fun n hn=> ?_,nd,rm,by rw[St.kids,ndm],by rw[St.kind,ndm],.inr ⟨a,b,hc,rfl,rfl,hk⟩,fun f hf=> ?_,?_,fun h=> ?_,fun h=> ?_,?_⟩
 ·rw[St.cpy2,w2.zX7 w3 rfl (by rw[l2];omega),w1.zX7 w2 rfl (by rw[l1];omega),hw.zX7 w1 rfl hn]
 ·simp only[List.mem_cons,List.not_mem_nil,or_false]at hf
  rcases hf with rfl|rfl
  ·exact⟨YAV _,by omega,by rw[St.kind,ndf],by rw[St.link,ndf],by rw[ndf]⟩
  ·exact⟨by omega,by omega,by rw[St.kind,ndg],by rw[St.link,ndg],by rw[ndg]⟩
 ·rw[St.cpy2,zH2 rfl,zH2 rfl,zH2 rfl,if_pos rfl,if_neg k6];rfl
 ·exact((h.var hw w1).var w1 w2).node w2 w3 rfl k6
 ·exact((h.var hw w1).var w1 w2).node w2 w3 rfl k6
 ·refine⟨by rw[l3];omega,by rw[l3];omega,by rw[St.link,nd x hx];exact lx,by rw[St.link,ndm],by rw[St.kind,nd x hx];exact h6,?_⟩
  rw[w3.allx (by rw[l3];omega) (by rw[St.kind,nd x hx];exact h6),w3.zX8 (by rw[l3];omega),rm,St.zQS,St.kids,ndm]
  simp only
  split<;>(simp only[T.has,tf,tg,YAa,YAP];omega)
inductive BecR (lim:Int) (σ:Sto) (x y:Nat):Option Nat×Int×Sto->Prop
 |link (σ':Sto):CanLk σ.L.st x y->(σ.L.st.tT y).static=true->LinkS σ.L.st x y σ'->σ'.cnt=σ.cnt->BecR lim σ x y (none,0,σ')
 |copy (S1:St) (m:Nat) (fr:List Nat) (σ':Sto):σ.L.st.kind y≠6->(σ.L.st.tT y).static=false->(σ.L.st.tT y).has x=false->CpyOK σ.L.st S1 x y m fr->LinkS S1 x m σ'->σ'.cnt=σ.cnt+(fr.length+1:Nat)->BecR lim σ x y (some m,0,σ')
 |loop (σ':Sto):(σ.L.st.tT y).has x=true->GoodS σ'->σ'.L.st=σ.L.st->σ'.cnt=σ.cnt->BecR lim σ x y (none,5,σ')
 |limit (σ':Sto):(σ.L.st.tT y).static=false->lim<=σ.cnt+2->BecR lim σ x y (none,7,σ')
theorem zDG{lim:Int}{σ:Sto}(h:GoodS σ){x y:Nat}(hx:x<σ.L.length)(hy:y<σ.L.length)(ex:σ.L.st.root x=x)(ey:σ.L.st.root y=y)(h6:σ.L.st.kind x=6)(hxy:y≠x)(hy4:y≠4):BecR lim σ x y (σ.become lim x y):=by
 have hw:=h.si.wf
 have hx':x<σ.L.st.length:=by rw[Mem.zXR];exact hx
 have hy':y<σ.L.st.length:=by rw[Mem.zXR];exact hy
 have lx:σ.L.st.link x=none:=by have:=hw.zUK x;rwa[ex]at this
 have ly:σ.L.st.link y=none:=by have:=hw.zUK y;rwa[ey]at this
 unfold Sto.become
 by_cases hk6:σ.L.st.kind y=6
 ·rw[if_pos hk6]
  have hf:=hw.zYA hy' hk6 ly
  have c:CanLk σ.L.st x y:=⟨hx',hy',lx,ly,h6,by rw[hw.allx hy' h6,hf];simp only[T.has,YAa];omega⟩
  obtain⟨q1,q2⟩:=Sto.zNU h c
  have q3:=σ.zNO x y
  generalize σ.link x y=q at*
  obtain⟨e,σ'⟩:=q
  simp only at q1 q2 q3
  subst q1
  exact .link σ' c (by rw[hf];rfl) q2 q3
 rw[if_neg hk6]
 have hm:=h.mark y
 have m1:=σ.zO0 y
 by_cases h4:4 ∉ σ.L.st.all y
 ·rw[if_pos h4]
  have hst:=(hw.all4 hy').1 h4
  by_cases hin:x∈σ.L.st.all y
  ·unfold Sto.link
   rw[m1,if_pos hin]
   exact .loop _ ((hw.allx hy' h6).1 hin) (hm.mark y) (σ.zO1 y y) rfl
  ·have c:CanLk σ.L.st x y:=⟨hx',hy',lx,ly,h6,hin⟩
   have c':CanLk (σ.mark y).L.st x y:=by rw[m1];exact c
   obtain⟨q1,q2⟩:=Sto.zNU hm c'
   have q3:=(σ.mark y).zNO x y
   rw[m1]at q2
   generalize (σ.mark y).link x y=q at*
   obtain⟨e,σ'⟩:=q
   simp only at q1 q2 q3
   subst q1
   exact .link σ' c hst q2 q3
 rw[if_neg h4]
 have hst:(σ.L.st.tT y).static=false:=by
  have:=(hw.all4 hy').2
  cases e:(σ.L.st.tT y).static with
  |false=>rfl
  |true=>exact absurd (this e) h4
 by_cases hin:x∈σ.L.st.all y
 ·rw[if_pos hin]
  exact .loop _ ((hw.allx hy' h6).1 hin) (hm.mark y) (σ.zO1 y y) rfl
 rw[if_neg hin]
 have hhas:(σ.L.st.tT y).has x=false:=by
  have:=(hw.allx (x:=x) hy' h6).2
  cases e:(σ.L.st.tT y).has x with
  |false=>rfl
  |true=>exact absurd (this e) hin
 have g1:=h.mark y
 have g2:=g1.mark y
 have m2:=σ.zO1 y y
 have n2:((σ.mark y).mark y).L.length=σ.L.length:=by rw[Sto.zOz,Sto.zOz]
 have hlv:=h.lv x h6
 rcases hw.zVs (y:=y) hy' with hk|⟨h5,_,hk⟩|⟨hk,a,hks⟩|⟨hk,a,b,hks⟩
 ·exact absurd hk.1 hk6
 ·exfalso
  rw[hw.zXc y hy',zTP,ey,hk]at hst
  simp at hst
  exact hy4 hst.symm
 ·rw[hks]
  simp only
  by_cases c0:σ.cnt=lim
  ·rw[if_pos c0];exact .limit _ hst (by omega)
  rw[if_neg c0]
  by_cases c1:σ.cnt+1=lim
  ·rw[if_pos c1];exact .limit _ hst (by omega)
  rw[if_neg c1]
  have cp:=zFS hw hx' h6 lx hy' hk hks
  have g3:=g2.var hlv
  have l3:(((σ.mark y).mark y).var (σ.L.st.nd x).level).L.length=σ.L.length+1:=by rw[Sto.zaS,n2]
  have g5:=g3.mk' (k:=σ.L.st.kind y) (ks:=[σ.L.length]) (.inr ⟨hk,rfl⟩) (by intro a ha;simp at ha;omega)
  have e1:((((σ.mark y).mark y).var (σ.L.st.nd x).level).mk' (σ.L.st.kind y) [σ.L.length]).L.st=σ.L.st.cpy1 x y:=by
   rw[Sto.mk',Mem.zXM,Sto.var,Mem.zXM,m2,St.cpy1,Mem.zXR];rfl
  have hcn:((((σ.mark y).mark y).var (σ.L.st.nd x).level).mk' (σ.L.st.kind y) [σ.L.length]).cnt=σ.cnt+1+1:=rfl
  generalize (((σ.mark y).mark y).var (σ.L.st.nd x).level).mk' (σ.L.st.kind y) [σ.L.length]=τ at*
  rw[<-Mem.zXR σ.L]
  have c':=cp.can
  rw[<-e1]at c'
  obtain⟨q1,q2⟩:=Sto.zNU g5 c'
  have q3:=τ.zNO x (σ.L.st.length+1)
  rw[e1]at q2
  generalize τ.link x (σ.L.st.length+1)=q at*
  obtain⟨e,σ'⟩:=q
  simp only at q1 q2 q3
  subst q1
  exact .copy _ _ _ σ' hk6 hst hhas cp q2 (by rw[q3,hcn];simp;omega)
 ·rw[hks]
  simp only
  by_cases c0:σ.cnt=lim
  ·rw[if_pos c0];exact .limit _ hst (by omega)
  rw[if_neg c0]
  by_cases c1:σ.cnt+1=lim
  ·rw[if_pos c1];exact .limit _ hst (by omega)
  rw[if_neg c1]
  by_cases c2:σ.cnt+2=lim
  ·rw[if_pos c2];exact .limit _ hst (by omega)
  rw[if_neg c2]
  have cp:=zFT hw hx' h6 lx hy' hk hks
  have g3:=g2.var hlv
  have g4:=g3.var hlv
  have l3:(((σ.mark y).mark y).var (σ.L.st.nd x).level).L.length=σ.L.length+1:=by rw[Sto.zaS,n2]
  have l4:((((σ.mark y).mark y).var (σ.L.st.nd x).level).var (σ.L.st.nd x).level).L.length=σ.L.length+2:=by rw[Sto.zaS,l3]
  have g5:=g4.mk' (k:=σ.L.st.kind y) (ks:=[σ.L.length,σ.L.length+1]) (.inl ⟨hk,rfl⟩) (by intro a ha;simp at ha;omega)
  have e1:(((((σ.mark y).mark y).var (σ.L.st.nd x).level).var (σ.L.st.nd x).level).mk' (σ.L.st.kind y) [σ.L.length,σ.L.length+1]).L.st=σ.L.st.cpy2 x y:=by
   rw[Sto.mk',Mem.zXM,Sto.var,Mem.zXM,Sto.var,Mem.zXM,m2,St.cpy2,Mem.zXR];rfl
  have hcn:(((((σ.mark y).mark y).var (σ.L.st.nd x).level).var (σ.L.st.nd x).level).mk' (σ.L.st.kind y) [σ.L.length,σ.L.length+1]).cnt=σ.cnt+1+1+1:=rfl
  generalize ((((σ.mark y).mark y).var (σ.L.st.nd x).level).var (σ.L.st.nd x).level).mk' (σ.L.st.kind y) [σ.L.length,σ.L.length+1]=τ at*
  rw[<-Mem.zXR σ.L]
  have c':=cp.can
  rw[<-e1]at c'
  obtain⟨q1,q2⟩:=Sto.zNU g5 c'
  have q3:=τ.zNO x (σ.L.st.length+2)
  rw[e1]at q2
  generalize τ.link x (σ.L.st.length+2)=q at*
  obtain⟨e,σ'⟩:=q
  simp only at q1 q2 q3
  subst q1
  exact .copy _ _ _ σ' hk6 hst hhas cp q2 (by rw[q3,hcn];simp;omega)
end
section
theorem LinkS.ext{S:St}{x y:Nat}{σ':Sto}(hw:Wf S)(c:CanLk S x y)(h:LinkS S x y σ'):Ext S σ'.L.st:=(c.ext hw).trans (Ext.lv h.good.si.wf h.low.lv)
theorem LinkS.stv{S:St}{x y:Nat}{σ':Sto}(hw:Wf S)(c:CanLk S x y)(h:LinkS S x y σ')(hs:StV S)(hy:(S.tT y).static=true):StV σ'.L.st:=(c.stV hw hs hy).lv h.low.lv
theorem LinkS.free{S:St}{x y:Nat}{σ':Sto}(c:CanLk S x y)(h:LinkS S x y σ'):σ'.L.st.free+1=S.free:=by rw[h.low.lv.free];exact c.free
theorem LinkS.root{S:St}{x y:Nat}{σ':Sto}(hw:Wf S)(c:CanLk S x y)(h:LinkS S x y σ')(n:Nat):σ'.L.st.root n=if S.root n=x then y else S.root n:=by rw[h.low.lv.root];exact c.root hw n
theorem LinkS.lvok{S:St}{x y:Nat}{σ':Sto}(hw:Wf S)(c:CanLk S x y)(h:LinkS S x y σ')(hk:LvOK S):LvOK σ'.L.st:=hk.lk hw c h.low
theorem LinkS.tT{S:St}{x y:Nat}{σ':Sto}(h:LinkS S x y σ')(n:Nat):σ'.L.st.tT n=(S.lk x y).tT n:=h.low.lv.tT n
theorem LinkS.len{S:St}{x y:Nat}{σ':Sto}(h:LinkS S x y σ'):σ'.L.st.length=S.length:=by rw[h.low.lv.len,St.zNZ]
inductive StepR (lim:Int) (σ:Sto) (p1 p2:Nat) (stk:List (Nat×Nat)):Stp->Prop
 |eq:σ.L.st.root p1=σ.L.st.root p2->StepR lim σ p1 p2 stk (.go stk σ)
 |dyn (z:Nat) (σ':Sto):(σ.L.st.root p1=4/\z=σ.L.st.root p2)\/(σ.L.st.root p2=4/\z=σ.L.st.root p1)->GoodS σ'->LowAt σ.L.st σ'.L.st z 0->σ'.cnt=σ.cnt->StepR lim σ p1 p2 stk (.go stk σ')
 |link (u w:Nat) (σ':Sto):(u=σ.L.st.root p1/\w=σ.L.st.root p2)\/(u=σ.L.st.root p2/\w=σ.L.st.root p1)->CanLk σ.L.st u w->(σ.L.st.tT w).static=true->LinkS σ.L.st u w σ'->σ'.cnt=σ.cnt->StepR lim σ p1 p2 stk (.go stk σ')
 |copyl (S1:St) (m:Nat) (fr:List Nat) (σ':Sto):σ.L.st.kind (σ.L.st.root p1)=6->σ.L.st.kind (σ.L.st.root p2)≠6->(σ.L.st.tT (σ.L.st.root p2)).static=false->(σ.L.st.tT (σ.L.st.root p2)).has (σ.L.st.root p1)=false->
  CpyOK σ.L.st S1 (σ.L.st.root p1) (σ.L.st.root p2) m fr->LinkS S1 (σ.L.st.root p1) m σ'->σ'.cnt=σ.cnt+(fr.length+1:Nat)->StepR lim σ p1 p2 stk (.go (fr.zip (σ.L.st.kids (σ.L.st.root p2))++stk) σ')
 |copyr (S1:St) (m:Nat) (fr:List Nat) (σ':Sto):σ.L.st.kind (σ.L.st.root p2)=6->σ.L.st.kind (σ.L.st.root p1)≠6->(σ.L.st.tT (σ.L.st.root p1)).static=false->(σ.L.st.tT (σ.L.st.root p1)).has (σ.L.st.root p2)=false->
  CpyOK σ.L.st S1 (σ.L.st.root p2) (σ.L.st.root p1) m fr->LinkS S1 (σ.L.st.root p2) m σ'->σ'.cnt=σ.cnt+(fr.length+1:Nat)->StepR lim σ p1 p2 stk (.go ((σ.L.st.kids (σ.L.st.root p1)).zip fr++stk) σ')
 |kids:σ.L.st.root p1≠σ.L.st.root p2->σ.L.st.kind (σ.L.st.root p1)=σ.L.st.kind (σ.L.st.root p2)->σ.L.st.kind (σ.L.st.root p1)≠6->σ.L.st.root p1≠4->σ.L.st.root p2≠4->StepR lim σ p1 p2 stk (.go ((σ.L.st.kids (σ.L.st.root p1)).zip (σ.L.st.kids (σ.L.st.root p2))++stk) σ)
 |clash:σ.L.st.kind (σ.L.st.root p1)≠σ.L.st.kind (σ.L.st.root p2)->σ.L.st.kind (σ.L.st.root p1)≠6->σ.L.st.kind (σ.L.st.root p2)≠6->σ.L.st.root p1≠4->σ.L.st.root p2≠4->StepR lim σ p1 p2 stk (.stop (σ.L.st.kind (σ.L.st.root p1)) (σ.L.st.kind (σ.L.st.root p2)) 4 σ)
 |loop (u w:Nat) (σ':Sto):(u=σ.L.st.root p1/\w=σ.L.st.root p2)\/(u=σ.L.st.root p2/\w=σ.L.st.root p1)->u≠w->σ.L.st.kind u=6->(σ.L.st.tT w).has u=true->GoodS σ'->σ'.L.st=σ.L.st->σ'.cnt=σ.cnt->StepR lim σ p1 p2 stk (.stop 0 0 5 σ')
 |limit (σ':Sto):(σ.L.st.tT (σ.L.st.root p1)).static=false\/(σ.L.st.tT (σ.L.st.root p2)).static=false->lim<=σ.cnt+2->StepR lim σ p1 p2 stk (.stop 0 0 7 σ')
theorem zXl{lim:Int}{σ:Sto}(h:GoodS σ){p:Nat×Nat}(hp:p.1<σ.L.length/\p.2<σ.L.length)(stk:List (Nat×Nat)):StepR lim σ p.1 p.2 stk (zXk lim p stk σ):=by
 have hw:=h.si.wf
 have hp1:p.1<σ.L.st.length:=by rw[Mem.zXR];exact hp.1
 have hp2:p.2<σ.L.st.length:=by rw[Mem.zXR];exact hp.2
 have hx':=hw.root_lt p.1 hp1
 have hy':=hw.root_lt p.2 hp2
 have hx:σ.L.st.root p.1<σ.L.length:=by rwa[Mem.zXR]at hx'
 have hy:σ.L.st.root p.2<σ.L.length:=by rwa[Mem.zXR]at hy'
 have ex:=hw.zUQ p.1
 have ey:=hw.zUQ p.2
 unfold zXk
 simp only
 split
 ·rename_i e;exact .eq e
 rename_i hne
 split
 ·rename_i e
  obtain⟨a,b⟩:=Sto.zNz h hy (lv:=0) (YAQ _)
  exact .dyn _ _ (.inl ⟨e,rfl⟩) a b rfl
 rename_i hx4
 split
 ·rename_i e
  obtain⟨a,b⟩:=Sto.zNz h hx (lv:=0) (YAQ _)
  exact .dyn _ _ (.inr ⟨e,rfl⟩) a b rfl
 rename_i hy4
 split
 ·rename_i h6
  have hb:=zDG (lim:=lim) h hx hy ex ey h6 (fun e=>hne e.symm) hy4
  generalize σ.become lim (σ.L.st.root p.1) (σ.L.st.root p.2)=q at hb
  cases hb with
  |link σ' c hs hl hc=>exact .link _ _ σ' (.inl ⟨rfl,rfl⟩) c hs hl hc
  |copy S1 m fr σ' k6 hs hh cp hl hc=>
   have e:=hl.ext cp.wf cp.can
   have e1:σ'.L.st.kids m=fr:=by rw[e.kids m (by rw[cp.len];omega)];exact cp.kids
   have e2:σ'.L.st.kids (σ.L.st.root p.2)=σ.L.st.kids (σ.L.st.root p.2):=by
    have:=cp.ext.len
    rw[e.kids _ (by omega),cp.ext.kids _ hy']
   simp only[e1,e2]
   exact .copyl S1 m fr σ' h6 k6 hs hh cp hl hc
  |loop σ' hh hg hst hc=>exact .loop _ _ σ' (.inl ⟨rfl,rfl⟩) hne h6 hh hg hst hc
  |limit σ' hs hl=>exact .limit σ' (.inr hs) hl
 rename_i h61
 split
 ·rename_i h6
  have hb:=zDG (lim:=lim) h hy hx ey ex h6 hne hx4
  generalize σ.become lim (σ.L.st.root p.2) (σ.L.st.root p.1)=q at hb
  cases hb with
  |link σ' c hs hl hc=>exact .link _ _ σ' (.inr ⟨rfl,rfl⟩) c hs hl hc
  |copy S1 m fr σ' k6 hs hh cp hl hc=>
   have e:=hl.ext cp.wf cp.can
   have e1:σ'.L.st.kids m=fr:=by rw[e.kids m (by rw[cp.len];omega)];exact cp.kids
   have e2:σ'.L.st.kids (σ.L.st.root p.1)=σ.L.st.kids (σ.L.st.root p.1):=by
    have:=cp.ext.len
    rw[e.kids _ (by omega),cp.ext.kids _ hx']
   simp only[e1,e2]
   exact .copyr S1 m fr σ' h6 k6 hs hh cp hl hc
  |loop σ' hh hg hst hc=>exact .loop _ _ σ' (.inr ⟨rfl,rfl⟩) (fun e=>hne e.symm) h6 hh hg hst hc
  |limit σ' hs hl=>exact .limit σ' (.inl hs) hl
 rename_i h62
 split
 ·rename_i hk;exact .clash hk h61 h62 hx4 hy4
 ·rename_i hk;exact .kids hne (Decidable.not_not.1 hk) h61 hx4 hy4
end
end Go.Proofs.YtdngjamjccjlmaaGreat
