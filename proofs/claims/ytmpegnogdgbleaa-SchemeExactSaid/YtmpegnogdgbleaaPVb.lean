/- Lemmas: triangular binds in plain Lean. No condition. -/
import Derived.Test.YtmpegnogdgbleaaPSb
import Derived.Test.YtmpegnogdgbleaaPCa
set_option linter.unusedSimpArgs false
set_option linter.unusedVariables false
namespace Go.Proofs.Ytmpegnogdgbleaa
open Go Go.Ab
section
theorem zsA{σ τ:Int->T}:∀t:T,putS τ (putS σ t)=putS (fun n=>putS τ (σ n)) t:=by
 intro t
 induction t<;>simp_all [putS]
theorem zr8:∀t:T,putS T.var t=t:=by
 intro t
 induction t<;>simp_all [putS]
theorem zr6{σ τ:Int->T}:∀a:T,(∀n,a.has n=true->σ n=τ n)->putS σ a=putS τ a:=by
 intro a
 induction a with
 |var n=>intro h;exact h n (by simp[T.has])
 |pair a b ih1 ih2=>intro h;simp only[putS];rw[ih1 fun n hn=>h n (by simp[T.has,hn]),ih2 fun n hn=>h n (by simp[T.has,hn])]
 |fn a b ih1 ih2=>intro h;simp only[putS];rw[ih1 fun n hn=>h n (by simp[T.has,hn]),ih2 fun n hn=>h n (by simp[T.has,hn])]
 |list a ih1=>intro h;simp only[putS];rw[ih1 fun n hn=>h n (by simp[T.has,hn])]
 |_=>intro _;rfl
theorem zr7{σ:Int->T}{m:Int}:∀a:T,(putS σ a).has m=true ↔ ∃n,a.has n=true/\(σ n).has m=true:=by
 intro a
 induction a with
 |var n=>simp[putS,T.has]
 |pair a b ih1 ih2=>
  simp only[putS,T.has,YAP,ih1,ih2]
  constructor
  ·rintro(⟨n,h1,h2⟩|⟨n,h1,h2⟩)
   ·exact⟨n,.inl h1,h2⟩
   ·exact⟨n,.inr h1,h2⟩
  ·rintro⟨n,h1|h1,h2⟩
   ·exact .inl ⟨n,h1,h2⟩
   ·exact .inr ⟨n,h1,h2⟩
 |fn a b ih1 ih2=>
  simp only[putS,T.has,YAP,ih1,ih2]
  constructor
  ·rintro(⟨n,h1,h2⟩|⟨n,h1,h2⟩)
   ·exact⟨n,.inl h1,h2⟩
   ·exact⟨n,.inr h1,h2⟩
  ·rintro⟨n,h1|h1,h2⟩
   ·exact .inl ⟨n,h1,h2⟩
   ·exact .inr ⟨n,h1,h2⟩
 |list a ih1=>simp only[putS,T.has,ih1]
 |base k=>simp[putS,T.has]
 |dyn=>simp[putS,T.has]
theorem zr9{σ:Int->T}:∀a:T,(putS σ a).stat=true ↔ a.stat=true/\∀n,a.has n=true->(σ n).stat=true:=by
 intro a
 induction a with
 |var n=>simp[putS,T.has,T.stat]
 |pair a b ih1 ih2=>
  simp only[putS,T.stat,T.has,YAA,YAP,ih1,ih2]
  constructor
  ·rintro⟨⟨h1,h2⟩,h3,h4⟩;exact⟨⟨h1,h3⟩,fun n hn=>hn.elim (h2 n) (h4 n)⟩
  ·rintro⟨⟨h1,h3⟩,h⟩;exact⟨⟨h1,fun n hn=>h n (.inl hn)⟩,h3,fun n hn=>h n (.inr hn)⟩
 |fn a b ih1 ih2=>
  simp only[putS,T.stat,T.has,YAA,YAP,ih1,ih2]
  constructor
  ·rintro⟨⟨h1,h2⟩,h3,h4⟩;exact⟨⟨h1,h3⟩,fun n hn=>hn.elim (h2 n) (h4 n)⟩
  ·rintro⟨⟨h1,h3⟩,h⟩;exact⟨⟨h1,fun n hn=>h n (.inl hn)⟩,h3,fun n hn=>h n (.inr hn)⟩
 |list a ih1=>simp only[putS,T.stat,T.has,ih1]
 |base k=>simp[putS,T.has,T.stat]
 |dyn=>simp[putS,T.has,T.stat]
def upV(v:Int)(x:T):Int->T:=fun n=>if n=v then x else .var n
theorem zs6{v:Int}{x:T}:∀t:T,t.has v=false->putS (upV v x) t=t:=by
 intro t h
 have:putS (upV v x) t=putS T.var t:=zr6 t fun n hn=>by
  unfold upV
  rw[if_neg]
  rintro rfl
  rw[hn]at h;cases h
 rw[this,zr8]
def thV:List BT->Int->T
 | []=>T.var
 |(v,a)::R=>fun n=>putS (upV v (putS (thV R) a)) (thV R n)
def WfV:List BT->Prop
 | []=>True
 |(v,a)::R=>WfV R/\zNg R v=none/\(putS (thV R) a).has v=false/\a.stat=true/\∀m,a= .var m->zNg R m=none
theorem zsi(v:Int)(a:T)(R:List BT)(t:T):putS (thV ((v,a)::R)) t=putS (upV v (putS (thV R) a)) (putS (thV R) t):=by
 rw[zsA];rfl
theorem zsl:∀ {R:List BT} {n:Int},zNg R n=none->thV R n= .var n
 | [],n,_=>rfl
 |(v,a)::R,n,h=>by
  rw[zNg]at h
  split at h
  ·cases h
  ·rename_i e
   have h1:=zsl h
   simp only[thV,h1,putS,upV]
   rw[if_neg]
   intro e2;exact e e2.symm
theorem zsj:∀ {R:List BT},WfV R->∀n,(thV R n).stat=true
 | [],_,n=>rfl
 |(v,a)::R,h,n=>by
  obtain⟨h1,h2,h3,h4,h5⟩:=h
  simp only[thV]
  refine(zr9 _).2 ⟨zsj h1 n,fun k _=> ?_⟩
  unfold upV
  split
  ·exact(zr9 _).2 ⟨h4,fun k _=>zsj h1 k⟩
  ·rfl
theorem zsg:∀ {R:List BT},WfV R->∀ {n:Int} {t:T},zNg R n=some t->thV R n=putS (thV R) t
 |(v,a)::R,h,n,t,hl=>by
  obtain⟨h1,h2,h3,h4,h5⟩:=h
  rw[zsi]
  rw[zNg]at hl
  split at hl
  ·rename_i e
   have e:v=n:=e
   subst e
   cases hl
   simp only[thV,zsl h2,putS]
   rw[zs6 _ h3]
   unfold upV;rw[if_pos rfl]
  ·simp only[thV]
   rw[zsg h1 hl]
theorem zsk{R:List BT}(h:WfV R)(t:T):(putS (thV R) t).stat=t.stat:=by
 rw[Bool.eq_iff_iff,zr9]
 exact⟨fun h=>h.1,fun hs=>⟨hs,fun n _=>zsj h n⟩⟩
def wkF(R:List BT):Nat->T->T
 |0,t=>t
 |f+1,.var n=>match zNg R n with
  |some t=>wkF R f t
  |none=> .var n
 |f+1,t=>t
def wkV(R:List BT)(t:T):T:=wkF R R.length t
def ixV:List BT->Int->Nat
 | [],_=>0
 |p::R,n=>if p.1=n then 0 else ixV R n+1
theorem zrW:∀ {R:List BT} {n:Int} {t:T},zNg R n=some t->ixV R n<R.length
 |p::R,n,t,h=>by
  rw[zNg]at h
  rw[ixV]
  split at h
  ·rename_i e;rw[if_pos e];simp
  ·rename_i e;rw[if_neg e];have:=zrW h;simp;omega
theorem zrX:∀ {R:List BT},WfV R->∀ {n m:Int},zNg R n=some (.var m)->∀ {t:T},zNg R m=some t->ixV R m<ixV R n
 |(v,a)::R,h,n,m,h1,t,h2=>by
  obtain⟨w1,w2,w3,w4,w5⟩:=h
  rw[zNg]at h1 h2
  rw[ixV,ixV]
  split at h1
  ·rename_i e
   cases h1
   have hm:=w5 m rfl
   split at h2
   ·rename_i e2
    have e:v=n:=e
    have e2:v=m:=e2
    subst e2
    simp only[putS,zsl hm,T.has]at w3
    simp at w3
   ·rw[hm]at h2;cases h2
  ·rename_i e
   rw[if_neg e]
   split at h2
   ·rename_i e2;rw[if_pos e2];omega
   ·rename_i e2;rw[if_neg e2]
    have:=zrX w1 h1 h2
    omega
def zqg(R:List BT)(t:T):Prop:=∀m,t= .var m->zNg R m=none
theorem ztI{R:List BT}(h:WfV R):∀(f:Nat) (t:T),(∀m s,t= .var m->zNg R m=some s->ixV R m<f)->putS (thV R) (wkF R f t)=putS (thV R) t/\zqg R (wkF R f t):=by
 intro f
 induction f with
 |zero=>
  intro t ht
  refine⟨rfl,fun m e=> ?_⟩
  cases hl:zNg R m with
  |none=>rfl
  |some s=>exact absurd (ht m s e hl) (Nat.not_lt_zero _)
 |succ f ih=>
  intro t ht
  cases t with
  |var n=>
   simp only[wkF]
   cases hl:zNg R n with
   |none=>exact⟨rfl,fun m e=>by cases e;exact hl⟩
   |some s=>
    simp only
    have h1:=ht n s rfl hl
    obtain⟨i1,i2⟩:=ih s fun m s' e hs=>by
     subst e
     have:=zrX h hl hs
     omega
    refine⟨?_,i2⟩
    rw[i1,<-zsg h hl];rfl
  |_=>exact⟨rfl,fun m e=>by cases e⟩
theorem ztL{R:List BT}(h:WfV R)(t:T):putS (thV R) (wkV R t)=putS (thV R) t/\zqg R (wkV R t):=
 ztI h _ t fun m s _ hs=>zrW hs
theorem ztK{R:List BT}{t:T}(h:zqg R t):∀f,wkF R f t=t:=by
 intro f
 cases f with
 |zero=>rfl
 |succ f=>
  cases t with
  |var n=>simp only[wkF,h n rfl]
  |_=>rfl
end
section
def T.hdV:T->Nat
 | .base k=>k.val
 | .dyn=>4
 | .var _=>5
 | .pair _ _=>6
 | .list _=>7
 | .fn _ _=>8
def T.kdV:T->List T
 | .pair a b=> [a,b]
 | .list a=> [a]
 | .fn a b=> [a,b]
 |_=> []
def frT(b:T)(n:Int):T:=match b with
 | .pair _ _=> .pair (.var n) (.var (n+1))
 | .list _=> .list (.var n)
 | .fn _ _=> .fn (.var n) (.var (n+1))
 |t=>t
def frN(R:List BT):Int:=4194308+2*(R.length:Int)
def sqV(g:List BT->T->T->Option (Bool×List BT)):List BT->List (T×T)->Option (Bool×List BT)
 |R,[]=>some (true,R)
 |R,(a,b)::l=>match g R a b with
  |some (true,R')=>sqV g R' l
  |r=>r
def rdW(g:List BT->T->T->Option (Bool×List BT))(R:List BT)(a b:T):Option (Bool×List BT):=match a with
 | .var v=>if(putS (thV R) b).has v=true then some (false,R)else if b.stat=true then some (true,(v,b)::R)else sqV g ((v,frT b (frN R))::R) ((frT b (frN R)).kdV.zip b.kdV)
 |a=>if a.hdV=b.hdV/\a.kdV≠[]then sqV g R (a.kdV.zip b.kdV)else some (false,R)
def rdV(g:List BT->T->T->Option (Bool×List BT))(R:List BT)(a b:T):Option (Bool×List BT):=
 if b= .dyn\/(a=b/\a.kdV=[])then some (true,R)
 else if a= .dyn then some (false,R)
 else match b with
  | .var w=>if(putS (thV R) a).has w=true\/a.stat=false then some (false,R)else some (true,(w,a)::R)
  |b=>rdW g R a b
def beV:Nat->List BT->T->T->Option (Bool×List BT)
 |0,_,_,_=>none
 |f+1,R,a,b=>rdV (beV f) R (wkV R a) (wkV R b)
def GdV(g:T):Prop:=g.stat=true/\g.closed=true
structure SolV (R:List BT) (ρ:Int->T):Prop where
 g:∀n,GdV (ρ n)
 s:∀n t,zNg R n=some t->ρ n=putS ρ t
theorem SolV.tail{v:Int}{a:T}{R:List BT}{ρ:Int->T}(h:SolV ((v,a)::R) ρ)(hv:zNg R v=none):SolV R ρ:=by
 refine⟨h.g,fun n t hl=>h.s n t ?_⟩
 rw[zNg,if_neg]
 ·exact hl
 ·rintro e
  have e:v=n:=e
  subst e;rw[hv]at hl;cases hl
theorem zsa:∀ {R:List BT},WfV R->∀ {ρ:Int->T},SolV R ρ->∀n,ρ n=putS ρ (thV R n)
 | [],_,ρ,_,n=>rfl
 |(v,a)::R,h,ρ,hs,n=>by
  obtain⟨h1,h2,h3,h4,h5⟩:=h
  have hs0:=hs.tail h2
  have ih:=zsa h1 hs0
  have hv:=hs.s v a (by rw[zNg,if_pos rfl])
  simp only[thV]
  rw[zsA]
  have:putS (fun k=>putS ρ (upV v (putS (thV R) a) k)) (thV R n)=putS ρ (thV R n):=zr6 _ fun k _=>by
   unfold upV
   split
   ·rename_i e
    rw[zsA,e,hv]
    exact zr6 _ fun j _=>(ih j).symm
   ·rfl
  rw[this];exact ih n
theorem zsZ{R:List BT}(h:WfV R){ρ:Int->T}(hs:SolV R ρ)(t:T):putS ρ (putS (thV R) t)=putS ρ t:=by
 rw[zsA]
 exact zr6 t fun n _=>(zsa h hs n).symm
theorem zsb{R:List BT}(h:WfV R){ρ:Int->T}(hs:SolV R ρ)(t:T):putS ρ (wkV R t)=putS ρ t:=by
 rw[<-zsZ h hs (wkV R t),(ztL h t).1,zsZ h hs t]
def FbV(K:Int)(t:T):Prop:=∀n,t.has n=true->n<K
def FrV(R:List BT):Prop:=∀n t,zNg R n=some t->n<frN R/\FbV (frN R) t
theorem FbV.mono{K K':Int}{t:T}(h:FbV K t)(hk:K<=K'):FbV K' t:=fun n hn=>Int.lt_of_lt_of_le (h n hn) hk
theorem zrG{R R':List BT}(h:R.length<=R'.length):frN R<=frN R':=by unfold frN;omega
theorem zrF(p:BT)(R:List BT):frN (p::R)=frN R+2:=by simp only[frN,List.length_cons];omega
theorem FrV.cons{R:List BT}(h:FrV R){v:Int}{a:T}(hv:v<frN R+2)(ha:FbV (frN R+2) a):FrV ((v,a)::R):=by
 intro n t hl
 rw[zrF]
 rw[zNg]at hl
 split at hl
 ·rename_i e
  have e:v=n:=e
  cases hl;subst e;exact⟨hv,ha⟩
 ·obtain⟨h1,h2⟩:=h n t hl
  exact⟨by omega,h2.mono (by omega)⟩
theorem ztG{R:List BT}(h:FrV R):∀(f:Nat) (t:T),FbV (frN R) t->FbV (frN R) (wkF R f t):=by
 intro f
 induction f with
 |zero=>intro t ht;exact ht
 |succ f ih=>
  intro t ht
  cases t with
  |var n=>
   simp only[wkF]
   cases hl:zNg R n with
   |none=>exact ht
   |some s=>exact ih s (h n s hl).2
  |_=>exact ht
structure OutV (R:List BT) (l:List (T×T)) (r:Bool) (R':List BT):Prop where
 wf:WfV R'
 ext:∀n t,zNg R n=some t->zNg R' n=some t
 len:R.length<=R'.length
 fr:FrV R'
 so:r=true->∀ρ,SolV R' ρ->∀p∈l,zDd (putS ρ p.1) (putS ρ p.2)=true
 co:∀ρ,SolV R ρ->(∀p∈l,zDd (putS ρ p.1) (putS ρ p.2)=true)->r=true/\∃ρ',SolV R' ρ'/\∀n,n<frN R->ρ' n=ρ n
def zqh(g:List BT->T->T->Option (Bool×List BT)):Prop:=∀R a b r R',WfV R->FrV R->FbV (frN R) a->FbV (frN R) b->g R a b=some (r,R')->OutV R [(a,b)] r R'
theorem OutV.nil{R:List BT}(h:WfV R)(hf:FrV R):OutV R [] true R:=
 ⟨h,fun _ _ h=>h,YAV _,hf,fun _ _ _ p hp=>(by cases hp),fun ρ hs _=>⟨rfl,ρ,hs,fun _ _=>rfl⟩⟩
theorem SolV.ext{R R':List BT}{ρ:Int->T}(h:SolV R' ρ)(he:∀n t,zNg R n=some t->zNg R' n=some t):SolV R ρ:=⟨h.g,fun n t hl=>h.s n t (he n t hl)⟩
theorem zsd{g:List BT->T->T->Option (Bool×List BT)}(hg:zqh g):∀(l:List (T×T)) (R:List BT) (r:Bool) (R':List BT),WfV R->FrV R->(∀p∈l,FbV (frN R) p.1/\FbV (frN R) p.2)->sqV g R l=some (r,R')->OutV R l r R':=by
 intro l
 induction l with
 |nil=>
  intro R r R' hw hf _ h
  rw[sqV]at h
  cases h
  exact .nil hw hf
 |cons p l ih=>
  obtain⟨a,b⟩:=p
  intro R r R' hw hf hb h
  obtain⟨ha,hb'⟩:=hb (a,b) YAU
  rw[sqV]at h
  cases hc:g R a b with
  |none=>rw[hc]at h;cases h
  |some q=>
   obtain⟨r1,R1⟩:=q
   rw[hc]at h
   have o1:=hg R a b r1 R1 hw hf ha hb' hc
   cases r1 with
   |false=>
    simp only at h
    cases h
    refine⟨o1.wf,o1.ext,o1.len,o1.fr,fun e=>(by cases e),fun ρ hs hp=> ?_⟩
    exact o1.co ρ hs fun q hq=>by
     simp only[List.mem_singleton]at hq
     subst hq;exact hp _ YAU
   |true=>
    simp only at h
    have hm:=zrG o1.len
    have o2:=ih R1 r R' o1.wf o1.fr (fun q hq=>⟨((hb q (YAT _ hq)).1).mono hm,((hb q (YAT _ hq)).2).mono hm⟩) h
    refine⟨o2.wf,fun n t hl=>o2.ext n t (o1.ext n t hl),Nat.le_trans o1.len o2.len,o2.fr,fun e ρ hs q hq=> ?_,fun ρ hs hp=> ?_⟩
    ·rcases List.mem_cons.1 hq with rfl|hq
     ·exact o1.so rfl ρ (hs.ext o2.ext) _ YAU
     ·exact o2.so e ρ hs q hq
    ·obtain⟨-,ρ1,s1,a1⟩:=o1.co ρ hs fun q hq=>by
      simp only[List.mem_singleton]at hq
      subst hq;exact hp _ YAU
     obtain⟨e2,ρ2,s2,a2⟩:=o2.co ρ1 s1 fun q hq=>by
      obtain⟨f1,f2⟩:=hb q (YAT _ hq)
      rw[zr6 q.1 fun n hn=>a1 n (f1 n hn),zr6 q.2 fun n hn=>a1 n (f2 n hn)]
      exact hp q (YAT _ hq)
     exact⟨e2,ρ2,s2,fun n hn=>by rw[a2 n (by omega),a1 n hn]⟩
end
section
theorem zqy(a:T):zDd a .dyn=true:=by cases a<;>rfl
theorem zq1:∀a:T,zDd a a=true:=by
 intro a
 induction a<;>simp_all [zDd]
theorem zq3:∀y x:T,y.stat=true->zDd x y=true->x=y:=by
 intro y
 induction y with
 |base k=>intro x _ h;cases x<;>simp_all [zDd]
 |dyn=>intro x h;cases h
 |var n=>intro x _ h;cases x<;>simp_all [zDd]
 |pair a b ih1 ih2=>
  intro x hs h
  simp only[T.stat,YAA]at hs
  cases x with
  |pair c d=>simp only[zDd,YAA]at h;rw[ih1 c hs.1 h.1,ih2 d hs.2 h.2]
  |_=>simp[zDd]at h
 |fn a b ih1 ih2=>
  intro x hs h
  simp only[T.stat,YAA]at hs
  cases x with
  |fn c d=>simp only[zDd,YAA]at h;rw[ih1 c hs.1 h.1,ih2 d hs.2 h.2]
  |_=>simp[zDd]at h
 |list a ih1=>
  intro x hs h
  simp only[T.stat]at hs
  cases x with
  |list c=>simp only[zDd]at h;rw[ih1 c hs h]
  |_=>simp[zDd]at h
theorem zsX(t:T):0<t.size:=by cases t<;>simp[T.size]
theorem zq2:∀y x:T,zDd x y=true->y.size<=x.size:=by
 intro y
 induction y with
 |base k=>intro x _;have:=zsX x;simp only[T.size];omega
 |dyn=>intro x _;have:=zsX x;simp only[T.size];omega
 |var n=>intro x _;have:=zsX x;simp only[T.size];omega
 |pair a b ih1 ih2=>
  intro x h
  cases x with
  |pair c d=>simp only[zDd,YAA]at h;have:=ih1 c h.1;have:=ih2 d h.2;simp only[T.size];omega
  |_=>simp[zDd]at h
 |fn a b ih1 ih2=>
  intro x h
  cases x with
  |fn c d=>simp only[zDd,YAA]at h;have:=ih1 c h.1;have:=ih2 d h.2;simp only[T.size];omega
  |_=>simp[zDd]at h
 |list a ih1=>
  intro x h
  cases x with
  |list c=>simp only[zDd]at h;have:=ih1 c h;simp only[T.size];omega
  |_=>simp[zDd]at h
theorem zrP{ρ:Int->T}{w:Int}:∀t:T,t.has w=true->(ρ w).size<=(putS ρ t).size:=by
 intro t
 induction t with
 | var n => intro h;have:n=w:=by simpa [T.has]using h
            subst this;exact YAV _
 |pair a b ih1 ih2=>intro h;simp only[T.has,YAP]at h;simp only[putS,T.size];rcases h with h|h;have:=ih1 h;omega;have:=ih2 h;omega
 |fn a b ih1 ih2=>intro h;simp only[T.has,YAP]at h;simp only[putS,T.size];rcases h with h|h;have:=ih1 h;omega;have:=ih2 h;omega
 |list a ih1=>intro h;simp only[T.has]at h;simp only[putS,T.size];have:=ih1 h;omega
 |base k=>intro h;simp[T.has]at h
 |dyn=>intro h;simp[T.has]at h
theorem zrQ{ρ:Int->T}{w:Int}{t:T}(h:t.has w=true)(hn:t≠ .var w):(ρ w).size<(putS ρ t).size:=by
 cases t with
 | var n => exact absurd (by have:n=w:=by simpa [T.has]using h
                             rw[this]) hn
 |pair a b=>simp only[T.has,YAP]at h;simp only[putS,T.size];rcases h with h|h;have:=zrP (ρ:=ρ) a h;omega;have:=zrP (ρ:=ρ) b h;omega
 |fn a b=>simp only[T.has,YAP]at h;simp only[putS,T.size];rcases h with h|h;have:=zrP (ρ:=ρ) a h;omega;have:=zrP (ρ:=ρ) b h;omega
 |list a=>simp only[T.has]at h;simp only[putS,T.size];have:=zrP (ρ:=ρ) a h;omega
 |base k=>simp[T.has]at h
 |dyn=>simp[T.has]at h
theorem zqz{ρ:Int->T}:∀ {a b:T},a.hdV=b.hdV->a.kdV≠[]->(zDd (putS ρ a) (putS ρ b)=true ↔ ∀p∈a.kdV.zip b.kdV,zDd (putS ρ p.1) (putS ρ p.2)=true):=by
 intro a b h hk
 cases a<;>cases b<;>simp_all [T.hdV,T.kdV,putS,zDd]
 all_goals (first|omega|skip)
theorem zq0{ρ:Int->T}{a b:T}(ha:a.hdV≠4)(ha':a.hdV≠5)(hb:b.hdV≠4)(hb':b.hdV≠5)(h:¬(a.hdV=b.hdV/\a.kdV≠[]))(hne:¬(a=b/\a.kdV=[])):zDd (putS ρ a) (putS ρ b)=false:=by
 cases a<;>cases b<;>simp_all [T.hdV,T.kdV,putS,zDd]
theorem zrK(b:T)(n:Int)(h:b.stat=true\/b.kdV≠[]):(frT b n).stat=true:=by
 cases b<;>simp_all [frT,T.stat,T.kdV]
theorem zrH{b:T}{n m:Int}(hk:b.kdV≠[])(h:(frT b n).has m=true):n<=m/\m<n+2:=by
 cases b<;>simp_all [frT,T.has,T.kdV]<;>omega
theorem zrI(b:T)(n:Int):(frT b n).hdV=b.hdV:=by cases b<;>rfl
theorem zrJ(b:T)(n:Int)(h:b.kdV≠[]):(frT b n).kdV≠[]:=by cases b<;>simp_all [frT,T.kdV]
end
section
theorem OutV.no{R:List BT}{a b:T}(hw:WfV R)(hf:FrV R)(h:∀ρ,SolV R ρ->zDd (putS ρ a) (putS ρ b)=false):OutV R [(a,b)] false R:=
 ⟨hw,fun _ _ h=>h,YAV _,hf,fun e=>(by cases e),fun ρ hs hp=>by
  have:=hp (a,b) YAU
  rw[h ρ hs]at this;cases this⟩
theorem OutV.yes{R:List BT}{a b:T}(hw:WfV R)(hf:FrV R)(h:∀ρ,zDd (putS ρ a) (putS ρ b)=true):OutV R [(a,b)] true R:=
 ⟨hw,fun _ _ h=>h,YAV _,hf,fun _ ρ _ p hp=>by simp only[List.mem_singleton]at hp;subst hp;exact h ρ,fun ρ hs _=>⟨rfl,ρ,hs,fun _ _=>rfl⟩⟩
theorem OutV.bind{R:List BT}{v:Int}{x a b:T}(hw:WfV R)(hf:FrV R)(hv:zNg R v=none)(hh:(putS (thV R) x).has v=false)(hs:x.stat=true)(hx:∀m,x= .var m->zNg R m=none)(hv2:v<frN R)(hb:FbV (frN R) x)
 (h1:∀ρ,ρ v=putS ρ x->zDd (putS ρ a) (putS ρ b)=true) (h2:∀ρ,SolV R ρ->zDd (putS ρ a) (putS ρ b)=true->ρ v=putS ρ x):OutV R [(a,b)] true ((v,x)::R):=by
 have hne:∀n t,zNg R n=some t->¬v=n:=fun n t hl e=>by subst e;rw[hv]at hl;cases hl
 refine⟨⟨hw,hv,hh,hs,hx⟩,fun n t hl=>by rw[zNg,if_neg (hne n t hl)];exact hl,by simp,hf.cons (by omega) (hb.mono (by omega)),fun _ ρ hρ p hp=> ?_,fun ρ hρ hp=>⟨rfl,ρ,⟨hρ.g,fun n t hl=> ?_⟩,fun _ _=>rfl⟩⟩
 ·simp only[List.mem_singleton]at hp;subst hp
  exact h1 ρ (hρ.s v x (by rw[zNg,if_pos rfl]))
 ·rw[zNg]at hl
  split at hl
  ·rename_i e
   have e:v=n:=e
   cases hl;subst e
   exact h2 ρ hρ (hp (a,b) YAU)
  ·exact hρ.s n t hl
theorem zsh{R:List BT}(hf:FrV R){n:Int}(hn:frN R<=n):zNg R n=none:=by
 cases h:zNg R n with
 |none=>rfl
 |some t=>have:=(hf n t h).1;omega
theorem zrM{x:T}{ρ:Int->T}{b:T}(hg:GdV x)(hb:b.hdV≠4/\b.hdV≠5)(hk:b.kdV≠[])(n0:Int)(h:zDd x (putS ρ b)=true):
 ∃p q,GdV p/\GdV q/\∀ρ':Int->T,ρ' n0=p->ρ' (n0+1)=q->putS ρ' (frT b n0)=x:=by
 obtain⟨g1,g2⟩:=hg
 cases b with
 |pair c d=>
  simp only[putS]at h
  cases x with
  |pair p q=>
   simp only[T.stat,T.closed,YAA]at g1 g2
   exact⟨p,q,⟨g1.1,g2.1⟩,⟨g1.2,g2.2⟩,fun ρ' e1 e2=>by simp only[frT,putS,e1,e2]⟩
  |_=>simp[zDd]at h
 |fn c d=>
  simp only[putS]at h
  cases x with
  |fn p q=>
   simp only[T.stat,T.closed,YAA]at g1 g2
   exact⟨p,q,⟨g1.1,g2.1⟩,⟨g1.2,g2.2⟩,fun ρ' e1 e2=>by simp only[frT,putS,e1,e2]⟩
  |_=>simp[zDd]at h
 |list c=>
  simp only[putS]at h
  cases x with
  |list p=>
   simp only[T.stat,T.closed]at g1 g2
   exact⟨p,.base 0,⟨g1,g2⟩,⟨rfl,rfl⟩,fun ρ' e1 e2=>by simp only[frT,putS,e1]⟩
  |_=>simp[zDd]at h
 |base k=>simp[T.kdV]at hk
 |dyn=>simp[T.kdV]at hk
 |var m=>simp[T.kdV]at hk
theorem zrZ{a x:T}{n:Int}(h:x∈a.kdV)(hn:x.has n=true):a.has n=true:=by
 cases a<;>simp_all [T.kdV,T.has]<;>rcases h with rfl|rfl<;>simp_all
theorem ztO{K:Int}{a b:T}(ha:FbV K a)(hb:FbV K b):∀p∈a.kdV.zip b.kdV,FbV K p.1/\FbV K p.2:=by
 rintro⟨x,y⟩ hp
 have:=List.of_mem_zip hp
 exact⟨fun n hn=>ha n (zrZ this.1 hn),fun n hn=>hb n (zrZ this.2 hn)⟩
theorem zsF{g:List BT->T->T->Option (Bool×List BT)}(hg:zqh g){R:List BT}{a b:T}{r:Bool}{R':List BT}(hw:WfV R)(hf:FrV R)(ha:FbV (frN R) a)(hb:FbV (frN R) b)(ea:zqg R a)(b4:b.hdV≠4)(b5:b.hdV≠5)(a4:a.hdV≠4)(hne:¬(a=b/\a.kdV=[]))(h:rdW g R a b=some (r,R')):OutV R [(a,b)] r R':=by
 by_cases a5:a.hdV=5
 ·obtain⟨v,rfl⟩:∃v,a= .var v:=by cases a<;>simp_all [T.hdV];rename_i k;have:=k.isLt;omega
  have hv:v<frN R:=ha v (by simp[T.has])
  have hun:=ea v rfl
  simp only[rdW]at h
  have hbv:b≠ .var v:=by rintro rfl;exact b5 rfl
  have hthb:∀ρ,SolV R ρ->putS ρ (putS (thV R) b)=putS ρ b:=fun ρ hs=>zsZ hw hs b
  have hthn:putS (thV R) b≠ .var v:=by
   cases b<;>simp_all [T.hdV,putS]
  split at h
  ·rename_i hh
   cases h
   refine .no hw hf fun ρ hs=> ?_
   have h1:=zrQ (ρ:=ρ) hh hthn
   rw[hthb ρ hs]at h1
   cases hc:zDd (putS ρ (.var v)) (putS ρ b)with
   |false=>rfl
   |true=>have:=zq2 _ _ hc;simp only[putS]at this;omega
  ·rename_i hh
   have hh:(putS (thV R) b).has v=false:=by simpa using hh
   split at h
   ·rename_i hst
    cases h
    refine .bind hw hf hun hh hst (fun m e=>by subst e;exact absurd rfl b5) hv hb (fun ρ e=> ?_) (fun ρ hs hc=> ?_)
    ·simp only[putS];rw[e];exact zq1 _
    ·have h1:(putS ρ b).stat=true:=(zr9 b).2 ⟨hst,fun n _=>(hs.g n).1⟩
     exact zq3 _ _ h1 hc
   ·rename_i hst
    have hst:b.stat=false:=by simpa using hst
    have hk:b.kdV≠[]:=by
     cases b<;>simp_all [T.hdV,T.kdV,T.stat]
    have hun0:∀m,(frT b (frN R)).has m=true->zNg R m=none:=fun m hm=>zsh hf (zrH hk hm).1
    have hth:putS (thV R) (frT b (frN R))=frT b (frN R):=by
     have:putS (thV R) (frT b (frN R))=putS T.var (frT b (frN R)):=zr6 _ fun m hm=>zsl (hun0 m hm)
     rw[this,zr8]
    have hnv:∀m,frT b (frN R)≠ .var m:=fun m e=>by
     have:=zrJ b (frN R) hk;rw[e]at this;exact this rfl
    have hw1:WfV ((v,frT b (frN R))::R):=by
     refine⟨hw,hun,?_,zrK b _ (.inr hk),fun m e=>absurd e (hnv m)⟩
     rw[hth]
     cases hc:(frT b (frN R)).has v with
     |false=>rfl
     |true=>have:=(zrH hk hc).1;omega
    have hft:FbV (frN R+2) (frT b (frN R)):=fun m hm=>(zrH hk hm).2
    have hf1:FrV ((v,frT b (frN R))::R):=hf.cons (by omega) hft
    have eN:=zrF (v,frT b (frN R)) R
    have o:=zsd hg _ _ _ _ hw1 hf1 (ztO (by rw[eN];exact hft) (by rw[eN];exact hb.mono (by omega))) h
    have hne2:∀n t,zNg R n=some t->¬v=n:=fun n t hl e=>by subst e;rw[hun]at hl;cases hl
    have hlk:zNg ((v,frT b (frN R))::R) v=some (frT b (frN R)):=by rw[zNg,if_pos rfl]
    have hext:∀n t,zNg R n=some t->zNg ((v,frT b (frN R))::R) n=some t:=fun n t hl=>by rw[zNg,if_neg (hne2 n t hl)];exact hl
    refine⟨o.wf,fun n t hl=>o.ext n t (hext n t hl),Nat.le_trans (by simp) o.len,o.fr,fun e ρ hs p hp=> ?_,fun ρ hs hp=> ?_⟩
    ·simp only[List.mem_singleton]at hp;subst hp
     have hρv:=hs.s v _ (o.ext _ _ hlk)
     simp only[putS]
     rw[hρv]
     exact(zqz (zrI b _) (zrJ b _ hk)).2 (o.so e ρ hs)
    ·have hc:=hp (.var v,b) YAU
     simp only[putS]at hc
     obtain⟨p,q,gp,gq,hfr⟩:=zrM (hs.g v) ⟨b4,b5⟩ hk (frN R) hc
     have e1:∀n,n<frN R->(if n=frN R then p else if n=frN R+1 then q else ρ n)=ρ n:=fun n hn=>by rw[if_neg (by omega),if_neg (by omega)]
     have hx:=hfr (fun n=>if n=frN R then p else if n=frN R+1 then q else ρ n) (if_pos rfl) (by rw[if_neg (by omega),if_pos rfl])
     have s1:SolV ((v,frT b (frN R))::R) (fun n=>if n=frN R then p else if n=frN R+1 then q else ρ n):=by
      refine⟨fun n=> ?_,fun n t hl=> ?_⟩
      ·split
       ·exact gp
       ·split
        ·exact gq
        ·exact hs.g n
      ·rw[zNg]at hl
       split at hl
       ·rename_i e
        have e:v=n:=e
        cases hl;subst e
        rw[hx];exact e1 v hv
       ·obtain⟨f1,f2⟩:=hf n t hl
        rw[zr6 t (τ:=ρ) fun m hm=>e1 m (f2 m hm)]
        rw[e1 n f1];exact hs.s n t hl
     obtain⟨er,ρ2,s2,a2⟩:=o.co _ s1 ((zqz (zrI b _) (zrJ b _ hk)).1 (by
      rw[hx,zr6 b (τ:=ρ) fun m hm=>e1 m (hb m hm)];exact hc))
     exact⟨er,ρ2,s2,fun n hn=>by rw[a2 n (by rw[eN];omega)];exact e1 n hn⟩
 ·have h':(if a.hdV=b.hdV/\a.kdV≠[]then sqV g R (a.kdV.zip b.kdV)else some (false,R))=some (r,R'):=by
   cases a<;>first|exact h|exact absurd rfl a5
  split at h'
  ·rename_i hh
   have o:=zsd hg _ _ _ _ hw hf (ztO ha hb) h'
   refine⟨o.wf,o.ext,o.len,o.fr,fun e ρ hs p hp=> ?_,fun ρ hs hp=> ?_⟩
   ·simp only[List.mem_singleton]at hp;subst hp
    exact(zqz hh.1 hh.2).2 (o.so e ρ hs)
   ·exact o.co ρ hs ((zqz hh.1 hh.2).1 (hp (a,b) YAU))
  ·rename_i hh
   cases h'
   exact .no hw hf fun ρ _=>zq0 a4 a5 b4 b5 hh hne
theorem zrR{a:T}:a.hdV=4 ↔ a= .dyn:=by
 cases a<;>simp[T.hdV]
 rename_i k;have:=k.isLt;omega
theorem zrS{a:T}:a.hdV=5 ↔ ∃v,a= .var v:=by
 cases a<;>simp[T.hdV]
 rename_i k;have:=k.isLt;omega
theorem zsE{g:List BT->T->T->Option (Bool×List BT)}(hg:zqh g){R:List BT}{a b:T}{r:Bool}{R':List BT}(hw:WfV R)(hf:FrV R)(ha:FbV (frN R) a)(hb:FbV (frN R) b)(ea:zqg R a)(eb:zqg R b)(h:rdV g R a b=some (r,R')):OutV R [(a,b)] r R':=by
 unfold rdV at h
 by_cases h1:b= .dyn\/(a=b/\a.kdV=[])
 ·rw[if_pos h1]at h
  cases h
  refine .yes hw hf fun ρ=> ?_
  rcases h1 with rfl|⟨rfl,_⟩
  ·exact zqy _
  ·exact zq1 _
 rw[if_neg h1]at h
 have hb4:b≠ .dyn:=fun e=>h1 (.inl e)
 have hne:¬(a=b/\a.kdV=[]):=fun e=>h1 (.inr e)
 by_cases h2:a= .dyn
 ·rw[if_pos h2]at h
  cases h
  subst h2
  refine .no hw hf fun ρ hs=> ?_
  cases b with
  |dyn=>exact absurd rfl hb4
  |var w=>
   cases hc:zDd (putS ρ .dyn) (putS ρ (.var w))with
   |false=>rfl
   |true=>
    have:=zq3 _ _ (hs.g w).1 hc
    have h3:=(hs.g w).1
    rw[<-this]at h3;cases h3
  |_=>rfl
 rw[if_neg h2]at h
 by_cases h5:b.hdV=5
 ·obtain⟨w,rfl⟩:=zrS.1 h5
  have hw2:w<frN R:=hb w (by simp[T.has])
  have haw:putS (thV R) a≠ .var w:=by
   cases a with
   |var m=>
    simp only[putS,zsl (ea m rfl)]
    intro e
    exact hne ⟨e,rfl⟩
   |_=>simp[putS]
  have h:(if(putS (thV R) a).has w=true\/a.stat=false then some (false,R)else some (true,(w,a)::R))=some (r,R'):=h
  split at h
  ·rename_i hh
   cases h
   refine .no hw hf fun ρ hs=> ?_
   cases hc:zDd (putS ρ a) (putS ρ (.var w))with
   |false=>rfl
   |true=>
    have e:=zq3 _ _ (hs.g w).1 hc
    rcases hh with hh|hh
    ·have h3:=zrQ (ρ:=ρ) hh haw
     rw[zsZ hw hs]at h3
     rw[e]at h3
     have h4:(putS ρ (.var w)).size=(ρ w).size:=rfl
     omega
    ·have h3:=(hs.g w).1
     have e:putS ρ a=ρ w:=e
     rw[<-e]at h3
     have:=((zr9 a).1 h3).1
     rw[hh]at this;cases this
  ·rename_i hh
   cases h
   rw[not_or]at hh
   refine .bind hw hf (eb w rfl) (by simpa using hh.1) (by simpa using hh.2) (fun m e=>ea m e) hw2 ha (fun ρ e=> ?_) (fun ρ hs hc=> ?_)
   ·show zDd (putS ρ a) (ρ w)=true
    rw[e];exact zq1 _
   ·have:=zq3 _ _ (hs.g w).1 hc
    exact this.symm
 ·have h':rdW g R a b=some (r,R'):=by
   cases b<;>first|exact h|exact absurd rfl h5
  exact zsF hg hw hf ha hb ea (fun e=>hb4 (zrR.1 e)) h5 (fun e=>h2 (zrR.1 e)) hne h'
theorem zqv:∀f,zqh (beV f):=by
 intro f
 induction f with
 |zero=>intro R a b r R' _ _ _ _ h;cases h
 |succ f ih=>
  intro R a b r R' hw hf ha hb h
  rw[beV]at h
  have o:OutV R [(wkV R a,wkV R b)] r R':=zsE ih hw hf (ztG hf _ _ ha) (ztG hf _ _ hb) (ztL hw a).2 (ztL hw b).2 h
  refine⟨o.wf,o.ext,o.len,o.fr,fun e ρ hs p hp=> ?_,fun ρ hs hp=> ?_⟩
  ·simp only[List.mem_singleton]at hp;subst hp
   have hs0:=hs.ext o.ext
   have:=o.so e ρ hs (wkV R a,wkV R b) YAU
   simp only[zsb hw hs0]at this
   exact this
  ·refine o.co ρ hs fun p hp'=> ?_
   simp only[List.mem_singleton]at hp';subst hp'
   have:=hp (a,b) YAU
   simp only[zsb hw hs]
   exact this
theorem zsY{R:List BT}(h:WfV R):SolV R (fun n=>putS (fun _=> .base 0) (thV R n)):=by
 have hg:∀t:T,t.stat=true->GdV (putS (fun _=> .base 0) t):=fun t=>by
  induction t with
  |pair a b ih1 ih2=>intro hs;simp only[T.stat,YAA]at hs;simp only[GdV,putS,T.stat,T.closed,YAA];exact⟨⟨(ih1 hs.1).1,(ih2 hs.2).1⟩,(ih1 hs.1).2,(ih2 hs.2).2⟩
  |fn a b ih1 ih2=>intro hs;simp only[T.stat,YAA]at hs;simp only[GdV,putS,T.stat,T.closed,YAA];exact⟨⟨(ih1 hs.1).1,(ih2 hs.2).1⟩,(ih1 hs.1).2,(ih2 hs.2).2⟩
  |list a ih1=>intro hs;simp only[T.stat]at hs;exact ih1 hs
  |base k=>intro _;exact⟨rfl,rfl⟩
  |var n=>intro _;exact⟨rfl,rfl⟩
  |dyn=>intro hs;cases hs
 refine⟨fun n=>hg _ (zsj h n),fun n t hl=> ?_⟩
 show putS _ (thV R n)=_
 rw[zsg h hl,zsA]
end
section
theorem zsc{g g':List BT->T->T->Option (Bool×List BT)}(h:∀R a b x,g R a b=some x->g' R a b=some x):∀(l:List (T×T)) (R:List BT) (x:Bool×List BT),sqV g R l=some x->sqV g' R l=some x:=by
 intro l
 induction l with
 |nil=>intro R x e;exact e
 |cons p l ih=>
  obtain⟨a,b⟩:=p
  intro R x e
  rw[sqV]at e⊢
  cases hc:g R a b with
  |none=>rw[hc]at e;cases e
  |some q=>
   obtain⟨r,R1⟩:=q
   rw[hc]at e
   rw[h R a b _ hc]
   cases r with
   |false=>exact e
   |true=>exact ih R1 x e
theorem zsG{g g':List BT->T->T->Option (Bool×List BT)}(h:∀R a b x,g R a b=some x->g' R a b=some x){R:List BT}{a b:T}{x:Bool×List BT}(e:rdV g R a b=some x):rdV g' R a b=some x:=by
 have hW:∀b,rdW g R a b=some x->rdW g' R a b=some x:=fun b e=>by
  unfold rdW at e⊢
  split at e
  ·split at e
   ·rename_i h1;rw[if_pos h1];exact e
   ·rename_i h1
    rw[if_neg h1]
    split at e
    ·rename_i h2;rw[if_pos h2];exact e
    ·rename_i h2;rw[if_neg h2];exact zsc h _ _ _ e
  ·split at e
   ·rename_i h1;rw[if_pos h1];exact zsc h _ _ _ e
   ·rename_i h1;rw[if_neg h1];exact e
 unfold rdV at e⊢
 split at e
 ·rename_i h1;rw[if_pos h1];exact e
 ·rename_i h1
  rw[if_neg h1]
  split at e
  ·rename_i h2;rw[if_pos h2];exact e
  ·rename_i h2
   rw[if_neg h2]
   cases b with
   |var w=>exact e
   |_=>exact hW _ e
theorem zqx:∀(f:Nat) (R:List BT) (a b:T) (x:Bool×List BT),beV f R a b=some x->beV (f+1) R a b=some x:=by
 intro f
 induction f with
 |zero=>intro R a b x h;cases h
 |succ f ih=>intro R a b x h;rw[beV]at h⊢;exact zsG (ih) h
theorem zqw{f f':Nat}(h:f<=f'){R:List BT}{a b:T}{x:Bool×List BT}(e:beV f R a b=some x):beV f' R a b=some x:=by
 induction h with
 |refl=>exact e
 |step _ ih=>exact zqx _ _ _ _ _ ih
def T.dV:T->Nat
 | .dyn=>1
 | .pair a b=>if a.dV+b.dV=0 then 0 else a.dV+b.dV+1
 | .fn a b=>if a.dV+b.dV=0 then 0 else a.dV+b.dV+1
 | .list a=>if a.dV=0 then 0 else a.dV+1
 |_=>0
theorem zrB:∀a:T,a.dV=0 ↔ a.stat=true:=by
 intro a
 induction a with
 |pair a b ih1 ih2=>simp only[T.dV,T.stat,YAA,<-ih1,<-ih2];split<;>omega
 |fn a b ih1 ih2=>simp only[T.dV,T.stat,YAA,<-ih1,<-ih2];split<;>omega
 |list a ih1=>simp only[T.dV,T.stat,<-ih1];split<;>omega
 |_=>simp[T.dV,T.stat]
theorem ztF{R:List BT}(h:WfV R):∀(f:Nat) (t:T),(wkF R f t).dV=t.dV:=by
 have hst:∀ {R:List BT},WfV R->∀ {n:Int} {t:T},zNg R n=some t->t.stat=true:=by
  intro R
  induction R with
  |nil=>intro _ n t hl;cases hl
  |cons p R ih=>
   obtain⟨v,a⟩:=p
   intro hw n t hl
   rw[zNg]at hl
   split at hl
   ·cases hl;exact hw.2.2.2.1
   ·exact ih hw.1 hl
 intro f
 induction f with
 |zero=>intro t;rfl
 |succ f ih=>
  intro t
  cases t with
  |var n=>
   simp only[wkF]
   cases hl:zNg R n with
   |none=>rfl
   |some s=>simp only;rw[ih s,(zrB s).2 (hst h hl)];rfl
  |_=>rfl
def SvV(S:List Int)(t:T):Prop:=∀n,t.has n=true->n∈S
def SrV(S:List Int)(R:List BT):Prop:=∀n t,zNg R n=some t->n∈S/\SvV S t
theorem ztJ{S:List Int}{R:List BT}(h:SrV S R):∀(f:Nat) (t:T),SvV S t->SvV S (wkF R f t):=by
 intro f
 induction f with
 |zero=>intro t ht;exact ht
 |succ f ih=>
  intro t ht
  cases t with
  |var n=>
   simp only[wkF]
   cases hl:zNg R n with
   |none=>exact ht
   |some s=>exact ih s (h n s hl).2
  |_=>exact ht
theorem zrn:∀ {R:List BT} {n:Int},n∈R.map Prod.fst->∃t,zNg R n=some t
 |p::R,n,h=>by
  rw[zNg]
  by_cases e:p.1=n
  ·rw[if_pos e];exact⟨_,rfl⟩
  ·rw[if_neg e]
   rw[List.map_cons,List.mem_cons]at h
   exact zrn (h.resolve_left fun h=>e h.symm)
theorem ztD:∀ {R:List BT},WfV R->(R.map Prod.fst).Nodup
 | [],_=>List.nodup_nil
 |(v,a)::R,h=>by
  rw[List.map_cons,List.nodup_cons]
  refine⟨fun hm=> ?_,ztD h.1⟩
  obtain⟨t,ht⟩:=zrn hm
  have:=h.2.1
  rw[ht]at this;cases this
theorem ztC{S:List Int}{R:List BT}(h:WfV R)(hs:SrV S R):R.length<=S.length:=by
 have:=(ztD h).length_le_of_subset (l₂:=S) fun n hn=>by
  obtain⟨t,ht⟩:=zrn hn
  exact(hs n t ht).1
 simpa using this
structure EndV (S:List Int) (R:List BT) (d:Nat) (S':List Int) (R':List BT):Prop where
 sr:SrV S' R'
 sub:∀n∈S,n∈S'
 le:S'.length+R.length<=S.length+R'.length+d
 z:d=0->R'=R\/S'.length+R.length<S.length+R'.length
 gr:S'.length<=S.length+2*d
theorem EndV.same{S:List Int}{R:List BT}(h:SrV S R)(d:Nat):EndV S R d S R:=⟨h,fun n hn=>hn,by omega,fun _=> .inl rfl,by omega⟩
def ClmV(k z:Nat):Prop:=∀(S:List Int) (R:List BT) (a b:T),WfV R->FrV R->SrV S R->FbV (frN R) a->FbV (frN R) b->SvV S a->SvV S b->S.length+2*b.dV<=k+R.length->(putS (thV R) a).size+(putS (thV R) b).size<=z->
 ∃f r R' S',beV f R a b=some (r,R')/\EndV S R b.dV S' R'
def dvL(l:List (T×T)):Nat:=l.foldr (fun p n=>p.2.dV+n) 0
theorem zrC(p:T×T)(l:List (T×T)):dvL (p::l)=p.2.dV+dvL l:=rfl
theorem zsV{k z:Nat}(ih:∀k' z',(k'<k\/k'=k/\z'<z)->ClmV k' z'):∀(l:List (T×T)) (S:List Int) (R:List BT),WfV R->FrV R->SrV S R->(∀p∈l,(FbV (frN R) p.1/\FbV (frN R) p.2)/\SvV S p.1/\SvV S p.2)->
 (S.length+2*dvL l<k+R.length\/S.length+2*dvL l<=k+R.length/\∀p∈l,(putS (thV R) p.1).size+(putS (thV R) p.2).size<z)->∃f r R' S',sqV (beV f) R l=some (r,R')/\EndV S R (dvL l) S' R':=by
 intro l
 induction l with
 |nil=>intro S R hw hf hs _ _;exact⟨0,true,R,S,rfl,.same hs _⟩
 |cons p l ihl=>
  obtain⟨a,b⟩:=p
  intro S R hw hf hs hl hk
  rw[zrC]at hk⊢
  simp only at hk⊢
  obtain⟨⟨ha,hb⟩,sa,sb⟩:=hl (a,b) YAU
  simp only at ha hb sa sb
  have hle:=ztC hw hs
  obtain⟨f1,r1,R1,S1,e1,E1⟩:∃f r R' S',beV f R a b=some (r,R')/\EndV S R b.dV S' R':=by
   rcases hk with hk|⟨hk,hz⟩
   ·exact ih (k-1) _ (.inl (by omega)) S R a b hw hf hs ha hb sa sb (by omega) (YAV _)
   ·exact ih k (z-1) (.inr ⟨rfl,by have:=hz (a,b) YAU;omega⟩) S R a b hw hf hs ha hb sa sb (by omega) (by have:=hz (a,b) YAU;simp only at this;omega)
  have o1:=zqv f1 R a b r1 R1 hw hf ha hb e1
  cases r1 with
  |false=>
   refine⟨f1,false,R1,S1,by rw[sqV,e1],E1.sr,E1.sub,by have:=E1.le;omega,fun h0=>E1.z (by omega),by have:=E1.gr;omega⟩
  |true=>
   have hm:=zrG o1.len
   have hl1:∀q∈l,(FbV (frN R1) q.1/\FbV (frN R1) q.2)/\SvV S1 q.1/\SvV S1 q.2:=fun q hq=>by
    obtain⟨⟨a1,a2⟩,a3,a4⟩:=hl q (YAT _ hq)
    exact⟨⟨a1.mono hm,a2.mono hm⟩,fun n hn=>E1.sub n (a3 n hn),fun n hn=>E1.sub n (a4 n hn)⟩
   have hk1:S1.length+2*dvL l<k+R1.length\/S1.length+2*dvL l<=k+R1.length/\∀p∈l,(putS (thV R1) p.1).size+(putS (thV R1) p.2).size<z:=by
    have:=E1.le
    by_cases h0:b.dV=0
    ·rcases E1.z h0 with h1|h1
     ·subst h1
      rcases hk with hk|⟨hk,hz⟩
      ·left;omega
      ·right;exact⟨by omega,fun p hp=>hz p (YAT _ hp)⟩
     ·left;omega
    ·left;omega
   obtain⟨f2,r2,R2,S2,e2,E2⟩:=ihl S1 R1 o1.wf o1.fr E1.sr hl1 hk1
   refine⟨f1+f2,r2,R2,S2,?_,E2.sr,fun n hn=>E2.sub n (E1.sub n hn),by have:=E1.le;have:=E2.le;omega,fun h0=> ?_,by have:=E1.gr;have:=E2.gr;omega⟩
   ·rw[sqV,zqw (Nat.le_add_right f1 f2) e1]
    exact zsc (fun R a b x hx=>zqw (Nat.le_add_left f2 f1) hx) _ _ _ e2
   ·have:=E1.le;have:=E2.le
    rcases E1.z (by omega)with h1|h1
    ·subst h1
     rcases E2.z (by omega)with h2|h2
     ·exact .inl h2
     ·right;omega
    ·right;omega
theorem zrD:∀ {a b:T},a.hdV=b.hdV->b.dV=(if dvL (a.kdV.zip b.kdV)=0 then(if b= .dyn then 1 else 0)else dvL (a.kdV.zip b.kdV)+1):=by
 intro a b h
 cases a<;>cases b<;>simp_all [T.hdV,T.kdV,T.dV,dvL]<;>omega
theorem zra{σ:Int->T}{a x:T}(h:x∈a.kdV):(putS σ x).size<(putS σ a).size:=by
 cases a<;>simp_all [T.kdV,putS,T.size]
 ·rcases h with rfl|rfl<;>omega
 ·rcases h with rfl|rfl<;>omega
theorem zq9{k z:Nat}(ih:∀k' z',(k'<k\/k'=k/\z'<z)->ClmV k' z'):ClmV k z:=by
 intro S R a b hw hf hs ha hb sa sb hk hz
 have hA:=ztL hw a
 have hB:=ztL hw b
 have fa:=ztG hf R.length a ha
 have fb:=ztG hf R.length b hb
 have sa':=ztJ hs R.length a sa
 have sb':=ztJ hs R.length b sb
 have hd:=ztF hw R.length b
 have hle:=ztC hw hs
 rw[<-hA.1,<-hB.1]at hz
 have eA:=hA.2
 have eB:=hB.2
 change FbV (frN R) (wkV R a)at fa
 change FbV (frN R) (wkV R b)at fb
 change SvV S (wkV R a)at sa'
 change SvV S (wkV R b)at sb'
 change (wkV R b).dV=b.dV at hd
 rw[<-hd]at hk⊢
 suffices hgoal:∃f r R' S',rdV (beV f) R (wkV R a) (wkV R b)=some (r,R')/\EndV S R (wkV R b).dV S' R' by
  obtain⟨f,r,R',S',e,E⟩:=hgoal
  exact⟨f+1,r,R',S',by rw[beV];exact e,E⟩
 clear hd ha hb sa sb hA hB
 generalize wkV R a=x at*
 generalize wkV R b=y at*
 have bind:∀ {v:Int} {t:T},zNg R v=none->v∈S->SvV S t->WfV ((v,t)::R)->∀d,EndV S R d S ((v,t)::R):=fun {v t} hv hvS ht hw1 d=>by
  have hsr:SrV S ((v,t)::R):=fun n s hl=>by
   rw[zNg]at hl
   split at hl
   ·rename_i e
    have e:v=n:=e
    cases hl;subst e;exact⟨hvS,ht⟩
   ·exact hs n s hl
  have:=ztC hw1 hsr
  simp only[List.length_cons]at this
  exact⟨hsr,fun n hn=>hn,by simp only[List.length_cons];omega,fun _=> .inr (by simp only[List.length_cons];omega),by omega⟩
 by_cases h1:y= .dyn\/(x=y/\x.kdV=[])
 ·exact⟨0,true,R,S,by unfold rdV;rw[if_pos h1],.same hs _⟩
 by_cases h2:x= .dyn
 ·exact⟨0,false,R,S,by unfold rdV;rw[if_neg h1,if_pos h2],.same hs _⟩
 by_cases h5:y.hdV=5
 ·obtain⟨w,rfl⟩:=zrS.1 h5
  by_cases hh:(putS (thV R) x).has w=true\/x.stat=false
  ·exact⟨0,false,R,S,by unfold rdV;rw[if_neg h1,if_neg h2];exact if_pos hh,.same hs _⟩
  ·refine⟨0,true,(w,x)::R,S,by unfold rdV;rw[if_neg h1,if_neg h2];exact if_neg hh,?_⟩
   rw[not_or]at hh
   exact bind (eB w rfl) (sb' w (by simp[T.has])) sa' ⟨hw,eB w rfl,by simpa using hh.1,by simpa using hh.2,fun m e=>eA m e⟩ _
 ·have hW:∀f,rdV (beV f) R x y=rdW (beV f) R x y:=fun f=>by
   unfold rdV
   rw[if_neg h1,if_neg h2]
   cases y<;>first|rfl|exact absurd rfl h5
  simp only[hW]
  by_cases a5:x.hdV=5
  ·obtain⟨v,rfl⟩:=zrS.1 a5
   have hun:=eA v rfl
   have hvS:=sa' v (by simp[T.has])
   by_cases hh:(putS (thV R) y).has v=true
   ·exact⟨0,false,R,S,by unfold rdW;exact if_pos hh,.same hs _⟩
   by_cases hst:y.stat=true
   ·refine⟨0,true,(v,y)::R,S,by unfold rdW;simp only[if_neg hh,if_pos hst],bind hun hvS sb' ⟨hw,hun,by simpa using hh,hst,fun m e=>by subst e;exact absurd rfl h5⟩ _⟩
   have hst':y.stat=false:=by simpa using hst
   have hy4:y≠ .dyn:=fun e=>h1 (.inl e)
   have hkd:y.kdV≠[]:=by
    cases y<;>simp_all [T.hdV,T.kdV,T.stat]
   have hun0:∀m,(frT y (frN R)).has m=true->zNg R m=none:=fun m hm=>zsh hf (zrH hkd hm).1
   have hth:putS (thV R) (frT y (frN R))=frT y (frN R):=by
    have:putS (thV R) (frT y (frN R))=putS T.var (frT y (frN R)):=zr6 _ fun m hm=>zsl (hun0 m hm)
    rw[this,zr8]
   have hv:v<frN R:=fa v (by simp[T.has])
   have hw1:WfV ((v,frT y (frN R))::R):=by
    refine⟨hw,hun,?_,zrK y _ (.inr hkd),fun m e=>absurd e fun e=>by have:=zrJ y (frN R) hkd;rw[e]at this;exact this rfl⟩
    rw[hth]
    cases hc:(frT y (frN R)).has v with
    |false=>rfl
    |true=>have:=(zrH hkd hc).1;omega
   have hft:FbV (frN R+2) (frT y (frN R)):=fun m hm=>(zrH hkd hm).2
   have hf1:FrV ((v,frT y (frN R))::R):=hf.cons (by omega) hft
   have eN:=zrF (v,frT y (frN R)) R
   have hts:SvV (S++ [frN R,frN R+1]) (frT y (frN R)):=fun m hm=>by
    have:=zrH hkd hm
    simp only[List.mem_append,List.mem_cons,List.not_mem_nil,or_false]
    omega
   have hs1:SrV (S++ [frN R,frN R+1]) ((v,frT y (frN R))::R):=fun n s hl=>by
    rw[zNg]at hl
    split at hl
    ·rename_i e
     have e:v=n:=e
     cases hl;subst e
     exact⟨List.mem_append_left _ hvS,hts⟩
    ·obtain⟨a1,a2⟩:=hs n s hl
     exact⟨List.mem_append_left _ a1,fun m hm=>List.mem_append_left _ (a2 m hm)⟩
   have hdz:=zrD (zrI y (frN R))
   have hd0:y.dV≠0:=fun e=>by rw[(zrB y).1 e]at hst';cases hst'
   rw[if_neg hy4]at hdz
   have hdz':y.dV=dvL ((frT y (frN R)).kdV.zip y.kdV)+1:=by
    split at hdz
    ·omega
    ·exact hdz
   obtain⟨f,r,R',S',e,E⟩:=zsV ih ((frT y (frN R)).kdV.zip y.kdV) (S++ [frN R,frN R+1]) ((v,frT y (frN R))::R) hw1 hf1 hs1 (fun p hp=>⟨ztO (by rw[eN];exact hft) (by rw[eN];exact fb.mono (by omega)) p hp,by
    obtain⟨p1,p2⟩:=p
    have:=List.of_mem_zip hp
    exact⟨fun n hn=>hts n (zrZ this.1 hn),fun n hn=>List.mem_append_left _ (sb' n (zrZ this.2 hn))⟩⟩) (.inl (by simp only[YAJ,List.length_cons,List.length_nil];omega))
   refine⟨f,r,R',S',by unfold rdW;simp only[if_neg hh,if_neg hst];exact e,E.sr,fun n hn=>E.sub n (List.mem_append_left _ hn),?_,fun h0=>absurd h0 hd0,by have:=E.gr;simp only[YAJ,List.length_cons,List.length_nil]at this;omega⟩
   have:=E.le
   simp only[YAJ,List.length_cons,List.length_nil]at this
   omega
  ·have hW2:∀f,rdW (beV f) R x y=if x.hdV=y.hdV/\x.kdV≠[]then sqV (beV f) R (x.kdV.zip y.kdV)else some (false,R):=fun f=>by
    unfold rdW
    cases x<;>first|rfl|exact absurd rfl a5
   simp only[hW2]
   by_cases hh:x.hdV=y.hdV/\x.kdV≠[]
   ·simp only[if_pos hh]
    have hdz:=zrD hh.1
    have hdz':dvL (x.kdV.zip y.kdV)<=y.dV/\(y.dV=0->dvL (x.kdV.zip y.kdV)=0):=by
     split at hdz<;>omega
    obtain⟨f,r,R',S',e,E⟩:=zsV ih (x.kdV.zip y.kdV) S R hw hf hs (fun p hp=>⟨ztO fa fb p hp,by
     obtain⟨p1,p2⟩:=p
     have:=List.of_mem_zip hp
     exact⟨fun n hn=>sa' n (zrZ this.1 hn),fun n hn=>sb' n (zrZ this.2 hn)⟩⟩) (.inr ⟨by omega,fun p hp=>by
     obtain⟨p1,p2⟩:=p
     have:=List.of_mem_zip hp
     have h3:=zra (σ:=thV R) this.1
     have h4:=zra (σ:=thV R) this.2
     simp only;omega⟩)
    exact⟨f,r,R',S',e,E.sr,E.sub,by have:=E.le;omega,fun h0=>E.z (hdz'.2 h0),by have:=E.gr;omega⟩
   ·exact⟨0,false,R,S,if_neg hh,.same hs _⟩
theorem zq8:∀k z,ClmV k z:=by
 intro k
 induction k using Nat.strongRecOn with
 |_ k ihk=>
  intro z
  induction z using Nat.strongRecOn with
  |_ z ihz=>
   refine zq9 fun k' z' h=> ?_
   rcases h with h|⟨rfl,h⟩
   ·exact ihk k' h z'
   ·exact ihz z' h
theorem zqu(a b:T)(ha:FbV 4194308 a)(hb:FbV 4194308 b):∃f r R',beV f [] a b=some (r,R')/\R'.length<=(a.zaU (b.zaU [])).length+2*b.dV:=by
 have e:frN []=4194308:=rfl
 obtain⟨f,r,R',S',e1,E⟩:=zq8 _ _ (a.zaU (b.zaU [])) [] a b trivial (fun n t h=>by cases h) (fun n t h=>by cases h) (by rw[e];exact ha) (by rw[e];exact hb) (fun n hn=>(zPL a _ n).2 (.inr hn)) (fun n hn=>(zPL a _ n).2 (.inl ((zPL b _ n).2 (.inr hn)))) (Nat.le_add_right _ _) (YAV _)
 have o:=zqv f [] a b r R' trivial (fun n t h=>by cases h) (by rw[e];exact ha) (by rw[e];exact hb) e1
 exact⟨f,r,R',e1,by have:=ztC o.wf E.sr;have:=E.gr;omega⟩
end
end Go.Proofs.Ytmpegnogdgbleaa
