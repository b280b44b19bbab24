/- A type with variables made in both stores alike, whatever the limit is, its variables linked or not. No condition. -/
import Derived.Test.YtdngjamjccjlmaaR18
import Derived.Test.YtdngjamjccjlmaaR17
set_option linter.unusedSimpArgs false
set_option linter.unusedVariables false
set_option maxHeartbeats 4000000
set_option maxRecDepth 100000
namespace Go.Proofs.Ytdngjamjccjlmaa
open Go Go.Ab
def VJ(S:St)(Z:List (Int×Int)):Prop:=∀k n,mget Z k=some n->∃m:Nat,n=m/\m<S.length/\S.kind m=6
theorem VJ.ext{S S':St}{Z:List (Int×Int)}(h:VJ S Z)(hx:Ext S S'):VJ S' Z:=fun k n e=>by
 obtain⟨m,h1,h2,h3⟩:=h k n e
 exact⟨m,h1,YAW h2 hx.len,by rw[hx.kind m h2];exact h3⟩
def MkS.sto(x:MkS)(rd:Int):Sto:=⟨x.L,x.v,x.cnt,rd⟩
structure MkOut (lim rd:Int) (t:T) (x y:MkS) (n:Nat) (e:Int):Prop where
 bad:e=0\/(e=7/\n=0)
 good:GoodS (y.sto rd)
 stv:StV y.L.st
 ext:Ext x.L.st y.L.st
 vj:VJ y.L.st y.Z
 lt:e=0->n<y.L.length
 wd:e=0->(y.L.st.tT n).wD<=t.size
 lenB:y.L.length<=x.L.length+t.size
 cntA:x.cnt<=y.cnt
 cntB:y.cnt<=x.cnt+t.size
 lm:y.cnt<=lim
theorem MkOut.lenA{lim rd:Int}{t:T}{x y:MkS}{n:Nat}{e:Int}(h:MkOut lim rd t x y n e):x.L.length<=y.L.length:=by
 have:=h.ext.len;rwa[Mem.zXR,Mem.zXR]at this
def MkP(s r m s2 r2 m2:Nat)(lim rd lvl:Int)(t:T):Prop:=
 ∀x:MkS,GoodS (x.sto rd)->StV x.L.st->VJ x.L.st x.Z->x.L.length+t.size<=900000->0<=x.cnt->x.cnt<=lim->x.cnt+t.size<=900000->
  ∃(y:MkS) (n:Nat) (e:Int),zdq s r m lim rd lvl t.ty x y n e/\zdr s2 r2 m2 lim lvl t.ty x y n e/\MkOut lim rd t x y n e
section
variable {s r m s2 r2 m2 : Nat} {lim rd lvl : Int}
theorem MkOut.stay{t:T}{x:MkS}{n:Nat}{e:Int}(hg:GoodS (x.sto rd))(hs:StV x.L.st)(hv:VJ x.L.st x.Z)(hc:x.cnt<=lim)(hok:e=0->n<x.L.length/\(x.L.st.tT n).wD<=t.size)(hb:e=0\/(e=7/\n=0)):MkOut lim rd t x x n e:=
 ⟨hb,hg,hs,.refl hg.si.wf,hv,fun h=>(hok h).1,fun h=>(hok h).2,Nat.le_add_right _ _,YAQ _,by omega,hc⟩
theorem MkOut.node{t:T}{x z:MkS}{k:Int}{ks:List Nat}(hg:GoodS (z.sto rd))(hs:StV z.L.st)(hv:VJ z.L.st z.Z)(hx:Ext x.L.st z.L.st)(hk:(k=7\/k=9)/\ks.length=2\/k=8/\ks.length=1)(hks:∀a∈ks,a<z.L.length)
 (hw:(ks.map fun a=>(z.L.st.tT a).wD).sum+1<=t.size) (hl:z.L.length+1<=x.L.length+t.size) (c1:x.cnt<=z.cnt) (c2:z.cnt+1<=x.cnt+t.size) (c3:z.cnt<lim):
 MkOut lim rd t x (z.out ⟨k,0,none,ks⟩) z.L.length 0:=by
 have g:GoodS ((z.out ⟨k,0,none,ks⟩).sto rd):=hg.mk' hk hks
 have e:(z.out ⟨k,0,none,ks⟩).L.st=z.L.st++ [⟨k,0,none,ks⟩]:=by rw[MkS.out,Mem.zXM]
 have hwf:Wf (z.L.st++ [⟨k,0,none,ks⟩]):=by have:=g.si.wf;rwa[show((z.out ⟨k,0,none,ks⟩).sto rd).L.st=_ from e]at this
 have hk6:k≠6:=by rcases hk with ⟨h|h,_⟩|⟨h,_⟩<;>omega
 have x1:Ext z.L.st (z.L.st++ [⟨k,0,none,ks⟩]):=Ext.add hwf
 have s1:StV (z.L.st++ [⟨k,0,none,ks⟩]):=hs.node hg.si.wf hwf rfl hk6
 have wk:∀a,a<z.L.length->(St.tT (z.L.st++ [⟨k,0,none,ks⟩]) a).wD=(z.L.st.tT a).wD:=fun a ha=>x1.wD hg.si.wf s1 (by rw[Mem.zXR];exact ha)
 have hn:z.L.length<(z.L.st++ [(⟨k,0,none,ks⟩:Nd)]).length:=by rw[YAJ,Mem.zXR];simp
 have hr:St.root (z.L.st++ [⟨k,0,none,ks⟩]) z.L.length=z.L.length:=by rw[<-Mem.zXR];exact zUN rfl
 have hkd:St.kids (z.L.st++ [⟨k,0,none,ks⟩]) z.L.length=ks:=by rw[<-Mem.zXR,St.kids,St.zPw]
 refine⟨.inl rfl,g,by rw[e];exact s1,by rw[e];exact hx.trans x1,by rw[e];exact hv.ext x1,fun _=>by simp[MkS.out],fun _=> ?_,?_,?_,?_,?_⟩
 ·rw[e]
  rcases hk with ⟨_,h2⟩|⟨_,h1⟩
  ·obtain⟨a,b,rfl⟩:∃a b,ks=[a,b]:=by
    match ks,h2 with
    | [a,b],_=>exact⟨a,b,rfl⟩
   simp only[List.map_cons,List.map_nil,List.sum_cons,List.sum_nil]at hw
   show(St.tT (z.L.st++ [⟨k,0,none,[a,b]⟩]) z.L.length).wD<=t.size
   rw[hwf.zQR hn hr hkd,zPT,wk a (hks a (by simp)),wk b (hks b (by simp))]
   split<;>omega
  ·obtain⟨a,rfl⟩:∃a,ks=[a]:=by
    match ks,h1 with
    | [a],_=>exact⟨a,rfl⟩
   simp only[List.map_cons,List.map_nil,List.sum_cons,List.sum_nil]at hw
   rw[hwf.zQQ hn hr hkd]
   simp only[T.wD]
   rw[wk a (hks a (by simp))]
   split<;>omega
 all_goals simp only[MkS.out,YAJ,List.length_cons,List.length_nil]<;>omega
theorem ze3(hne:r≠s)(hsm:s≠m)(hrm:r≠m)(hne2:r2≠s2)(hsm2:s2≠m2)(hrm2:r2≠m2){k:Int}(hk:k=7\/k=9){a b t:T}(ht:t.ty= .mk k 0 [a.ty,b.ty])
 (hz:t.size=a.size+b.size+1) (ha:MkP s r m s2 r2 m2 lim rd lvl a) (hb:MkP s r m s2 r2 m2 lim rd lvl b):MkP s r m s2 r2 m2 lim rd lvl t:=by
 intro x hg hs hv hl h0 hc hcn
 rw[ht]
 obtain⟨y,i,e,h1,g1,o1⟩:=ha x hg hs hv (by omega) h0 hc (by omega)
 have a1:=o1.lenA;have a2:=o1.lenB;have a3:=o1.cntA;have a4:=o1.cntB;have a5:=o1.lm
 rcases o1.bad with rfl|⟨rfl,rfl⟩
 ·obtain⟨z,j,e,h2,g2,o2⟩:=hb y o1.good o1.stv o1.vj (by omega) (by omega) a5 (by omega)
  have b1:=o2.lenA;have b2:=o2.lenB;have b3:=o2.cntA;have b4:=o2.cntB;have b5:=o2.lm
  rcases o2.bad with rfl|⟨rfl,rfl⟩
  ·have l1:=o1.lt rfl
   have l2:=o2.lt rfl
   have w1:=o1.wd rfl
   have w2:=o2.wd rfl
   have ew:=o2.ext.wD (S:=y.L.st) o1.good.si.wf o2.stv (n:=i) (by rw[Mem.zXR];exact l1)
   rw[<-ew]at w1
   by_cases hcl:z.cnt=lim
   ·exact⟨z,0,7,ze9 hne hsm hrm hk h1 h2 (by omega) l2 hcl,zgB hne2 hsm2 hrm2 hk g1 g2 (by omega) l2 hcl,
     ⟨.inr ⟨rfl,rfl⟩,o2.good,o2.stv,o1.ext.trans o2.ext,o2.vj,fun h=>absurd h (by decide),fun h=>absurd h (by decide),by omega,by omega,by omega,b5⟩⟩
   ·have r1:=zgA (lim:=lim) hne2 hsm2 hrm2 hk g1 g2 (by omega) l2 (by omega) (by omega) ⟨by omega,by omega⟩
    rw[Mem.zXR]at r1
    exact⟨z.out ⟨k,0,none,[i,j]⟩,z.L.length,0,zep (rd:=rd) hne hsm hrm hk h1 h2 (by omega) l2 (by rw[YAZ];exact hcl) (by omega) ⟨by omega,by omega⟩,r1,
     .node o2.good o2.stv o2.vj (o1.ext.trans o2.ext) (.inl ⟨hk,rfl⟩) (by intro a ha;simp only[List.mem_cons,List.not_mem_nil,or_false]at ha;rcases ha with rfl|rfl<;>omega) (by simp only[List.map_cons,List.map_nil,List.sum_cons,List.sum_nil];omega) (by omega) (by omega) (by omega) (by omega)⟩
  ·exact⟨z,0,7,zfB hne hsm hrm hk h1 h2,zgD hne2 hsm2 hrm2 hk g1 g2,
    ⟨.inr ⟨rfl,rfl⟩,o2.good,o2.stv,o1.ext.trans o2.ext,o2.vj,fun h=>absurd h (by decide),fun h=>absurd h (by decide),by omega,by omega,by omega,b5⟩⟩
 ·exact⟨y,0,7,zfA hne hsm hrm hk h1,zgC hne2 hsm2 hrm2 hk g1,
   ⟨.inr ⟨rfl,rfl⟩,o1.good,o1.stv,o1.ext,o1.vj,fun h=>absurd h (by decide),fun h=>absurd h (by decide),by omega,by omega,by omega,a5⟩⟩
theorem zed{S:St}(hw:Wf S)(hs:StV S){i:Nat}(hi:i<5):(S.tT i).wD<=1:=by
 have h5:=hw.five
 have e:=hw.leaf i hi
 have er:S.root i=i:=zUO (by rw[St.link,e])
 have hk:S.kids i=[]:=by rw[St.kids,e]
 rw[hw.zX8 (by omega),er]
 unfold St.zQS
 rw[hk]
 simp only
 split
 ·simp[T.wD]
 ·split<;>simp[T.wD]
theorem ze2(hne:r≠s)(hsm:s≠m)(hrm:r≠m)(hne2:r2≠s2)(hsm2:s2≠m2)(hrm2:r2≠m2)(hlv:¬lvl<0):∀t:T,MkP s r m s2 r2 m2 lim rd lvl t:=by
 intro t
 induction t with
 |base k=>
  intro x hg hs hv hl h0 hc hcn
  have h5:5<=x.L.length:=by have:=hg.si.wf.five;rwa[show(x.sto rd).L.st=x.L.st from rfl,Mem.zXR]at this
  exact⟨x,k.val,0,zen hne hsm hrm (k:=(k.val:Int)+1) (by omega) (by omega),zf6 hne2 hsm2 hrm2 (k:=(k.val:Int)+1) (by omega) (by omega) x,.stay hg hs hv hc (fun _=>⟨by omega,zed hg.si.wf hs (by omega)⟩) (.inl rfl)⟩
 |dyn=>
  intro x hg hs hv hl h0 hc hcn
  have h5:5<=x.L.length:=by have:=hg.si.wf.five;rwa[show(x.sto rd).L.st=x.L.st from rfl,Mem.zXR]at this
  exact⟨x,4,0,zen hne hsm hrm (k:=5) (by omega) (by omega),zf6 hne2 hsm2 hrm2 (k:=5) (by omega) (by omega) x,.stay hg hs hv hc (fun _=>⟨by omega,zed hg.si.wf hs (by omega)⟩) (.inl rfl)⟩
 |var k=>
  intro x hg hs hv hl h0 hc hcn
  simp only[T.size]at hl hcn
  cases e:mget x.Z k with
  |some n=>
   obtain⟨n,rfl,hn,hk6⟩:=hv k n e
   have hz:=(zak _).2 (hs n hn hk6)
   rw[Mem.zXR]at hn
   exact⟨x,n,0,zer hne hsm hrm e,zgG hne2 hsm2 hrm2 x e,.stay hg hs hv hc (fun _=>⟨hn,by omega⟩) (.inl rfl)⟩
  |none=>
   by_cases hcl:x.cnt=lim
   ·exact⟨x,0,7,zfC hne hsm hrm x e hlv hcl,zgF hne2 hsm2 hrm2 x e hlv hcl,.stay hg hs hv hc (fun h=>absurd h (by decide)) (.inr ⟨rfl,rfl⟩)⟩
   ·have r1:=zgE (lim:=lim) hne2 hsm2 hrm2 x e hlv (by omega) (by omega) ⟨h0,by omega⟩
    rw[Mem.zXR]at r1
    have g:GoodS ((x.sto rd).var lvl):=hg.var (by omega)
    have eS:((x.sto rd).var lvl).L.st=x.L.st++ [⟨6,lvl,none,[]⟩]:=by rw[Sto.var,Mem.zXM];rfl
    have hwf:Wf (x.L.st++ [⟨6,lvl,none,[]⟩]):=by have:=g.si.wf;rwa[eS]at this
    have x1:Ext x.L.st (x.L.st++ [⟨6,lvl,none,[]⟩]):=Ext.add hwf
    have e2:(x.out ⟨6,lvl,none,[]⟩).L.st=x.L.st++ [⟨6,lvl,none,[]⟩]:=by rw[MkS.out,Mem.zXM]
    refine⟨{x.out ⟨6,lvl,none,[]⟩with Z:=mput x.Z k x.L.length},x.L.length,0,zeq hne hsm hrm e hlv (by rw[YAZ];exact hcl) (by omega) ⟨h0,by omega⟩,r1,
     ⟨.inl rfl,g,by rw[show({x.out ⟨6,lvl,none,[]⟩with Z:=mput x.Z k x.L.length}:MkS).L.st=_ from e2];exact hs.var hg.si.wf hwf,by rw[show({x.out ⟨6,lvl,none,[]⟩with Z:=mput x.Z k x.L.length}:MkS).L.st=_ from e2];exact x1,?_,fun _=>by simp[MkS.out],fun _=> ?_,?_,?_,?_,?_⟩⟩
    ·rw[show({x.out ⟨6,lvl,none,[]⟩with Z:=mput x.Z k x.L.length}:MkS).L.st=_ from e2]
     intro k' n' he
     by_cases hkk:k'=k
     ·subst hkk
      rw[show({x.out ⟨6,lvl,none,[]⟩with Z:=mput x.Z k' x.L.length}:MkS).Z=mput x.Z k' x.L.length from rfl,zPO,if_pos rfl]at he
      cases he
      exact⟨x.L.length,rfl,by rw[YAJ,Mem.zXR];simp,by rw[<-Mem.zXR,St.kind,St.zPw]⟩
     ·rw[show({x.out ⟨6,lvl,none,[]⟩with Z:=mput x.Z k x.L.length}:MkS).Z=mput x.Z k x.L.length from rfl,zPO,if_neg (fun h=>hkk h.symm)]at he
      exact hv.ext x1 k' n' he
    ·rw[show({x.out ⟨6,lvl,none,[]⟩with Z:=mput x.Z k x.L.length}:MkS).L.st=_ from e2,<-Mem.zXR,hwf.zYB]
     simp[T.wD]
    all_goals simp only[MkS.out,YAJ,List.length_cons,List.length_nil,T.size]<;>omega
 |pair a b ih1 ih2=>exact ze3 hne hsm hrm hne2 hsm2 hrm2 (.inl rfl) rfl rfl ih1 ih2
 |fn a b ih1 ih2=>exact ze3 hne hsm hrm hne2 hsm2 hrm2 (.inr rfl) rfl rfl ih1 ih2
 |list a ih1=>
  intro x hg hs hv hl h0 hc hcn
  simp only[T.size]at hl hcn
  obtain⟨y,i,e,h1,g1,o1⟩:=ih1 x hg hs hv (by omega) h0 hc (by omega)
  have a1:=o1.lenA;have a2:=o1.lenB;have a3:=o1.cntA;have a4:=o1.cntB;have a5:=o1.lm
  rcases o1.bad with rfl|⟨rfl,rfl⟩
  ·have l1:=o1.lt rfl
   have w1:=o1.wd rfl
   by_cases hcl:y.cnt=lim
   ·exact⟨y,0,7,ze7 hne hsm hrm h1 l1 hcl,zf8 hne2 hsm2 hrm2 g1 l1 hcl,
     ⟨.inr ⟨rfl,rfl⟩,o1.good,o1.stv,o1.ext,o1.vj,fun h=>absurd h (by decide),fun h=>absurd h (by decide),by simp only[T.size];omega,by omega,by simp only[T.size];omega,a5⟩⟩
   ·have r1:=zf7 (lim:=lim) hne2 hsm2 hrm2 g1 l1 (by omega) (by omega) ⟨by omega,by omega⟩
    rw[Mem.zXR]at r1
    exact⟨y.out ⟨8,0,none,[i]⟩,y.L.length,0,zeo (rd:=rd) hne hsm hrm h1 l1 (by rw[YAZ];exact hcl) (by omega) ⟨by omega,by omega⟩,r1,
     .node o1.good o1.stv o1.vj o1.ext (.inr ⟨rfl,rfl⟩) (by intro a ha;simp only[List.mem_cons,List.not_mem_nil,or_false]at ha;subst ha;exact l1) (by simp only[List.map_cons,List.map_nil,List.sum_cons,List.sum_nil,T.size];omega) (by simp only[T.size];omega) (by omega) (by simp only[T.size];omega) (by omega)⟩
  ·exact⟨y,0,7,ze8 hne hsm hrm h1,zf9 hne2 hsm2 hrm2 g1,
    ⟨.inr ⟨rfl,rfl⟩,o1.good,o1.stv,o1.ext,o1.vj,fun h=>absurd h (by decide),fun h=>absurd h (by decide),by simp only[T.size];omega,by omega,by simp only[T.size];omega,a5⟩⟩
end
end Go.Proofs.Ytdngjamjccjlmaa
