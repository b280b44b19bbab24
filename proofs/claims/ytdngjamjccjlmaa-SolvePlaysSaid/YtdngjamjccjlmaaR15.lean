/- The document's store, walked: what becomes of a variable: all cases. No condition. -/
import Derived.Test.YtdngjamjccjlmaaR14
set_option linter.unusedSimpArgs false
set_option linter.unusedVariables false
set_option maxHeartbeats 4000000
set_option maxRecDepth 100000
namespace Go.Proofs.Ytdngjamjccjlmaa
open Go Go.Ab
def zB(σ':Sto)(mo:Option Nat)(y:Nat)(left:Bool):List (Nat×Nat):=match mo with
 |none=> []
 |some m=>if left=true then(σ'.L.st.kids m).zip (σ'.L.st.kids y)else(σ'.L.st.kids y).zip (σ'.L.st.kids m)
def psh(ps:List (Nat×Nat))(len:Nat)(z:List (Nat×Nat)):List (Nat×Nat):=if z=[]then ps else ps.take len++z.reverse
theorem LinkS.kids{S:St}{x y:Nat}{σ':Sto}(hx:x<S.length)(h:LinkS S x y σ')(i:Nat):σ'.L.st.kids i=S.kids i:=by
 rw[h.low.lv.kids,St.kids,St.zPy hx]
 split
 ·rename_i e;subst e;rfl
 ·rfl
section
variable {F : List AObj} {p q w a : Nat} {lim : Int}
theorem zfh(hD:QuaD F p q w a){σ:Sto}(hg:GoodS σ)(hL:σ.L.length<=800000)(hcb:0<=σ.cnt/\σ.cnt<=800000)(hlim:σ.cnt<=lim){x y:Nat}(hx:x<σ.L.length)(hy:y<σ.L.length)(ex:σ.L.st.root x=x)(ey:σ.L.st.root y=y)(h6:σ.L.st.kind x=6)(hxy:x≠y)(hy4:y≠4)
 (left:Bool) (ver len:Nat) (ps:List (Nat×Nat)) (hle:len<=ps.length) (hlen:len<=1000000000000):
 zAd Try.prog 105 [.bptr w 0,.int .i64 x,.int .i64 y,.bool left] (wK F p q w a lim σ ver len ps) (.int .i64 (σ.become lim x y).2.1)
  (wK F p q w a lim (σ.become lim x y).2.2 (ver+(zB (σ.become lim x y).2.2 (σ.become lim x y).1 y left).length) (len+(zB (σ.become lim x y).2.2 (σ.become lim x y).1 y left).length) (psh ps len (zB (σ.become lim x y).2.2 (σ.become lim x y).1 y left)))/\(σ.become lim x y).2.2.cnt<=lim:=by
 have hw:=hg.si.wf
 have hx':x<σ.L.st.length:=by rw[Mem.zXR];exact hx
 have hy':y<σ.L.st.length:=by rw[Mem.zXR];exact hy
 have lx:σ.L.st.link x=none:=by have:=hw.zUK x;rwa[ex]at this
 have nil1:∀(τ:Sto) (e:Int),zAd Try.prog 105 [.bptr w 0,.int .i64 x,.int .i64 y,.bool left] (wK F p q w a lim σ ver len ps) (.int .i64 e) (wK F p q w a lim τ ver len ps)->τ.cnt<=lim->
  zAd Try.prog 105 [.bptr w 0,.int .i64 x,.int .i64 y,.bool left] (wK F p q w a lim σ ver len ps) (.int .i64 ((none:Option Nat),e,τ).2.1)
   (wK F p q w a lim ((none:Option Nat),e,τ).2.2 (ver+(zB ((none:Option Nat),e,τ).2.2 ((none:Option Nat),e,τ).1 y left).length) (len+(zB ((none:Option Nat),e,τ).2.2 ((none:Option Nat),e,τ).1 y left).length) (psh ps len (zB ((none:Option Nat),e,τ).2.2 ((none:Option Nat),e,τ).1 y left)))/\τ.cnt<=lim:=
  fun τ e h hc=>⟨h,hc⟩
 unfold Sto.become
 by_cases hk6:σ.L.st.kind y=6
 ·rw[if_pos hk6]
  exact nil1 (σ.link x y).2 (σ.link x y).1 (zfY (lim:=lim) hD hg (by omega) hx hy ex ey h6 hxy left ver len ps (.inl hk6)) (by have:=σ.zNO x y;omega)
 rw[if_neg hk6]
 have m1:=σ.zO0 y
 have g1:=hg.mark y
 by_cases h4:4 ∉ σ.L.st.all y
 ·rw[if_pos h4]
  have:=zfY (lim:=lim) hD g1 (by rw[Sto.zOz];omega) (x:=x) (y:=y) (by rw[Sto.zOz];exact hx) (by rw[Sto.zOz];exact hy) (by rw[m1];exact ex) (by rw[m1];exact ey) (by rw[m1];exact h6) hxy left ver len ps (.inr (by rw[m1];exact h4))
  rw[zhD]at this
  exact nil1 ((σ.mark y).link x y).2 ((σ.mark y).link x y).1 this (by have:=(σ.mark y).zNO x y;have e:(σ.mark y).cnt=σ.cnt:=rfl;omega)
 rw[if_neg h4]
 have h4':4∈σ.L.st.all y:=by
  by_cases c:4∈σ.L.st.all y
  ·exact c
  ·exact absurd c h4
 by_cases hin:x∈σ.L.st.all y
 ·rw[if_pos hin]
  have:=zfZ (lim:=lim) hD hg (by omega) hx hy ex ey left ver len ps hk6 h4' hin
  exact nil1 _ _ (by rw[zhD,zhD];exact this) hlim
 rw[if_neg hin]
 have g2:=g1.mark y
 have m2:=σ.zO1 y y
 have n2:((σ.mark y).mark y).L.length=σ.L.length:=by rw[Sto.zOz,Sto.zOz]
 have c2:((σ.mark y).mark y).cnt=σ.cnt:=rfl
 have ew:wK F p q w a lim σ ver len ps=wK F p q w a lim ((σ.mark y).mark y) ver len ps:=by rw[zhD,zhD]
 rw[<-n2,<-c2,<-m2,ew]
 rw[<-n2]at hL hx hy
 rw[<-c2]at hcb hlim
 rw[<-m2]at ex ey h6 lx hin h4' hk6 hx' hy' hw
 generalize (σ.mark y).mark y=τ at*
 clear ew n2 c2 m2 nil1 h4 m1
 have hlv:=g2.lv x h6
 rcases hw.zVs (y:=y) hy' with hk|⟨h5,_,hk⟩|⟨hk,c,hks⟩|⟨hk,c,d,hks⟩
 ·exact absurd hk.1 hk6
 ·exfalso
  have:=(hw.zPE hy').1 h4'
  rw[zTP,ey,hk]at this
  simp at this
  exact hy4 this.symm
 ·rw[hks]
  simp only
  by_cases c0:τ.cnt=lim
  ·rw[if_pos c0]
   exact⟨zfb (lim:=lim) hD g2 hL hcb hx hy ex ey h6 left ver len ps hk6 h4' hin hks (by omega),hlim⟩
  rw[if_neg c0]
  by_cases c1:τ.cnt+1=lim
  ·rw[if_pos c1]
   exact⟨zfc (lim:=lim) hD g2 hL hcb hx hy ex ey h6 left ver len ps hk h4' hin hks (by omega) (by omega),by show τ.cnt+1<=lim;omega⟩
  rw[if_neg c1]
  have qq:=zfa (lim:=lim) hD g2 hL hcb hx hy ex ey h6 left ver len ps hk h4' hin hks (by omega) hle hlen
  have cp:=zFS hw hx' h6 lx hy' hk hks
  have g5:=(g2.var hlv).mk' (k:=τ.L.st.kind y) (ks:=[τ.L.length]) (.inr ⟨hk,rfl⟩) (by intro z hz;simp only[List.mem_singleton]at hz;rw[Sto.zaS];omega)
  have e1:((τ.var (τ.L.st.nd x).level).mk' (τ.L.st.kind y) [τ.L.length]).L.st=τ.L.st.cpy1 x y:=by
   rw[Sto.mk',Mem.zXM,Sto.var,Mem.zXM,St.cpy1,Mem.zXR];rfl
  have hcn:((τ.var (τ.L.st.nd x).level).mk' (τ.L.st.kind y) [τ.L.length]).cnt=τ.cnt+1+1:=rfl
  generalize (τ.var (τ.L.st.nd x).level).mk' (τ.L.st.kind y) [τ.L.length]=υ at*
  have c':=cp.can
  rw[<-e1,Mem.zXR]at c'
  obtain⟨q1,q2⟩:=Sto.zNU g5 c'
  have q3:=υ.zNO x (τ.L.length+1)
  have kk:=q2.kids c'.hx
  rw[e1]at kk
  have k1:=kk (τ.L.length+1)
  have k2:=kk y
  rw[<-Mem.zXR τ.L,cp.kids]at k1
  rw[cp.ext.kids y hy',hks]at k2
  rw[Mem.zXR]at k1
  have hz:zB (υ.link x (τ.L.length+1)).2 (some (τ.L.length+1)) y left=[if left=true then(τ.L.length,c)else(c,τ.L.length)]:=by
   unfold zB
   simp only[k1,k2]
   cases left<;>rfl
  refine⟨?_,by show(υ.link x (τ.L.length+1)).2.cnt<=lim;rw[q3,hcn];omega⟩
  show zAd _ _ _ _ (.int .i64 (υ.link x (τ.L.length+1)).1) (wK F p q w a lim (υ.link x (τ.L.length+1)).2 (ver+(zB (υ.link x (τ.L.length+1)).2 (some (τ.L.length+1)) y left).length) (len+(zB (υ.link x (τ.L.length+1)).2 (some (τ.L.length+1)) y left).length) (psh ps len (zB (υ.link x (τ.L.length+1)).2 (some (τ.L.length+1)) y left)))
  rw[hz,q1]
  exact qq
 ·rw[hks]
  simp only
  by_cases c0:τ.cnt=lim
  ·rw[if_pos c0]
   exact⟨zfe (lim:=lim) hD g2 hL hcb hx hy ex ey h6 left ver len ps hk6 h4' hin hks (by omega),hlim⟩
  rw[if_neg c0]
  by_cases c1:τ.cnt+1=lim
  ·rw[if_pos c1]
   exact⟨zff (lim:=lim) hD g2 hL hcb hx hy ex ey h6 left ver len ps hk h4' hin hks (by omega) (by omega),by show τ.cnt+1<=lim;omega⟩
  rw[if_neg c1]
  by_cases c2:τ.cnt+2=lim
  ·rw[if_pos c2]
   exact⟨zfg (lim:=lim) hD g2 hL hcb hx hy ex ey h6 left ver len ps hk h4' hin hks (by omega) (by omega),by show τ.cnt+1+1<=lim;omega⟩
  rw[if_neg c2]
  have qq:=zfd (lim:=lim) hD g2 hL hcb hx hy ex ey h6 left ver len ps hk h4' hin hks (by omega) hle hlen
  have cp:=zFT hw hx' h6 lx hy' hk hks
  have g5:=((g2.var hlv).var hlv).mk' (k:=τ.L.st.kind y) (ks:=[τ.L.length,τ.L.length+1]) (.inl ⟨hk,rfl⟩) (by intro z hz;simp only[List.mem_cons,List.not_mem_nil,or_false]at hz;rw[Sto.zaS,Sto.zaS];omega)
  have e1:(((τ.var (τ.L.st.nd x).level).var (τ.L.st.nd x).level).mk' (τ.L.st.kind y) [τ.L.length,τ.L.length+1]).L.st=τ.L.st.cpy2 x y:=by
   rw[Sto.mk',Mem.zXM,Sto.var,Mem.zXM,Sto.var,Mem.zXM,St.cpy2,Mem.zXR];rfl
  have hcn:(((τ.var (τ.L.st.nd x).level).var (τ.L.st.nd x).level).mk' (τ.L.st.kind y) [τ.L.length,τ.L.length+1]).cnt=τ.cnt+1+1+1:=rfl
  generalize ((τ.var (τ.L.st.nd x).level).var (τ.L.st.nd x).level).mk' (τ.L.st.kind y) [τ.L.length,τ.L.length+1]=υ at*
  have c':=cp.can
  rw[<-e1,Mem.zXR]at c'
  obtain⟨q1,q2⟩:=Sto.zNU g5 c'
  have q3:=υ.zNO x (τ.L.length+2)
  have kk:=q2.kids c'.hx
  rw[e1]at kk
  have k1:=kk (τ.L.length+2)
  have k2:=kk y
  rw[<-Mem.zXR τ.L,cp.kids]at k1
  rw[cp.ext.kids y hy',hks]at k2
  rw[Mem.zXR]at k1
  have hz:zB (υ.link x (τ.L.length+2)).2 (some (τ.L.length+2)) y left=if left=true then [(τ.L.length,c),(τ.L.length+1,d)]else [(c,τ.L.length),(d,τ.L.length+1)]:=by
   unfold zB
   simp only[k1,k2]
   cases left<;>rfl
  refine⟨?_,by show(υ.link x (τ.L.length+2)).2.cnt<=lim;rw[q3,hcn];omega⟩
  show zAd _ _ _ _ (.int .i64 (υ.link x (τ.L.length+2)).1) (wK F p q w a lim (υ.link x (τ.L.length+2)).2 (ver+(zB (υ.link x (τ.L.length+2)).2 (some (τ.L.length+2)) y left).length) (len+(zB (υ.link x (τ.L.length+2)).2 (some (τ.L.length+2)) y left).length) (psh ps len (zB (υ.link x (τ.L.length+2)).2 (some (τ.L.length+2)) y left)))
  rw[hz,q1]
  cases left<;>exact qq
end
end Go.Proofs.Ytdngjamjccjlmaa
