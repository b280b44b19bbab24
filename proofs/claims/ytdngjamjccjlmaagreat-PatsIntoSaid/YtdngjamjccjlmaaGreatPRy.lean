/- Lemmas: rounds over both stores. No condition. -/
import Derived.Test.YtdngjamjccjlmaaGreatPRf
import Derived.Test.YtdngjamjccjlmaaGreatPNc
set_option linter.unusedSimpArgs false
set_option linter.unusedVariables false
namespace Go.Proofs.YtdngjamjccjlmaaGreat
open Go Go.Ab
section
theorem zgZ{lim:Int}{σ:Sto}(hg:GoodS σ)(hs:StV σ.L.st){x y:Nat}(hx:x<σ.L.length)(hy:y<σ.L.length)(hw:(σ.L.st.tT x).wD+(σ.L.st.tT y).wD<=2000)(hf:σ.L.st.free<=20000)(hl:σ.L.length<=50000)(hc0:0<=σ.cnt)(hc:σ.cnt<=100000)(hrd:σ.rd<=10000000000):
 ∃m res,RunB lim m [(x,y)] σ res/\(EndS σ (5*((σ.L.st.tT x).wD+(σ.L.st.tT y).wD)+σ.L.st.free) ((σ.L.st.tT x).wD+(σ.L.st.tT y).wD) res\/EndL res):=by
 have hlt:Lt2 σ.L.length [(x,y)]:=fun q hq=>by rw[List.mem_singleton]at hq;subst hq;exact⟨hx,hy⟩
 have ew:wL σ.L.st [(x,y)]=(σ.L.st.tT x).wD+(σ.L.st.tT y).wD:=by simp[wL,wP]
 have hq:qL σ.L.st [(x,y)]<=1+56000:=by
  refine zTD (stk:=[(x,y)]) fun q hq=>Nat.le_trans (hg.si.wf.zFb (by rw[Mem.zXR];exact hlt) q hq) ?_
  rw[Mem.zXR];omega
 have hM:5*((σ.L.st.tT x).wD+(σ.L.st.tT y).wD)+σ.L.st.free<=30000:=by omega
 have hmul:(56000+2)*(5*((σ.L.st.tT x).wD+(σ.L.st.tT y).wD)+σ.L.st.free)<=(56000+2)*30000:=Nat.mul_le_mul_left _ hM
 have:=zgX (lim:=lim) (R:=80000000000) (C:=200000) (D:=56000) (K:=100000000000) (by omega) (by omega) (by omega) (by omega) (5*((σ.L.st.tT x).wD+(σ.L.st.tT y).wD)+σ.L.st.free) (zL σ.L.st [(x,y)]) σ [(x,y)] hg hs hlt (by rw[ew];omega) (YAV _) (by rw[ew];omega) hc0 (by rw[ew];omega) (by omega) (by omega)
 rw[ew]at this
 exact this
structure RndI (lim rd:Int) (x:MkS) (w i:Nat):Prop where
 good:GoodS (x.sto rd)
 stv:StV x.L.st
 vj:VJ x.L.st x.Z
 len:x.L.length<=5+4*w
 c0:0<=x.cnt
 cnt:x.cnt<=4*w
 lm:x.cnt<=lim
 rd:rd<=100000*i
end
section
section
variable {F : List AObj} {s r p q m : Nat} {lim rd lvl : Int}
theorem zeD(hD:QuaD F s r p q)(hm:m<F.length)(hmp:m≠p)(hmq:m≠q){t:Ty}{x y:MkS}{n e:Int}(h:zdq s r m lim rd lvl t x y n e)(u:Nat)(S:St)(lim2 cnt2:Int):
 zAd Tryz.prog 10 [.bptr s 0,emb t,.int .i64 lvl,.mp m] (dH (F.set m (.map (embM x.Z))) s r p q x.v x.L lim x.cnt rd u S lim2 cnt2) (.tup [.int .i64 n,.int .i64 e]) (dH (F.set m (.map (embM y.Z))) s r p q y.v y.L lim y.cnt rd u S lim2 cnt2):=by
 have:=h ((F.set p (bxR q u S.length lim2 cnt2)).set q (arR u S)) (by simpa using hD.hs) (by simpa using hD.hr) (by simpa using hm)
 rw[dH_S,dH_S]
 rw[List.set_comm (i:=q) (j:=m) _ _ (fun h=>hmq h.symm),List.set_comm (i:=p) (j:=m) _ _ (fun h=>hmp h.symm),List.set_comm (i:=q) (j:=m) _ _ (fun h=>hmq h.symm),List.set_comm (i:=p) (j:=m) _ _ (fun h=>hmp h.symm)]at this
 exact this
end
end
end Go.Proofs.YtdngjamjccjlmaaGreat
