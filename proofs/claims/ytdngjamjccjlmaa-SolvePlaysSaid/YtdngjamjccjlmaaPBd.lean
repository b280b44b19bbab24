/- Lemmas: rows of pairs, solved. No condition. -/
import Derived.Test.YtdngjamjccjlmaaPBe
import Derived.Test.YtdngjamjccjlmaaPBc
import Derived.Test.YtdngjamjccjlmaaPNc
set_option linter.unusedSimpArgs false
set_option linter.unusedVariables false
set_option maxHeartbeats 4000000
set_option maxRecDepth 100000
namespace Go.Proofs.Ytdngjamjccjlmaa
open Go Go.Ab
open Nat renaming reduceEqDiff -> yA, reduceAdd -> yB, reduceLT -> yC, reduceLeDiff -> yD, reduceMul -> yE, reducePow -> yF, reduceBEq -> yG
open Int renaming reduceAdd -> yH, reduceLT -> yI, reduceToNat -> yJ, reduceBEq -> yK, reduceBNe -> yL, reduceLE -> yM
section
attribute [local irreducible] zA0 zAA zAa zAi zAj GoIf GoGb zAk GoO GoD GoX GoDX GoG GoDG GoGv zAl Go zAB
def CSv:Cfg:= {C with zwr:=fun f=>f==45}
def tyQ(p:T×T):Pr:=(p.1.ty,p.2.ty)
theorem zgM:∀l:List (T×T),rowQ (l.map tyQ)=(rowOf l).ty
 | []=>rfl
 |p::l=>by simp only[List.map_cons,rowQ,rowOf,T.ty,zgM l,twoT,tyQ]
structure SvS where
 i:Nat
 n:Nat
 ps:List (Nat×Nat)
 σ:Sto
structure SvI (k:Nat) (r:Int×Sto) (x:SvS):Prop where
 len:x.i+x.ps.length=k
 row:RowN x.σ.L.st x.n x.ps
 good:GoodS x.σ
 lt:Lt2 x.σ.L.length x.ps
 seq:SeqB 65536 x.ps x.σ r
end
section
theorem ze6:∀ {l:List Pr},(∀p∈l,right p.1=true/\right p.2=true)->∃l':List (T×T),l=l'.map tyQ
 | [],_=>⟨[],rfl⟩
 |p::l,h=>by
  obtain⟨a,ha⟩:=T.zRA p.1 (h p YAU).1
  obtain⟨b,hb⟩:=T.zRA p.2 (h p YAU).2
  obtain⟨l',e⟩:=ze6 (l:=l) fun q hq=>h q (YAT _ hq)
  exact⟨(a,b)::l',by rw[List.map_cons,tyQ,<-e,<-ha,<-hb]⟩
structure Small13 (l:List (T×T)):Prop where
 len:l.length<=12
 size:(rowOf l).size<=225
 ok:(rowOf l).ok=true
 vars:((rowOf l).zaU []).length<=12
theorem zgj{l:List Pr}(h:zWK l=true):∃l':List (T×T),l=l'.map tyQ/\Small13 l':=by
 simp only[zWK,YAA,YAa]at h
 obtain⟨⟨⟨h1,h2⟩,h3⟩,h4⟩:=h
 rw[zB5]at h2
 have hr:∀p∈l,right p.1=true/\right p.2=true:=fun p hp=>by
  obtain⟨i,hi,rfl⟩:=List.getElem_of_mem hp
  have:=h2 i hi
  simp only[zWP,YAA]at this
  have e:l.getD i default=l[i]:=by simp[hi]
  rw[e]at this
  exact⟨this.1.2,this.2⟩
 obtain⟨l',rfl⟩:=ze6 hr
 have hn:=zgL (l'.map tyQ)
 rw[zgM,zQb,YAK]at hn
 rw[YAK]at h1
 rw[zgM,zaa,T.zaX]at h4
 refine⟨l',rfl,h1,by omega,?_,h4⟩
 have key:∀l':List (T×T),(∀p∈l'.map tyQ,right p.1=true/\right p.2=true)->(rowOf l').ok=true:=by
  intro l'
  induction l' with
  |nil=>intro _;rfl
  |cons p l' ih=>
   intro hr
   have h1:=hr (tyQ p) (by simp)
   simp only[tyQ,T.zT5]at h1
   simp only[rowOf,T.ok,h1.1,h1.2,Bool.and_self,Bool.true_and]
   exact ih fun q hq=>hr q (YAT _ hq)
 exact key l' hr
structure SolvedF (l:List (T×T)) (n:Nat) (Z:List (Int×Int)) (σ0:Sto) (ps:List (Nat×Nat)) (e:Int) (σ:Sto):Prop where
 good0:GoodS σ0
 nl:zAv σ0.L.st
 hn:n<σ0.L.length
 tree:σ0.L.st.tT n=putS (fun k=> .var (nu Z k)) (rowOf l)
 row:RowN σ0.L.st n ps
 pairs:ps.map (fun p=>(σ0.L.st.tT p.1,σ0.L.st.tT p.2))=l.map (fun p=>(putS (fun k=> .var (nu Z k)) p.1,putS (fun k=> .var (nu Z k)) p.2))
 lt:Lt2 σ0.L.length ps
 vi:VI σ0.L.st Z
 dom:∀k,(rowOf l).has k=true->(mget Z k).isSome=true
 seq:SeqB 65536 ps σ0 (e,σ)
 good:GoodS σ
 stv:StV σ.L.st
 ext:Ext σ0.L.st σ.L.st
 he:e=0\/e=4\/e=5
 len:σ.L.length<=2000
 cnt1:0<=σ.cnt
 cnt2:σ.cnt<=2000
 rd:σ.rd<=1000000
end
end Go.Proofs.Ytdngjamjccjlmaa
