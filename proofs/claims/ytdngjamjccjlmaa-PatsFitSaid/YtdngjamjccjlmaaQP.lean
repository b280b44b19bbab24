/- Pairs and lists of patterns: plain laws; what is right and small. No condition. -/
import Derived.Test.YtdngjamjccjlmaaPQa
import Derived.Test.YtdngjamjccjlmaaPFa
import Derived.Test.YtdngjamjccjlmaaPCa
set_option linter.unusedSimpArgs false
set_option linter.unusedVariables false
set_option maxHeartbeats 4000000
set_option maxRecDepth 100000
namespace Go.Proofs.Ytdngjamjccjlmaa
open Go Go.Ab
open Nat renaming reduceEqDiff -> yA, reduceAdd -> yB, reduceLT -> yC, reduceLeDiff -> yD, reduceMul -> yE, reducePow -> yF, reduceBEq -> yG
open Int renaming reduceAdd -> yH, reduceLT -> yI, reduceToNat -> yJ, reduceBEq -> yK, reduceBNe -> yL, reduceLE -> yM
attribute [local irreducible] zA0 zAA zAa zAi zAj GoIf GoGb zAk GoO GoD GoX GoDX GoG GoDG GoGv zAl Go zAB
mutual
theorem zcA:∀(p:Pt) (u:Ty) (L:List En),zDo p u L=(zDo p u []).map (L++ ·)
 | .mk k f t m n s ks,u,L=>by
  rw[zDo,zDo]
  split
  ·simp
  split
  ·simp
  split
  ·split
   ·exact zb9 ks _ L
   ·rfl
  split
  ·split
   ·exact zb9 ks _ L
   ·rfl
  split
  ·simp
  ·rfl
theorem zb9:∀(ps:List Pt) (us:List Ty) (L:List En),zDp ps us L=(zDp ps us []).map (L++ ·)
 | [],us,L=>by simp[zDp]
 |p::ps,us,L=>by
  rw[zDp,zDp,zcA p (us.headD default) L]
  cases zDo p (us.headD default) []with
  |none=>rfl
  |some A=>
   simp only[Option.map_some]
   rw[zb9 ps us.tail (L++A),zb9 ps us.tail A]
   cases zDp ps us.tail []<;>simp
end
mutual
theorem zcg:∀(p:Pt) (l:List ByteArray),zPk p l=l++zPk p []
 | .mk k f t m n s ks,l=>by
  rw[zPk,zPk]
  split
  ·rw[zcf ks (l++ [m]),zcf ks ([]++ [m])];simp
  ·exact zcf ks l
theorem zcf:∀(ks:List Pt) (l:List ByteArray),zPl ks l=l++zPl ks []
 | [],l=>by simp[zPl]
 |p::ks,l=>by
  rw[zPl,zPl,zcf ks (zPk p l),zcf ks (zPk p []),zcg p l];simp
end
def zci(k:Int)(p q:Pt):Pt:= .mk k 0 0 ByteArray.empty 0 ByteArray.empty [p,q]
def rgtP(p:Pt)(t:Ty):Bool:= !zLI p&& !heavy [t]&&chkP p&&right t
theorem zct(p:Pt)(t:Ty):zA0 Try.prog 77 [embP p,emb t] (.bool (rgtP p t)):=by
 have q1:=zLK p
 have q2:=zLH t
 have qt:=zUa t
 cases hp:zLI p with
 |true=>
  rw[hp]at q1
  have:rgtP p t=false:=by simp[rgtP,hp]
  rw[this]
  refine zSa C_ok Try.func77 rfl (by decide) (YAL rfl) (by decide) rfl fun ok H=> ?_
  rw[Try.results77]
  repeat' first
   |((first|apply zJn (fun _ _=>rfl)|apply zIy (fun _ _=>rfl));(· intro hb;(try simp only[YAA,YAD,YAE,YAC]at hb);simp only[hb,↓zaL,↓zHC,WZ,reduceIte,yA,yB,yC,yD,reduceCtorEq,yE,yF,W1,W1P,W1E,W5];exact⟨rfl,trivial⟩))
   |((first|apply zJi (q1)|apply zIt (q1)|apply zJi (q2)|apply zIt (q2));(· intro hb;(try simp only[YAA,YAD,YAE,YAC]at hb);simp only[hb,AV.norm,AV.zQg,W2,W2P,W2E,↓zaL,↓zHC,WZ,reduceIte,yA,yB,yC,yD,reduceCtorEq,yE,yF,W1,W1P,W1E,W5];rfl))
   |(with_reducible first|apply bA|apply bB|apply bC|apply bD|apply bE|apply bF)<;>intro h<;>try simp only[h,↓zaL,↓zHC,WZ,reduceIte,yA,yB,yC,yD,reduceCtorEq,yE,yF,W1,W1P,W1E,W5]
   |((first|apply bG|apply bH);simp only[AV.norm,AV.zQg,W2,W2P,W2E];first|refine zIf (q1) (.inl rfl) ?_|refine zIf (q2) (.inl rfl) ?_|refine zIj (q1) (.inl rfl) ?_|refine zIj (q2) (.inl rfl) ?_)
   |simp only[↓zaL,↓zHC,WZ,reduceIte,yA,yB,yC,yD,reduceCtorEq,yE,yF,W1,W1P,W1E,W5]
 |false=>
  have qr:=zTH p (by have:=zLJ hp;omega)
  rw[<-zEk]at qr
  rw[hp]at q1
  have:rgtP p t=(!heavy [t]&&chkP p&&right t):=by simp[rgtP,hp]
  rw[this]
  generalize heavy [t]=b1 at*
  generalize chkP p=b2 at*
  generalize right t=b3 at*
  refine zSa C_ok Try.func77 rfl (by decide) (YAL rfl) (by decide) rfl fun ok H=> ?_
  rw[Try.results77]
  repeat' first
   |((first|apply zJn (fun _ _=>rfl)|apply zIy (fun _ _=>rfl));(· intro hb;(try simp only[YAA,YAD,YAE,YAC]at hb);simp only[hb,↓zaL,↓zHC,WZ,reduceIte,yA,yB,yC,yD,reduceCtorEq,yE,yF,W1,W1P,W1E,W5];exact⟨rfl,trivial⟩))
   |((first|apply zJi (q1)|apply zIt (q1)|apply zJi (q2)|apply zIt (q2)|apply zJi (qr)|apply zIt (qr)|apply zJi (qt)|apply zIt (qt));(· intro hb;(try simp only[YAA,YAD,YAE,YAC]at hb);simp only[hb,AV.norm,AV.zQg,W2,W2P,W2E,↓zaL,↓zHC,WZ,reduceIte,yA,yB,yC,yD,reduceCtorEq,yE,yF,W1,W1P,W1E,W5];rfl))
   |(with_reducible first|apply bA|apply bB|apply bC|apply bD|apply bE|apply bF)<;>intro h<;>try simp only[h,↓zaL,↓zHC,WZ,reduceIte,yA,yB,yC,yD,reduceCtorEq,yE,yF,W1,W1P,W1E,W5]
   |((first|apply bG|apply bH);simp only[AV.norm,AV.zQg,W2,W2P,W2E];first|refine zIf (q1) (.inl rfl) ?_|refine zIf (q2) (.inl rfl) ?_|refine zIf (qr) (.inl rfl) ?_|refine zIf (qt) (.inl rfl) ?_|refine zIj (q1) (.inl rfl) ?_|refine zIj (q2) (.inl rfl) ?_|refine zIj (qr) (.inl rfl) ?_|refine zIj (qt) (.inl rfl) ?_)
   |simp only[↓zaL,↓zHC,WZ,reduceIte,yA,yB,yC,yD,reduceCtorEq,yE,yF,W1,W1P,W1E,W5]
end Go.Proofs.Ytdngjamjccjlmaa
