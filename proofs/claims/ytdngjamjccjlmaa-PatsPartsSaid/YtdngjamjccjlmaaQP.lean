/- Pairs and lists of patterns: plain laws; what is right and small. No condition. -/
import Derived.Test.YtdngjamjccjlmaaPQa
import Derived.Test.YtdngjamjccjlmaaPFa
import Derived.Test.YtdngjamjccjlmaaPCa
set_option linter.unusedSimpArgs false
set_option linter.unusedVariables false
set_option maxHeartbeats 4000000
set_option maxRecDepth 100000
namespace Go.Proofs.Ytdngjamjccjlmaa
open Go Go.Ab
open Nat renaming reduceEqDiff -> yA, reduceAdd -> yB, reduceLT -> yC, reduceLeDiff -> yD, reduceMul -> yE, reducePow -> yF, reduceBEq -> yG
open Int renaming reduceAdd -> yH, reduceLT -> yI, reduceToNat -> yJ, reduceBEq -> yK, reduceBNe -> yL, reduceLE -> yM
attribute [local irreducible] zA0 zAA zAa zAi zAj GoIf GoGb zAk GoO GoD GoX GoDX GoG GoDG GoGv zAl Go zAB
mutual
theorem zcA:∀(p:Pt) (u:Ty) (L:List En),zDo p u L=(zDo p u []).map (L++ ·)
 | .mk k f t m n s ks,u,L=>by
  rw[zDo,zDo]
  split
  ·simp
  split
  ·simp
  split
  ·split
   ·exact zb9 ks _ L
   ·rfl
  split
  ·split
   ·exact zb9 ks _ L
   ·rfl
  split
  ·simp
  ·rfl
theorem zb9:∀(ps:List Pt) (us:List Ty) (L:List En),zDp ps us L=(zDp ps us []).map (L++ ·)
 | [],us,L=>by simp[zDp]
 |p::ps,us,L=>by
  rw[zDp,zDp,zcA p (us.headD default) L]
  cases zDo p (us.headD default) []with
  |none=>rfl
  |some A=>
   simp only[Option.map_some]
   rw[zb9 ps us.tail (L++A),zb9 ps us.tail A]
   cases zDp ps us.tail []<;>simp
end
mutual
theorem zcg:∀(p:Pt) (l:List ByteArray),zPk p l=l++zPk p []
 | .mk k f t m n s ks,l=>by
  rw[zPk,zPk]
  split
  ·rw[zcf ks (l++ [m]),zcf ks ([]++ [m])];simp
  ·exact zcf ks l
theorem zcf:∀(ks:List Pt) (l:List ByteArray),zPl ks l=l++zPl ks []
 | [],l=>by simp[zPl]
 |p::ks,l=>by
  rw[zPl,zPl,zcf ks (zPk p l),zcf ks (zPk p []),zcg p l];simp
end
theorem zdH:∀p:Pt,okA p=true->∀(u:Ty) (L L':List En),zDo p u L=some L'->zPk p (L.map Prod.fst)=L'.map Prod.fst:=
 Pt.ind (p:=fun p=>okA p=true->∀(u:Ty) (L L':List En),zDo p u L=some L'->zPk p (L.map Prod.fst)=L'.map Prod.fst) fun p ih hok u L L' h=>by
  obtain⟨hk,ho⟩:=zRH hok
  have hl:=zRP hk
  rw[zDq _ _ hl]at h
  have two:∀u0 u1,p.kids.length=2->p.kind≠2->(zDo (p.kid 0) u0 L).bind (zDo (p.kid 1) u1)=some L'->zPk p (L.map Prod.fst)=L'.map Prod.fst:=fun u0 u1 h2 hk2 h=>by
   obtain⟨L1,h3,h4⟩:=Option.bind_eq_some_iff.1 h
   have m0:=zSk (p:=p) (i:=0) (by omega)
   have m1:=zSk (p:=p) (i:=1) (by omega)
   have a:=ih _ m0 (ho _ m0) _ _ _ h3
   have b:=ih _ m1 (ho _ m1) _ _ _ h4
   obtain⟨p0,p1,hks⟩:∃p0 p1,p.kids=[p0,p1]:=by
    match p.kids,h2 with
    | [p0,p1],_=>exact⟨p0,p1,rfl⟩
   have k0:p.kid 0=p0:=by rw[Pt.kid,hks];rfl
   have k1:p.kid 1=p1:=by rw[Pt.kid,hks];rfl
   rw[k0]at a
   rw[k1]at b
   rw[zPo,hks,if_neg hk2]
   simp only[zPl]
   rw[a,b]
  have leaf:p.kind≠7->p.kind≠9->∀l,zPl p.kids l=l:=fun h7 h9 l=>by
   have:=zRO h7 h9 hk
   rw[List.length_eq_zero_iff.1 this];rfl
  split at h
  ·cases h
   rw[zPo,if_neg (by omega),leaf (by omega) (by omega)]
  split at h
  ·cases h
   rw[zPo,if_pos (by omega),leaf (by omega) (by omega)];simp
  split at h
  ·rename_i h7
   split at h
   ·exact two _ _ (hl (.inl h7)) (by omega) h
   ·cases h
  split at h
  ·rename_i h9
   split at h
   ·exact two _ _ (hl (.inr h9)) (by omega) h
   ·cases h
  split at h
  ·cases h
   rw[zPo,if_neg (by omega),leaf (by omega) (by omega)]
  ·cases h
def zci(k:Int)(p q:Pt):Pt:= .mk k 0 0 ByteArray.empty 0 ByteArray.empty [p,q]
theorem zdN{k:Int}(hk:k≠2)(p q:Pt):zPr (zci k p q)=zPr p++zPr q:=by
 rw[zPr,zci,zPk,if_neg hk]
 simp only[zPl]
 rw[zcg q];rfl
theorem zdK(p q:Pt)(t u:Ty):zDo (zci 7 p q) (twoT 7 t u) []=(zDo p t []).bind fun A=>(zDo q u []).map (A++ ·):=by
 rw[zDq _ _ (fun _=>rfl)]
 rw[if_neg (by show¬(7:Int)=1;decide),if_neg (by show¬(7:Int)=2;decide),if_pos (by rfl),if_pos (by rfl)]
 show(zDo p t []).bind (zDo q u)=_
 cases zDo p t []with
 |none=>rfl
 |some A=>exact zcA q u A
theorem zdI(p q:Pt)(t:Ty):zDo (zci 9 p q) (zNW t) []=(zDo p t []).bind fun A=>(zDo q (zNW t) []).map (A++ ·):=by
 rw[zDq _ _ (fun _=>rfl)]
 rw[if_neg (by show¬(9:Int)=1;decide),if_neg (by show¬(9:Int)=2;decide),if_neg (by show¬(9:Int)=7;decide),if_pos (by rfl),if_pos (by rfl)]
 show(zDo p t []).bind (zDo q (zNW t))=_
 cases zDo p t []with
 |none=>rfl
 |some A=>exact zcA q (zNW t) A
theorem zdJ(p q:Pt)(t u:Ty):zDo (zci 7 p q) (twoT 9 t u) []=none:=by
 rw[zDq _ _ (fun _=>rfl)]
 rw[if_neg (by show¬(7:Int)=1;decide),if_neg (by show¬(7:Int)=2;decide),if_pos (by rfl),if_neg (by show¬(9:Int)=7;decide)]
theorem zdL(p q:Pt):chkP (zci 9 p q)=chkP (zci 7 p q):=by
 rw[zEk,zEk,zdN (by decide),zdN (by decide)]
 congr 1
theorem zdR(k:Int)(p q:Pt):zV6 (zci k p q)=1+(zV6 p+zV6 q):=by simp[zci,zV6,zV7]
theorem zdQ(k:Int)(hk:k=7\/k=9){t u:Ty}(h1:right t=true)(h2:right u=true):right (twoT k t u)=true:=by
 obtain⟨a,rfl⟩:=T.zRA t h1
 obtain⟨b,rfl⟩:=T.zRA u h2
 rw[T.zT5]at h1 h2
 rcases hk with rfl|rfl
 ·have:=T.zT5 (.pair a b);simp only[T.ok,h1,h2,Bool.and_self]at this;exact this
 ·have:=T.zT5 (.fn a b);simp only[T.ok,h1,h2,Bool.and_self]at this;exact this
theorem zdP{t:Ty}(h1:right t=true):right (zNW t)=true:=by
 obtain⟨a,rfl⟩:=T.zRA t h1
 rw[T.zT5]at h1
 have:=T.zT5 (.list a);simp only[T.ok,h1]at this;exact this
def rgtP(p:Pt)(t:Ty):Bool:= !zLI p&& !heavy [t]&&chkP p&&right t
theorem zct(p:Pt)(t:Ty):zA0 Try.prog 77 [embP p,emb t] (.bool (rgtP p t)):=by
 have q1:=zLK p
 have q2:=zLH t
 have qt:=zUa t
 cases hp:zLI p with
 |true=>
  rw[hp]at q1
  have:rgtP p t=false:=by simp[rgtP,hp]
  rw[this]
  refine zSa C_ok Try.func77 rfl (by decide) (YAL rfl) (by decide) rfl fun ok H=> ?_
  rw[Try.results77]
  repeat' first
   |((first|apply zJn (fun _ _=>rfl)|apply zIy (fun _ _=>rfl));(· intro hb;(try simp only[YAA,YAD,YAE,YAC]at hb);simp only[hb,↓zaL,↓zHC,WZ,reduceIte,yA,yB,yC,yD,reduceCtorEq,yE,yF,W1,W1P,W1E,W5];exact⟨rfl,trivial⟩))
   |((first|apply zJi (q1)|apply zIt (q1)|apply zJi (q2)|apply zIt (q2));(· intro hb;(try simp only[YAA,YAD,YAE,YAC]at hb);simp only[hb,AV.norm,AV.zQg,W2,W2P,W2E,↓zaL,↓zHC,WZ,reduceIte,yA,yB,yC,yD,reduceCtorEq,yE,yF,W1,W1P,W1E,W5];rfl))
   |(with_reducible first|apply bA|apply bB|apply bC|apply bD|apply bE|apply bF)<;>intro h<;>try simp only[h,↓zaL,↓zHC,WZ,reduceIte,yA,yB,yC,yD,reduceCtorEq,yE,yF,W1,W1P,W1E,W5]
   |((first|apply bG|apply bH);simp only[AV.norm,AV.zQg,W2,W2P,W2E];first|refine zIf (q1) (.inl rfl) ?_|refine zIf (q2) (.inl rfl) ?_|refine zIj (q1) (.inl rfl) ?_|refine zIj (q2) (.inl rfl) ?_)
   |simp only[↓zaL,↓zHC,WZ,reduceIte,yA,yB,yC,yD,reduceCtorEq,yE,yF,W1,W1P,W1E,W5]
 |false=>
  have qr:=zTH p (by have:=zLJ hp;omega)
  rw[<-zEk]at qr
  rw[hp]at q1
  have:rgtP p t=(!heavy [t]&&chkP p&&right t):=by simp[rgtP,hp]
  rw[this]
  generalize heavy [t]=b1 at*
  generalize chkP p=b2 at*
  generalize right t=b3 at*
  refine zSa C_ok Try.func77 rfl (by decide) (YAL rfl) (by decide) rfl fun ok H=> ?_
  rw[Try.results77]
  repeat' first
   |((first|apply zJn (fun _ _=>rfl)|apply zIy (fun _ _=>rfl));(· intro hb;(try simp only[YAA,YAD,YAE,YAC]at hb);simp only[hb,↓zaL,↓zHC,WZ,reduceIte,yA,yB,yC,yD,reduceCtorEq,yE,yF,W1,W1P,W1E,W5];exact⟨rfl,trivial⟩))
   |((first|apply zJi (q1)|apply zIt (q1)|apply zJi (q2)|apply zIt (q2)|apply zJi (qr)|apply zIt (qr)|apply zJi (qt)|apply zIt (qt));(· intro hb;(try simp only[YAA,YAD,YAE,YAC]at hb);simp only[hb,AV.norm,AV.zQg,W2,W2P,W2E,↓zaL,↓zHC,WZ,reduceIte,yA,yB,yC,yD,reduceCtorEq,yE,yF,W1,W1P,W1E,W5];rfl))
   |(with_reducible first|apply bA|apply bB|apply bC|apply bD|apply bE|apply bF)<;>intro h<;>try simp only[h,↓zaL,↓zHC,WZ,reduceIte,yA,yB,yC,yD,reduceCtorEq,yE,yF,W1,W1P,W1E,W5]
   |((first|apply bG|apply bH);simp only[AV.norm,AV.zQg,W2,W2P,W2E];first|refine zIf (q1) (.inl rfl) ?_|refine zIf (q2) (.inl rfl) ?_|refine zIf (qr) (.inl rfl) ?_|refine zIf (qt) (.inl rfl) ?_|refine zIj (q1) (.inl rfl) ?_|refine zIj (q2) (.inl rfl) ?_|refine zIj (qr) (.inl rfl) ?_|refine zIj (qt) (.inl rfl) ?_)
   |simp only[↓zaL,↓zHC,WZ,reduceIte,yA,yB,yC,yD,reduceCtorEq,yE,yF,W1,W1P,W1E,W5]
end Go.Proofs.Ytdngjamjccjlmaa
