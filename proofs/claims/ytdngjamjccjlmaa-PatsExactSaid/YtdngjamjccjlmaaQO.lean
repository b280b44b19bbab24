/- PatsExact answers true, whatever the input. No condition. -/
import Derived.Test.YtdngjamjccjlmaaQN
import Derived.Test.YtdngjamjccjlmaaQW
import Derived.Test.YtdngjamjccjlmaaPFa
set_option linter.unusedSimpArgs false
set_option linter.unusedVariables false
set_option maxHeartbeats 4000000
set_option maxRecDepth 100000
namespace Go.Proofs.Ytdngjamjccjlmaa
open Go Go.Ab
open Nat renaming reduceEqDiff -> yA, reduceAdd -> yB, reduceLT -> yC, reduceLeDiff -> yD, reduceMul -> yE, reducePow -> yF, reduceBEq -> yG
open Int renaming reduceAdd -> yH, reduceLT -> yI, reduceToNat -> yJ, reduceBEq -> yK, reduceBNe -> yL, reduceLE -> yM
attribute [local irreducible] zA0 zAA zAa zAi zAj GoIf GoGb zAk GoO GoD GoX GoDX GoG GoDG GoGv zAl Go zAB
theorem fsOf(H L:List AObj)(e:Nat->AV)(n:Nat):(⟨e,H.length,H,L,n⟩:AState)=FS e (H++L) H.length n:=by simp[FS]
theorem zcj(p:Pt)(t:Ty):zA0 Try.prog 15 [embP p,emb t] (.bool true):=by
 have q1:=zLK p
 have q2:=zLH t
 have qw:=zao
 cases hp:zLI p with
 |true=>
  rw[hp]at q1
  refine zSa C_ok Try.func15 rfl (by decide) (YAL rfl) (by decide) rfl fun ok H=> ?_
  rw[Try.results15]
  repeat' first
   |((first|apply zJn (fun _ _=>rfl)|apply zIy (fun _ _=>rfl));(· intro hb;(try simp only[YAA,YAD,YAE,YAC]at hb);simp only[hb,↓zaL,↓zHC,WZ,reduceIte,yA,yB,yC,yD,reduceCtorEq,yE,yF,W1,W1P,W1E,W5];exact⟨rfl,trivial⟩))
   |((first|apply zJi (q1)|apply zIt (q1));(· intro hb;(try simp only[YAA,YAD,YAE,YAC]at hb);simp only[hb,AV.norm,AV.zQg,W2,W2P,W2E,↓zaL,↓zHC,WZ,reduceIte,yA,yB,yC,yD,reduceCtorEq,yE,yF,W1,W1P,W1E,W5];rfl))
   |(with_reducible first|apply bA|apply bB|apply bC|apply bD|apply bE|apply bF)<;>intro h<;>try simp only[h,↓zaL,↓zHC,WZ,reduceIte,yA,yB,yC,yD,reduceCtorEq,yE,yF,W1,W1P,W1E,W5]
   |((first|apply bG|apply bH);simp only[AV.norm,AV.zQg,W2,W2P,W2E];first|refine zIf (q1) (.inl rfl) ?_|refine zIj (q1) (.inl rfl) ?_)
   |refine zKg (id:=3) C_ok (fun _=>trivial) mixed 2 Try.f15.ntmps rfl (by kernel_rfl) (by decide) ?_
   |refine zKg (id:=5) C_ok (fun _=>trivial) mixed 0 Try.f15.ntmps rfl (by kernel_rfl) (by decide) ?_
   |simp only[↓zaL,↓zHC,WZ,reduceIte,yA,yB,yC,yD,reduceCtorEq,yE,yF,W1,W1P,W1E,W5]
 |false=>
 rw[hp]at q1
 have hsz:=zLJ hp
 cases ht:heavy [t]with
 |true=>
  rw[ht]at q2
  refine zSa C_ok Try.func15 rfl (by decide) (YAL rfl) (by decide) rfl fun ok H=> ?_
  rw[Try.results15]
  repeat' first
   |((first|apply zJn (fun _ _=>rfl)|apply zIy (fun _ _=>rfl));(· intro hb;(try simp only[YAA,YAD,YAE,YAC]at hb);simp only[hb,↓zaL,↓zHC,WZ,reduceIte,yA,yB,yC,yD,reduceCtorEq,yE,yF,W1,W1P,W1E,W5];exact⟨rfl,trivial⟩))
   |((first|apply zJi (q1)|apply zIt (q1)|apply zJi (q2)|apply zIt (q2));(· intro hb;(try simp only[YAA,YAD,YAE,YAC]at hb);simp only[hb,AV.norm,AV.zQg,W2,W2P,W2E,↓zaL,↓zHC,WZ,reduceIte,yA,yB,yC,yD,reduceCtorEq,yE,yF,W1,W1P,W1E,W5];rfl))
   |(with_reducible first|apply bA|apply bB|apply bC|apply bD|apply bE|apply bF)<;>intro h<;>try simp only[h,↓zaL,↓zHC,WZ,reduceIte,yA,yB,yC,yD,reduceCtorEq,yE,yF,W1,W1P,W1E,W5]
   |((first|apply bG|apply bH);simp only[AV.norm,AV.zQg,W2,W2P,W2E];first|refine zIf (q1) (.inl rfl) ?_|refine zIf (q2) (.inl rfl) ?_|refine zIj (q1) (.inl rfl) ?_|refine zIj (q2) (.inl rfl) ?_)
   |refine zKg (id:=3) C_ok (fun _=>trivial) mixed 2 Try.f15.ntmps rfl (by kernel_rfl) (by decide) ?_
   |refine zKg (id:=5) C_ok (fun _=>trivial) mixed 0 Try.f15.ntmps rfl (by kernel_rfl) (by decide) ?_
   |simp only[↓zaL,↓zHC,WZ,reduceIte,yA,yB,yC,yD,reduceCtorEq,yE,yF,W1,W1P,W1E,W5]
 |false=>
 rw[ht]at q2
 have hn:=zLP (l:=[t]) (by rw[ht];decide) (t:=t) (by simp)
 have q3:=zcR p (by omega)
 have q4:=zcT t (by omega)
 have q5:=bind_ok p t (by omega)
 have q6:=zRt p (by omega)
 have q7:=zTG p (by omega)
 have q8:=zYR (zPr p)
 have q9:=zcw p
 have qs:=zMo t t
 rw[zVO]at qs
 have qr:=zTH p (by omega)
 rw[<-zEk]at qr
 have qt:=zUa t
 have z1:((1:Int)==1)=true:=rfl
 have z0:(((0:Nat):Int)==0)=true:=rfl
 by_cases hg:chkP p=true/\right t=true
 case neg=>
  rw[zDm hg]at q5
  have hbad:chkP p=false\/(chkP p=true/\right t=false):=by
   cases h1:chkP p
   ·exact .inl rfl
   ·right;refine⟨rfl,?_⟩;cases h2:right t
    ·rfl
    ·exact absurd ⟨h1,h2⟩ hg
  rcases hbad with h1|⟨h1,h2⟩
  ·rw[h1]at qr
   refine zSa C_ok Try.func15 rfl (by decide) (YAL rfl) (by decide) rfl fun ok H=> ?_
   rw[Try.results15]
   repeat' first
    |((first|apply zJn (fun _ _=>rfl)|apply zIy (fun _ _=>rfl));(· intro hb;(try simp only[YAA,YAD,YAE,YAC]at hb);simp only[hb,↓zaL,↓zHC,WZ,reduceIte,yA,yB,yC,yD,reduceCtorEq,yE,yF,W1,W1P,W1E,W5,zXu,z1,z0,List.length_nil];exact⟨rfl,trivial⟩))
    |((first|apply zJi (q1)|apply zIt (q1)|apply zJi (q2)|apply zIt (q2)|apply zJi (q3)|apply zIt (q3)|apply zJi (q4)|apply zIt (q4)|apply zJi (q5)|apply zIt (q5)|apply zJi (q6)|apply zIt (q6)|apply zJi (q7)|apply zIt (q7)|apply zJi (q8)|apply zIt (q8)|apply zJi (q9)|apply zIt (q9)|apply zJi (qs)|apply zIt (qs)|apply zJi (qr)|apply zIt (qr)|apply zJi (qw)|apply zIt (qw));(· intro hb;(try simp only[YAA,YAD,YAE,YAC]at hb);simp only[hb,AV.norm,AV.zQg,W2,W2P,W2E,↓zaL,↓zHC,WZ,reduceIte,yA,yB,yC,yD,reduceCtorEq,yE,yF,W1,W1P,W1E,W5,zXu,z1,z0,List.length_nil];rfl))
    |(with_reducible first|apply bA|apply bB|apply bC|apply bD|apply bE|apply bF)<;>intro h<;>try simp only[h,↓zaL,↓zHC,WZ,reduceIte,yA,yB,yC,yD,reduceCtorEq,yE,yF,W1,W1P,W1E,W5,zXu,z1,z0,List.length_nil]
    |((first|apply bG|apply bH);simp only[AV.norm,AV.zQg,W2,W2P,W2E,zXu,z1,z0,List.length_nil];first|refine zIf (q1) (.inl rfl) ?_|refine zIf (q2) (.inl rfl) ?_|refine zIf (q3) (.inl rfl) ?_|refine zIf (q4) (.inl rfl) ?_|refine zIf (q5) (.inl rfl) ?_|refine zIf (q6) (.inl rfl) ?_|refine zIf (q7) (.inl rfl) ?_|refine zIf (q8) (.inl rfl) ?_|refine zIf (q9) (.inl rfl) ?_|refine zIf (qs) (.inl rfl) ?_|refine zIf (qr) (.inl rfl) ?_|refine zIf (qw) (.inl rfl) ?_|refine zIj (q1) (.inl rfl) ?_|refine zIj (q2) (.inl rfl) ?_|refine zIj (q3) (.inl rfl) ?_|refine zIj (q4) (.inl rfl) ?_|refine zIj (q5) (.inl rfl) ?_|refine zIj (q6) (.inl rfl) ?_|refine zIj (q7) (.inl rfl) ?_|refine zIj (q8) (.inl rfl) ?_|refine zIj (q9) (.inl rfl) ?_|refine zIj (qs) (.inl rfl) ?_|refine zIj (qr) (.inl rfl) ?_|refine zIj (qw) (.inl rfl) ?_)
    |refine zKg (id:=3) C_ok (fun _=>trivial) mixed 2 Try.f15.ntmps rfl (by kernel_rfl) (by decide) ?_
    |refine zKg (id:=5) C_ok (fun _=>trivial) mixed 0 Try.f15.ntmps rfl (by kernel_rfl) (by decide) ?_
    |simp only[↓zaL,↓zHC,WZ,reduceIte,yA,yB,yC,yD,reduceCtorEq,yE,yF,W1,W1P,W1E,W5,zXu,z1,z0,List.length_nil]
  ·rw[h1]at qr
   rw[h2]at qt
   refine zSa C_ok Try.func15 rfl (by decide) (YAL rfl) (by decide) rfl fun ok H=> ?_
   rw[Try.results15]
   repeat' first
    |((first|apply zJn (fun _ _=>rfl)|apply zIy (fun _ _=>rfl));(· intro hb;(try simp only[YAA,YAD,YAE,YAC]at hb);simp only[hb,↓zaL,↓zHC,WZ,reduceIte,yA,yB,yC,yD,reduceCtorEq,yE,yF,W1,W1P,W1E,W5,zXu,z1,z0,List.length_nil];exact⟨rfl,trivial⟩))
    |((first|apply zJi (q1)|apply zIt (q1)|apply zJi (q2)|apply zIt (q2)|apply zJi (q3)|apply zIt (q3)|apply zJi (q4)|apply zIt (q4)|apply zJi (q5)|apply zIt (q5)|apply zJi (q6)|apply zIt (q6)|apply zJi (q7)|apply zIt (q7)|apply zJi (q8)|apply zIt (q8)|apply zJi (q9)|apply zIt (q9)|apply zJi (qs)|apply zIt (qs)|apply zJi (qr)|apply zIt (qr)|apply zJi (qt)|apply zIt (qt)|apply zJi (qw)|apply zIt (qw));(· intro hb;(try simp only[YAA,YAD,YAE,YAC]at hb);simp only[hb,AV.norm,AV.zQg,W2,W2P,W2E,↓zaL,↓zHC,WZ,reduceIte,yA,yB,yC,yD,reduceCtorEq,yE,yF,W1,W1P,W1E,W5,zXu,z1,z0,List.length_nil];rfl))
    |(with_reducible first|apply bA|apply bB|apply bC|apply bD|apply bE|apply bF)<;>intro h<;>try simp only[h,↓zaL,↓zHC,WZ,reduceIte,yA,yB,yC,yD,reduceCtorEq,yE,yF,W1,W1P,W1E,W5,zXu,z1,z0,List.length_nil]
    |((first|apply bG|apply bH);simp only[AV.norm,AV.zQg,W2,W2P,W2E,zXu,z1,z0,List.length_nil];first|refine zIf (q1) (.inl rfl) ?_|refine zIf (q2) (.inl rfl) ?_|refine zIf (q3) (.inl rfl) ?_|refine zIf (q4) (.inl rfl) ?_|refine zIf (q5) (.inl rfl) ?_|refine zIf (q6) (.inl rfl) ?_|refine zIf (q7) (.inl rfl) ?_|refine zIf (q8) (.inl rfl) ?_|refine zIf (q9) (.inl rfl) ?_|refine zIf (qs) (.inl rfl) ?_|refine zIf (qr) (.inl rfl) ?_|refine zIf (qt) (.inl rfl) ?_|refine zIf (qw) (.inl rfl) ?_|refine zIj (q1) (.inl rfl) ?_|refine zIj (q2) (.inl rfl) ?_|refine zIj (q3) (.inl rfl) ?_|refine zIj (q4) (.inl rfl) ?_|refine zIj (q5) (.inl rfl) ?_|refine zIj (q6) (.inl rfl) ?_|refine zIj (q7) (.inl rfl) ?_|refine zIj (q8) (.inl rfl) ?_|refine zIj (q9) (.inl rfl) ?_|refine zIj (qs) (.inl rfl) ?_|refine zIj (qr) (.inl rfl) ?_|refine zIj (qt) (.inl rfl) ?_|refine zIj (qw) (.inl rfl) ?_)
    |refine zKg (id:=3) C_ok (fun _=>trivial) mixed 2 Try.f15.ntmps rfl (by kernel_rfl) (by decide) ?_
    |refine zKg (id:=5) C_ok (fun _=>trivial) mixed 0 Try.f15.ntmps rfl (by kernel_rfl) (by decide) ?_
    |simp only[↓zaL,↓zHC,WZ,reduceIte,yA,yB,yC,yD,reduceCtorEq,yE,yF,W1,W1P,W1E,W5,zXu,z1,z0,List.length_nil]
 obtain⟨h1,h2⟩:=hg
 rw[zDn h1 h2]at q5
 rw[h1]at qr
 rw[h2]at qt
 have hb:∀H:List AObj,H.length<=H.length:=fun H=>YAV _
 refine zSa C_ok Try.func15 rfl (by decide) (YAL rfl) (by decide) rfl fun ok H=> ?_
 rw[Try.results15]
 obtain⟨F1,hF1⟩:∃F1,F1=H++ [AObj.box (cellsOf (embP p)),.box (cellsOf (emb t)),.box (cellsOf (embP p)),.box (cellsOf (emb t))]:=⟨_,rfl⟩
 obtain⟨r,F2,d,h0⟩:=zcr p (zRK h1) t h2 [] (.sl [] .full) F1 (by simp only[List.length_nil];omega) (.inl ⟨rfl,rfl⟩)
 obtain⟨a1,es,a2,rfl,hac,hy⟩:=h0.out
 have hbel2:(∀x∈F1.take H.length,x.bel H.length=true)->∀x∈F2.take H.length,x.bel H.length=true:=fun h=>hac.bel (.inl ⟨rfl,rfl⟩) (by rw[hF1];simp) h
 obtain⟨hn1,J,rfl⟩:=hac.out
 rw[hF1]at d hbel2
 simp only[zGi,zGy]at d hbel2
 cases hm:zDo p t []with
 |none=>
  rw[hm]at d q5
  simp only[Option.isSome_none]at d q5
  repeat' first
   |((first|apply zJn (fun _ _=>rfl)|apply zIy (fun _ _=>rfl));(· intro hb;(try simp only[YAA,YAD,YAE,YAC]at hb);simp only[hb,↓zaL,↓zHC,WZ,reduceIte,yA,yB,yC,yD,reduceCtorEq,yE,yF,W1,W1P,W1E,W5,zXu,Bool.not_true,Bool.not_false];exact⟨rfl,trivial⟩))
   |((first|apply zJi (q1)|apply zIt (q1)|apply zJi (q2)|apply zIt (q2)|apply zJi (q3)|apply zIt (q3)|apply zJi (q4)|apply zIt (q4)|apply zJi (q5)|apply zIt (q5)|apply zJi (q6)|apply zIt (q6)|apply zJi (q7)|apply zIt (q7)|apply zJi (q8)|apply zIt (q8)|apply zJi (q9)|apply zIt (q9)|apply zJi (qs)|apply zIt (qs)|apply zJi (qr)|apply zIt (qr)|apply zJi (qt)|apply zIt (qt));(· intro hb;(try simp only[YAA,YAD,YAE,YAC]at hb);simp only[hb,AV.norm,AV.zQg,W2,W2P,W2E,↓zaL,↓zHC,WZ,reduceIte,yA,yB,yC,yD,reduceCtorEq,yE,yF,W1,W1P,W1E,W5,zXu,Bool.not_true,Bool.not_false];rfl))
   |(with_reducible first|apply bA|apply bB|apply bC|apply bD|apply bE|apply bF)<;>intro h<;>try simp only[h,↓zaL,↓zHC,WZ,reduceIte,yA,yB,yC,yD,reduceCtorEq,yE,yF,W1,W1P,W1E,W5,zXu,Bool.not_true,Bool.not_false]
   |((first|apply bG|apply bH);simp only[AV.norm,AV.zQg,W2,W2P,W2E,zXu,Bool.not_true,Bool.not_false];first|refine zIf (q1) (.inl rfl) ?_|refine zIf (q2) (.inl rfl) ?_|refine zIf (q3) (.inl rfl) ?_|refine zIf (q4) (.inl rfl) ?_|refine zIf (q5) (.inl rfl) ?_|refine zIf (q6) (.inl rfl) ?_|refine zIf (q7) (.inl rfl) ?_|refine zIf (q8) (.inl rfl) ?_|refine zIf (q9) (.inl rfl) ?_|refine zIf (qs) (.inl rfl) ?_|refine zIf (qr) (.inl rfl) ?_|refine zIf (qt) (.inl rfl) ?_|refine zIj (q1) (.inl rfl) ?_|refine zIj (q2) (.inl rfl) ?_|refine zIj (q3) (.inl rfl) ?_|refine zIj (q4) (.inl rfl) ?_|refine zIj (q5) (.inl rfl) ?_|refine zIj (q6) (.inl rfl) ?_|refine zIj (q7) (.inl rfl) ?_|refine zIj (q8) (.inl rfl) ?_|refine zIj (q9) (.inl rfl) ?_|refine zIj (qs) (.inl rfl) ?_|refine zIj (qr) (.inl rfl) ?_|refine zIj (qt) (.inl rfl) ?_)
   |refine zKg (id:=3) C_ok (fun _=>trivial) mixed 2 Try.f15.ntmps rfl (by kernel_rfl) (by decide) ?_
   |refine zKg (id:=5) C_ok (fun _=>trivial) mixed 0 Try.f15.ntmps rfl (by kernel_rfl) (by decide) ?_
   |simp only[↓zaL,↓zHC,WZ,reduceIte,yA,yB,yC,yD,reduceCtorEq,yE,yF,W1,W1P,W1E,W5,zXu,Bool.not_true,Bool.not_false]
  rw[fsOf]
  refine zIA d (.inl rfl) hbel2 ?_
  have h:=YAN
  repeat' (first
   |(with_reducible first|apply bA|apply bB|apply bC|apply bD|apply bE|apply bF)<;>intro h
   |((first|apply bG|apply bH);simp only[AV.norm,AV.zQg,W2,W2P,W2E,hb,z1,z0,List.length_nil,beq_self_eq_true];first|refine zIf (qw) (.inl rfl) ?_|refine zIj (qw) (.inl rfl) ?_)
   |refine zKh (id:=3) C_ok (fun _=>trivial) mixed 2 Try.f15.ntmps (by first|(simp;done)|(simp;omega)) rfl (by kernel_rfl) (by decide) ?_
   |refine zKh (id:=5) C_ok (fun _=>trivial) mixed 0 Try.f15.ntmps (by first|(simp;done)|(simp;omega)) rfl (by kernel_rfl) (by decide) ?_
   |skip)<;>simp only[h,↓zaL,↓zHC,WY,reduceIte,yA,yB,yC,yD,reduceCtorEq,yE,yF,W1,W1P,W1E,WS,hb,z1,z0,List.length_nil,beq_self_eq_true]
  all_goals simp
 |some L=>
  rw[hm]at d q5
  obtain⟨rfl,rfl⟩:=hy L hm
  simp only[Option.isSome_some]at d q5
  have qe:=zcB L
  repeat' first
   |((first|apply zJn (fun _ _=>rfl)|apply zIy (fun _ _=>rfl));(· intro hb;(try simp only[YAA,YAD,YAE,YAC]at hb);simp only[hb,↓zaL,↓zHC,WZ,reduceIte,yA,yB,yC,yD,reduceCtorEq,yE,yF,W1,W1P,W1E,W5,zXu,Bool.not_true,Bool.not_false];exact⟨rfl,trivial⟩))
   |((first|apply zJi (q1)|apply zIt (q1)|apply zJi (q2)|apply zIt (q2)|apply zJi (q3)|apply zIt (q3)|apply zJi (q4)|apply zIt (q4)|apply zJi (q5)|apply zIt (q5)|apply zJi (q6)|apply zIt (q6)|apply zJi (q7)|apply zIt (q7)|apply zJi (q8)|apply zIt (q8)|apply zJi (q9)|apply zIt (q9)|apply zJi (qs)|apply zIt (qs)|apply zJi (qr)|apply zIt (qr)|apply zJi (qt)|apply zIt (qt));(· intro hb;(try simp only[YAA,YAD,YAE,YAC]at hb);simp only[hb,AV.norm,AV.zQg,W2,W2P,W2E,↓zaL,↓zHC,WZ,reduceIte,yA,yB,yC,yD,reduceCtorEq,yE,yF,W1,W1P,W1E,W5,zXu,Bool.not_true,Bool.not_false];rfl))
   |(with_reducible first|apply bA|apply bB|apply bC|apply bD|apply bE|apply bF)<;>intro h<;>try simp only[h,↓zaL,↓zHC,WZ,reduceIte,yA,yB,yC,yD,reduceCtorEq,yE,yF,W1,W1P,W1E,W5,zXu,Bool.not_true,Bool.not_false]
   |((first|apply bG|apply bH);simp only[AV.norm,AV.zQg,W2,W2P,W2E,zXu,Bool.not_true,Bool.not_false];first|refine zIf (q1) (.inl rfl) ?_|refine zIf (q2) (.inl rfl) ?_|refine zIf (q3) (.inl rfl) ?_|refine zIf (q4) (.inl rfl) ?_|refine zIf (q5) (.inl rfl) ?_|refine zIf (q6) (.inl rfl) ?_|refine zIf (q7) (.inl rfl) ?_|refine zIf (q8) (.inl rfl) ?_|refine zIf (q9) (.inl rfl) ?_|refine zIf (qs) (.inl rfl) ?_|refine zIf (qr) (.inl rfl) ?_|refine zIf (qt) (.inl rfl) ?_|refine zIj (q1) (.inl rfl) ?_|refine zIj (q2) (.inl rfl) ?_|refine zIj (q3) (.inl rfl) ?_|refine zIj (q4) (.inl rfl) ?_|refine zIj (q5) (.inl rfl) ?_|refine zIj (q6) (.inl rfl) ?_|refine zIj (q7) (.inl rfl) ?_|refine zIj (q8) (.inl rfl) ?_|refine zIj (q9) (.inl rfl) ?_|refine zIj (qs) (.inl rfl) ?_|refine zIj (qr) (.inl rfl) ?_|refine zIj (qt) (.inl rfl) ?_)
   |refine zKg (id:=3) C_ok (fun _=>trivial) mixed 2 Try.f15.ntmps rfl (by kernel_rfl) (by decide) ?_
   |refine zKg (id:=5) C_ok (fun _=>trivial) mixed 0 Try.f15.ntmps rfl (by kernel_rfl) (by decide) ?_
   |simp only[↓zaL,↓zHC,WZ,reduceIte,yA,yB,yC,yD,reduceCtorEq,yE,yF,W1,W1P,W1E,W5,zXu,Bool.not_true,Bool.not_false]
  rw[fsOf]
  refine zIA d (.inl rfl) hbel2 ?_
  have h:=YAN
  repeat' (first
   |(with_reducible first|apply bA|apply bB|apply bC|apply bD|apply bE|apply bF)<;>intro h
   |((first|apply bG|apply bH);simp only[AV.norm,AV.zQg,W2,W2P,W2E,hb,hn1,zOc,z1,z0,List.length_nil,beq_self_eq_true];first|refine zIf (qe) (.inl rfl) ?_|refine zIf (qw) (.inl rfl) ?_|refine zIj (qe) (.inl rfl) ?_|refine zIj (qw) (.inl rfl) ?_)
   |refine zKh (id:=3) C_ok (fun _=>trivial) mixed 2 Try.f15.ntmps (by first|(simp;done)|(simp;omega)) rfl (by kernel_rfl) (by decide) ?_
   |refine zKh (id:=5) C_ok (fun _=>trivial) mixed 0 Try.f15.ntmps (by first|(simp;done)|(simp;omega)) rfl (by kernel_rfl) (by decide) ?_
   |skip)<;>simp only[h,↓zaL,↓zHC,WY,reduceIte,yA,yB,yC,yD,reduceCtorEq,yE,yF,W1,W1P,W1E,WS,hb,hn1,zOc,z1,z0,List.length_nil,beq_self_eq_true]
  all_goals simp
end Go.Proofs.Ytdngjamjccjlmaa
