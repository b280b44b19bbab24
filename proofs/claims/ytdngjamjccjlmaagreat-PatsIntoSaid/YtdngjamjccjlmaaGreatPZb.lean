/- Lemmas: patterns that are right. No condition. -/
import Derived.Test.YtdngjamjccjlmaaGreatPZa
import Derived.Test.YtdngjamjccjlmaaGreatY4
set_option linter.unusedSimpArgs false
set_option linter.unusedVariables false
set_option maxHeartbeats 4000000
set_option maxRecDepth 100000
namespace Go.Proofs.YtdngjamjccjlmaaGreat
open Go Go.Ab
open Nat renaming reduceEqDiff -> yA, reduceAdd -> yB, reduceLT -> yC, reduceLeDiff -> yD, reduceMul -> yE, reducePow -> yF
open Int renaming reduceAdd -> yH, reduceLT -> yI, reduceBEq -> yK
open AV renaming normL -> yQ, norm -> yP, belL -> yO, bel -> yN
open AObj renaming bel -> yR
attribute [local irreducible] zA0 zAA zAa zAi zAj GoIf GoGb zAk GoO GoD GoX GoDX GoG GoDG GoGv zAl Go zAB
section
theorem zRF:∀l:List Pt,okAL l=allN l.length fun i=>okA (l.getD i default)
 | []=>rfl
 |t::l=>by rw[okAL,List.length_cons,zB6,zRF l];rfl
theorem zRI(p:Pt):okA p=(okP p&&allN p.kids.length fun i=>okA (p.kid i)):=by
 cases p with|mk k f t m n s l=>rw[okA,zRF];rfl
theorem zRJ{p:Pt}(h:p.kids.length=0):okA p=okP p:=by rw[zRI,h];simp[allN]
theorem zRL{p:Pt}(h:p.kids.length=2):okA p=(okP p&&(okA (p.kid 0)&&okA (p.kid 1))):=by rw[zRI,h];simp[allN,List.range_succ]
theorem zRG{p:Pt}(h:okP p=false):okA p=false:=by rw[zRI,h];rfl
theorem zQJ(l:List UInt8):(!(l==ByteArray.empty.data.toList))=decide (l≠[]):=by cases l<;>rfl
theorem zRO{p:Pt}(h7:p.kind≠7)(h9:p.kind≠9)(h:okP p=true):p.kids.length=0:=by
 simp only[okP,YAA,YAa]at h
 have:=h.1.1.2
 rw[if_neg (by omega)]at this;omega
theorem zSE(p:Pt)(hk:p.kind=1):zA0 Tryz.prog 66 [embP p] (.bool (okA p)):=by
 have hBE:∀j:Int,(p.kind==j)=((1:Int)==j):=fun j=>by rw[hk]
 have hz:p.str.data= #[]->p.str.size=0:=fun h=>by rw[ByteArray.size,h];rfl
 refine eP C_ok Tryz.func66 Tryz.results66 fun ok H=> ?_
 repeat' first
  |(apply zJn (fun _ _=>rfl);(· intro hb;(try simp only[YAE,YAC]at hb);simp only[hb,↓zaL,WZ,yA,yB,yC,W1,Bool.or_false];exact⟨rfl,trivial⟩))
  |(apply zJi (zUA _);(· intro hb;(try simp only[YAA,YAD,YAE,YAC]at hb);simp only[hb,yP,yQ,W2,W2P,↓zaL,↓zHC,WZ,reduceIte,yA,yB,yC,yD,reduceCtorEq,yE,yF,W1,W1P,W5,hBE,yK];rfl))
  |(apply zIy (fun _ _=>rfl);(· intro hb;(try simp only[YAA,YAD,YAE,YAC]at hb);simp only[hb,↓zaL,↓zHC,WZ,reduceIte,yA,yB,yC,yD,reduceCtorEq,yE,yF,W1,W1P,W5,hBE,yK];exact⟨rfl,trivial⟩))
  |(apply zIt (zUA _);(· intro hb;(try simp only[YAA,YAD,YAE,YAC]at hb);simp only[hb,yP,yQ,W2,W2P,↓zaL,↓zHC,WZ,reduceIte,yA,yB,yC,yD,reduceCtorEq,yE,yF,W1,W1P,W5,hBE,yK];rfl))
  |(with_reducible first|apply bA|apply bB|apply bC|apply bD|apply bE|apply bF)<;>intro h<;>try simp only[h,↓zaL,WZ,yA]
  |simp only[↓zaL,WZ,yA,yB,yD,W1,W1P,zML,zMK,hBE]
 all_goals have h:=YAN
 repeat' (first
  |refine zJ9 ?_ C_ok Tryz.f66.ntmps rfl (by decide)
  |skip)<;>simp only[h,↓zaL,WZ,yA,W1,W3]
 all_goals clear hBE
 all_goals try simp only[ByteArray.toList_eq,zQJ,YAP,YAE,YAa,decide_eq_false_iff_not,ne_eq,bne_iff_ne,bne_eq_false_iff_eq,Int.natCast_eq_zero]at*
 all_goals
  by_cases hl:p.kids.length=0
  ·rw[zRJ hl];simp_all [okP]<;>first|omega|(intros;simp_all;done)|(intros;omega)|trace_state
  ·rw[zRG (by cases e:okP p with|false=>rfl|true=>exact absurd (zRO (by omega) (by omega) e) hl)]<;>simp_all<;>omega
theorem zSF(p:Pt)(hk:p.kind=2):zA0 Tryz.prog 66 [embP p] (.bool (okA p)):=by
 have hBE:∀j:Int,(p.kind==j)=((2:Int)==j):=fun j=>by rw[hk]
 have hz:p.str.data= #[]->p.str.size=0:=fun h=>by rw[ByteArray.size,h];rfl
 refine eP C_ok Tryz.func66 Tryz.results66 fun ok H=> ?_
 repeat' first
  |(apply zJn (fun _ _=>rfl);(· intro hb;(try simp only[YAE]at hb);simp only[hb,↓zaL,WZ,yA,yB,yC,W1,Bool.or_false];exact⟨rfl,trivial⟩))
  |(apply zJi (zUA _);(· intro hb;(try simp only[YAA,YAD,YAE,YAC]at hb);simp only[hb,yP,yQ,W2,W2P,↓zaL,↓zHC,WZ,reduceIte,yA,yB,yC,yD,reduceCtorEq,yE,yF,W1,W1P,W5,hBE,yK];rfl))
  |(apply zIy (fun _ _=>rfl);(· intro hb;(try simp only[YAA,YAD,YAE,YAC]at hb);simp only[hb,↓zaL,↓zHC,WZ,reduceIte,yA,yB,yC,yD,reduceCtorEq,yE,yF,W1,W1P,W5,hBE,yK];exact⟨rfl,trivial⟩))
  |(apply zIt (zUA _);(· intro hb;(try simp only[YAA,YAD,YAE,YAC]at hb);simp only[hb,yP,yQ,W2,W2P,↓zaL,↓zHC,WZ,reduceIte,yA,yB,yC,yD,reduceCtorEq,yE,yF,W1,W1P,W5,hBE,yK];rfl))
  |(with_reducible first|apply bA|apply bB|apply bC|apply bD|apply bE|apply bF)<;>intro h<;>try simp only[h,↓zaL,WZ,yA,yB,W1]
  |((first|apply bG|apply bH);simp only[yP,yQ];refine zIf (zUA _) (.inl rfl) ?_)
  |simp only[↓zaL,WZ,yA,yB,yC,yD,W1,W1P,zML,zMJ,zMK,hBE,yK]
 all_goals have h:=YAN
 repeat' (first
  |refine zJ9 ?_ C_ok Tryz.f66.ntmps rfl (by decide)
  |skip)<;>simp only[h,↓zaL,WZ,yA,W1,W3]
 all_goals clear hBE
 all_goals try simp only[ByteArray.toList_eq,zQJ,YAP,YAE,YAa,decide_eq_false_iff_not,ne_eq,bne_iff_ne,bne_eq_false_iff_eq,Int.natCast_eq_zero]at*
 all_goals
  by_cases hl:p.kids.length=0
  ·rw[zRJ hl];simp_all [okP]<;>first|omega|(intros;simp_all;done)|(intros;omega)|trace_state
  ·rw[zRG (by cases e:okP p with|false=>rfl|true=>exact absurd (zRO (by omega) (by omega) e) hl)]<;>simp_all<;>omega
theorem zSG(p:Pt)(hk:p.kind=3):zA0 Tryz.prog 66 [embP p] (.bool (okA p)):=by
 have hBE:∀j:Int,(p.kind==j)=((3:Int)==j):=fun j=>by rw[hk]
 have hz:p.str.data= #[]->p.str.size=0:=fun h=>by rw[ByteArray.size,h];rfl
 refine eP C_ok Tryz.func66 Tryz.results66 fun ok H=> ?_
 repeat' first
  |(apply zJn (fun _ _=>rfl);(· intro hb;(try simp only[YAE,YAC]at hb);simp only[hb,↓zaL,WZ,yA,yB,yC,W1,Bool.or_false];exact⟨rfl,trivial⟩))
  |(apply zJi (zUA _);(· intro hb;(try simp only[YAA,YAD,YAE,YAC]at hb);simp only[hb,yP,yQ,W2,W2P,↓zaL,↓zHC,WZ,reduceIte,yA,yB,yC,yD,reduceCtorEq,yE,yF,W1,W1P,W5,hBE,yK];rfl))
  |(apply zIy (fun _ _=>rfl);(· intro hb;(try simp only[YAA,YAD,YAE,YAC]at hb);simp only[hb,↓zaL,↓zHC,WZ,reduceIte,yA,yB,yC,yD,reduceCtorEq,yE,yF,W1,W1P,W5,hBE,yK];exact⟨rfl,trivial⟩))
  |(apply zIt (zUA _);(· intro hb;(try simp only[YAA,YAD,YAE,YAC]at hb);simp only[hb,yP,yQ,W2,W2P,↓zaL,↓zHC,WZ,reduceIte,yA,yB,yC,yD,reduceCtorEq,yE,yF,W1,W1P,W5,hBE,yK];rfl))
  |(with_reducible first|apply bA|apply bB|apply bC|apply bD|apply bE|apply bF)<;>intro h<;>try simp only[h,↓zaL,WZ,yA]
  |simp only[↓zaL,WZ,yA,yB,yC,yD,W1,W1P,zML,zMK,hBE,yK]
 all_goals have h:=YAN
 repeat' (first
  |refine zJ9 ?_ C_ok Tryz.f66.ntmps rfl (by decide)
  |skip)<;>simp only[h,↓zaL,WZ,yA,W1,W3]
 all_goals clear hBE
 all_goals try simp only[ByteArray.toList_eq,zQJ,YAP,YAE,YAa,decide_eq_false_iff_not,ne_eq,bne_iff_ne,bne_eq_false_iff_eq,Int.natCast_eq_zero]at*
 all_goals
  by_cases hl:p.kids.length=0
  ·rw[zRJ hl];simp_all [okP]<;>first|omega|(intros;simp_all;done)|(intros;omega)|trace_state
  ·rw[zRG (by cases e:okP p with|false=>rfl|true=>exact absurd (zRO (by omega) (by omega) e) hl)]<;>simp_all<;>omega
theorem zSH(p:Pt)(hk:p.kind=4):zA0 Tryz.prog 66 [embP p] (.bool (okA p)):=by
 have hBE:∀j:Int,(p.kind==j)=((4:Int)==j):=fun j=>by rw[hk]
 have hz:p.str.data= #[]->p.str.size=0:=fun h=>by rw[ByteArray.size,h];rfl
 refine eP C_ok Tryz.func66 Tryz.results66 fun ok H=> ?_
 repeat' first
  |(apply zJn (fun _ _=>rfl);(· intro hb;(try simp only[YAE,YAC]at hb);simp only[hb,↓zaL,WZ,yA,yB,yC,W1,Bool.or_false];exact⟨rfl,trivial⟩))
  |(apply zJi (zUA _);(· intro hb;(try simp only[YAA,YAD,YAE,YAC]at hb);simp only[hb,yP,yQ,W2,W2P,↓zaL,↓zHC,WZ,reduceIte,yA,yB,yC,yD,reduceCtorEq,yE,yF,W1,W1P,W5,hBE,yK];rfl))
  |(apply zIy (fun _ _=>rfl);(· intro hb;(try simp only[YAA,YAD,YAE,YAC]at hb);simp only[hb,↓zaL,↓zHC,WZ,reduceIte,yA,yB,yC,yD,reduceCtorEq,yE,yF,W1,W1P,W5,hBE,yK];exact⟨rfl,trivial⟩))
  |(apply zIt (zUA _);(· intro hb;(try simp only[YAA,YAD,YAE,YAC]at hb);simp only[hb,yP,yQ,W2,W2P,↓zaL,↓zHC,WZ,reduceIte,yA,yB,yC,yD,reduceCtorEq,yE,yF,W1,W1P,W5,hBE,yK];rfl))
  |(with_reducible first|apply bA|apply bB|apply bC|apply bD|apply bE|apply bF)<;>intro h<;>try simp only[h,↓zaL,WZ,yA,yB,W1]
  |simp only[↓zaL,WZ,yA,yB,yC,yD,W1,W1P,zML,zMK,hBE,yK]
 all_goals have h:=YAN
 repeat' (first
  |refine zJ9 ?_ C_ok Tryz.f66.ntmps rfl (by decide)
  |skip)<;>simp only[h,↓zaL,WZ,yA,W1,W3]
 all_goals clear hBE
 all_goals try simp only[ByteArray.toList_eq,zQJ,YAP,YAE,YAa,decide_eq_false_iff_not,ne_eq,bne_iff_ne,bne_eq_false_iff_eq,Int.natCast_eq_zero]at*
 all_goals
  by_cases hl:p.kids.length=0
  ·rw[zRJ hl];simp_all [okP]<;>first|omega|(intros;simp_all;done)|(intros;omega)|trace_state
  ·rw[zRG (by cases e:okP p with|false=>rfl|true=>exact absurd (zRO (by omega) (by omega) e) hl)]<;>simp_all<;>omega
theorem zSI(p:Pt)(hk:p.kind=5):zA0 Tryz.prog 66 [embP p] (.bool (okA p)):=by
 have hBE:∀j:Int,(p.kind==j)=((5:Int)==j):=fun j=>by rw[hk]
 have hz:p.str.data= #[]->p.str.size=0:=fun h=>by rw[ByteArray.size,h];rfl
 refine eP C_ok Tryz.func66 Tryz.results66 fun ok H=> ?_
 repeat' first
  |(apply zJn (fun _ _=>rfl);(· intro hb;(try simp only[YAE,YAC]at hb);simp only[hb,↓zaL,WZ,yA,yB,yC,W1,Bool.or_false];exact⟨rfl,trivial⟩))
  |(apply zJi (zUA _);(· intro hb;(try simp only[YAA,YAD,YAE,YAC]at hb);simp only[hb,yP,yQ,W2,W2P,↓zaL,↓zHC,WZ,reduceIte,yA,yB,yC,yD,reduceCtorEq,yE,yF,W1,W1P,W5,hBE,yK];rfl))
  |(apply zIy (fun _ _=>rfl);(· intro hb;(try simp only[YAA,YAD,YAE,YAC]at hb);simp only[hb,↓zaL,↓zHC,WZ,reduceIte,yA,yB,yC,yD,reduceCtorEq,yE,yF,W1,W1P,W5,hBE,yK];exact⟨rfl,trivial⟩))
  |(apply zIt (zUA _);(· intro hb;(try simp only[YAA,YAD,YAE,YAC]at hb);simp only[hb,yP,yQ,W2,W2P,↓zaL,↓zHC,WZ,reduceIte,yA,yB,yC,yD,reduceCtorEq,yE,yF,W1,W1P,W5,hBE,yK];rfl))
  |(with_reducible first|apply bA|apply bB|apply bC|apply bD|apply bE|apply bF)<;>intro h<;>try simp only[h,↓zaL,WZ,yA,yB,reduceCtorEq,W1]
  |simp only[↓zaL,WZ,yA,yB,yC,yD,W1,W1P,zML,zMJ,zMK,hBE,yK]
 all_goals have h:=YAN
 repeat' (first
  |refine zJ9 ?_ C_ok Tryz.f66.ntmps rfl (by decide)
  |skip)<;>simp only[h,↓zaL,WZ,yA,W1,W3]
 all_goals clear hBE
 all_goals try simp only[ByteArray.toList_eq,zQJ,YAP,YAE,YAa,decide_eq_false_iff_not,ne_eq,bne_iff_ne,bne_eq_false_iff_eq,Int.natCast_eq_zero]at*
 all_goals
  by_cases hl:p.kids.length=0
  ·rw[zRJ hl];simp_all [okP]<;>first|omega|(intros;simp_all;done)|(intros;omega)|trace_state
  ·rw[zRG (by cases e:okP p with|false=>rfl|true=>exact absurd (zRO (by omega) (by omega) e) hl)]<;>simp_all<;>omega
theorem zSJ(p:Pt)(hk:p.kind=6):zA0 Tryz.prog 66 [embP p] (.bool (okA p)):=by
 have hBE:∀j:Int,(p.kind==j)=((6:Int)==j):=fun j=>by rw[hk]
 have hz:p.str.data= #[]->p.str.size=0:=fun h=>by rw[ByteArray.size,h];rfl
 refine eP C_ok Tryz.func66 Tryz.results66 fun ok H=> ?_
 repeat' first
  |(apply zJn (fun _ _=>rfl);(· intro hb;(try simp only[YAE,YAC]at hb);simp only[hb,↓zaL,WZ,yA,yB,yC,W1,Bool.or_false];exact⟨rfl,trivial⟩))
  |(apply zJi (zUA _);(· intro hb;(try simp only[YAA,YAD,YAE,YAC]at hb);simp only[hb,yP,yQ,W2,W2P,↓zaL,↓zHC,WZ,reduceIte,yA,yB,yC,yD,reduceCtorEq,yE,yF,W1,W1P,W5,hBE,yK];rfl))
  |(apply zIy (fun _ _=>rfl);(· intro hb;(try simp only[YAA,YAD,YAE,YAC]at hb);simp only[hb,↓zaL,↓zHC,WZ,reduceIte,yA,yB,yC,yD,reduceCtorEq,yE,yF,W1,W1P,W5,hBE,yK];exact⟨rfl,trivial⟩))
  |(apply zIt (zUA _);(· intro hb;(try simp only[YAA,YAD,YAE,YAC]at hb);simp only[hb,yP,yQ,W2,W2P,↓zaL,↓zHC,WZ,reduceIte,yA,yB,yC,yD,reduceCtorEq,yE,yF,W1,W1P,W5,hBE,yK];rfl))
  |(with_reducible first|apply bA|apply bB|apply bC|apply bD|apply bE|apply bF)<;>intro h<;>try simp only[h,↓zaL,WZ,yA]
  |simp only[↓zaL,WZ,yA,yB,yD,W1,W1P,zML,zMK,hBE,yK]
 all_goals have h:=YAN
 repeat' (first
  |refine zJ9 ?_ C_ok Tryz.f66.ntmps rfl (by decide)
  |skip)<;>simp only[h,↓zaL,WZ,yA,W1,W3]
 all_goals clear hBE
 all_goals try simp only[ByteArray.toList_eq,zQJ,YAP,YAE,YAa,decide_eq_false_iff_not,ne_eq,bne_iff_ne,bne_eq_false_iff_eq,Int.natCast_eq_zero]at*
 all_goals
  by_cases hl:p.kids.length=0
  ·rw[zRJ hl];simp_all [okP]<;>first|omega|(intros;simp_all;done)|(intros;omega)|trace_state
  ·rw[zRG (by cases e:okP p with|false=>rfl|true=>exact absurd (zRO (by omega) (by omega) e) hl)]<;>simp_all<;>omega
theorem zSL(p:Pt)(hk:p.kind=8):zA0 Tryz.prog 66 [embP p] (.bool (okA p)):=by
 have hBE:∀j:Int,(p.kind==j)=((8:Int)==j):=fun j=>by rw[hk]
 have hz:p.str.data= #[]->p.str.size=0:=fun h=>by rw[ByteArray.size,h];rfl
 refine eP C_ok Tryz.func66 Tryz.results66 fun ok H=> ?_
 repeat' first
  |(apply zJn (fun _ _=>rfl);(· intro hb;(try simp only[YAE,YAC]at hb);simp only[hb,↓zaL,WZ,yA,yB,yC,W1,Bool.or_false];exact⟨rfl,trivial⟩))
  |(apply zJi (zUA _);(· intro hb;(try simp only[YAA,YAD,YAE,YAC]at hb);simp only[hb,yP,yQ,W2,W2P,↓zaL,↓zHC,WZ,reduceIte,yA,yB,yC,yD,reduceCtorEq,yE,yF,W1,W1P,W5,hBE,yK];rfl))
  |(apply zIy (fun _ _=>rfl);(· intro hb;(try simp only[YAA,YAD,YAE,YAC]at hb);simp only[hb,↓zaL,↓zHC,WZ,reduceIte,yA,yB,yC,yD,reduceCtorEq,yE,yF,W1,W1P,W5,hBE,yK];exact⟨rfl,trivial⟩))
  |(apply zIt (zUA _);(· intro hb;(try simp only[YAA,YAD,YAE,YAC]at hb);simp only[hb,yP,yQ,W2,W2P,↓zaL,↓zHC,WZ,reduceIte,yA,yB,yC,yD,reduceCtorEq,yE,yF,W1,W1P,W5,hBE,yK];rfl))
  |(with_reducible first|apply bA|apply bB|apply bC|apply bD|apply bE|apply bF)<;>intro h<;>try simp only[h,↓zaL,WZ,yA]
  |simp only[↓zaL,WZ,yA,yB,yD,W1,W1P,zML,zMK,hBE,yK]
 all_goals have h:=YAN
 repeat' (first
  |refine zJ9 ?_ C_ok Tryz.f66.ntmps rfl (by decide)
  |skip)<;>simp only[h,↓zaL,WZ,yA,W1,W3]
 all_goals clear hBE
 all_goals try simp only[ByteArray.toList_eq,zQJ,YAP,YAE,YAa,decide_eq_false_iff_not,ne_eq,bne_iff_ne,bne_eq_false_iff_eq,Int.natCast_eq_zero]at*
 all_goals
  by_cases hl:p.kids.length=0
  ·rw[zRJ hl];simp_all [okP]<;>first|omega|(intros;simp_all;done)|(intros;omega)|trace_state
  ·rw[zRG (by cases e:okP p with|false=>rfl|true=>exact absurd (zRO (by omega) (by omega) e) hl)]<;>simp_all<;>omega
theorem zSD(p:Pt)(hk:¬(1<=p.kind/\p.kind<=9)):zA0 Tryz.prog 66 [embP p] (.bool (okA p)):=by
 have hBE:∀j:Int,1<=j->j<=9->(p.kind==j)=false:=fun j h1 h2=>by
  rw[YAZ];rintro rfl;exact hk ⟨h1,h2⟩
 have:okA p=false:=by
  refine zRG ?_
  cases e:okP p with
  |false=>rfl
  |true=>simp only[okP,YAA,YAa]at e;exact absurd ⟨e.1.2,e.2⟩ hk
 rw[this]
 refine eP C_ok Tryz.func66 Tryz.results66 fun ok H=> ?_
 repeat' first
  |(apply zJn (fun _ _=>rfl);(· intro hb;(try simp only[YAA,YAD,YAE,YAC]at hb);simp only[hb,↓zaL,↓zHC,WZ,reduceIte,yA,yB,yC,yD,reduceCtorEq,yE,yF,W1,W1P,W5,hBE 1 (by omega) (by omega),hBE 2 (by omega) (by omega),hBE 3 (by omega) (by omega),hBE 4 (by omega) (by omega),hBE 5 (by omega) (by omega),hBE 6 (by omega) (by omega),hBE 7 (by omega) (by omega),hBE 8 (by omega) (by omega),hBE 9 (by omega) (by omega)];exact⟨rfl,trivial⟩))
  |(apply zIy (fun _ _=>rfl);(· intro hb;(try simp only[YAA,YAD,YAE,YAC]at hb);simp only[hb,↓zaL,↓zHC,WZ,reduceIte,yA,yB,yC,yD,reduceCtorEq,yE,yF,W1,W1P,W5,hBE 1 (by omega) (by omega),hBE 2 (by omega) (by omega),hBE 3 (by omega) (by omega),hBE 4 (by omega) (by omega),hBE 5 (by omega) (by omega),hBE 6 (by omega) (by omega),hBE 7 (by omega) (by omega),hBE 8 (by omega) (by omega),hBE 9 (by omega) (by omega)];exact⟨rfl,trivial⟩))
  |simp only[↓zaL,WZ,yA,yB,yD,W1,W1P,hBE 1 (by omega) (by omega),hBE 2 (by omega) (by omega),hBE 3 (by omega) (by omega),hBE 4 (by omega) (by omega),hBE 5 (by omega) (by omega),hBE 6 (by omega) (by omega),hBE 7 (by omega) (by omega),hBE 8 (by omega) (by omega),hBE 9 (by omega) (by omega)]
theorem zSK(p:Pt)(hk:p.kind=7)(ih:∀x∈p.kids,zA0 Tryz.prog 66 [embP x] (.bool (okA x))):zA0 Tryz.prog 66 [embP p] (.bool (okA p)):=by
 have hBE:∀j:Int,(p.kind==j)=((7:Int)==j):=fun j=>by rw[hk]
 by_cases hl:p.kids.length=2
 ·have g0:(p.kids.map embP).getD 0 .any=embP (p.kid 0):=zOi (by omega)
  have g1:(p.kids.map embP).getD 1 .any=embP (p.kid 1):=zOi (by omega)
  have c0:((0:Int)<(2:Nat))=True:=by simp
  have c1:((1:Int)<(2:Nat))=True:=by simp
  have t0:Int.toNat 0=0:=rfl
  have t1:Int.toNat 1=1:=rfl
  have z1:((0:Int)<=1)=True:=by simp
  have n2:(((2:Nat):Int) !=2)=false:=rfl
  have q1:=ih _ (zSk (p:=p) (i:=0) (by omega))
  have q2:=ih _ (zSk (p:=p) (i:=1) (by omega))
  rw[zRL hl]
  generalize okA (p.kid 0)=o1 at*
  generalize okA (p.kid 1)=o2 at*
  refine eP C_ok Tryz.func66 Tryz.results66 fun ok H=> ?_
  repeat' first
   |(apply zJn (fun _ _=>rfl);(· intro hb;(try simp only[YAE,YAC]at hb);simp only[hb,↓zaL,WZ,yA,yB,yC,W1,Bool.or_false];exact⟨rfl,trivial⟩))
   |(apply zIy (fun _ _=>rfl);(· intro hb;(try simp only[YAA,YAD,YAE,YAC]at hb);simp only[hb,↓zaL,↓zHC,WZ,reduceIte,yA,yB,yC,yD,reduceCtorEq,yE,yF,W1,W1P,W5,hBE,yK,hl,n2];exact⟨rfl,trivial⟩))
   |(with_reducible first|apply bA|apply bB|apply bC|apply bD|apply bE|apply bF)<;>intro h<;>try simp only[h,↓zaL,WZ,yA]
   |simp only[↓zaL,WZ,yA,yB,yC,yD,W1,W1P,zML,zMK,hBE,yK,hl,n2]
  all_goals have h:=YAN
  repeat' (first
   |(with_reducible first|apply bA|apply bB|apply bC|apply bD|apply bE|apply bF)<;>intro h
   |((first|apply bG|apply bH);simp only[yQ,W2P];first|refine zIf (q1) (.inl rfl) ?_|refine zIf (q2) (.inl rfl) ?_)
   |refine zJ9 ?_ C_ok Tryz.f66.ntmps rfl (by decide)
   |skip)<;>simp only[h,↓zaL,WZ,yA,yB,W1,W1P,W3,yH,yI,hl,g0,g1,t0,t1,z1,YAQ]
  all_goals clear hBE
  all_goals try simp only[ByteArray.toList_eq,zQJ,YAP,YAE,YAa,decide_eq_false_iff_not,ne_eq,bne_iff_ne,bne_eq_false_iff_eq]at*
  all_goals (simp_all [okP]<;>(intros;simp_all))
 ·have hn:((p.kids.length:Int) !=2)=true:=by simp;omega
  have:okA p=false:=by
   refine zRG ?_
   cases e:okP p with
   |false=>rfl
   |true=>exact absurd (zRP e (by omega)) hl
  rw[this]
  refine eP C_ok Tryz.func66 Tryz.results66 fun ok H=> ?_
  repeat' first
   |(apply zJn (fun _ _=>rfl);(· intro hb;(try simp only[YAA,YAD,YAE,YAC]at hb);simp only[hb,↓zaL,↓zHC,WZ,reduceIte,yA,yB,yC,yD,reduceCtorEq,yE,yF,W1,W1P,W5,hBE,yK,hn];exact⟨rfl,trivial⟩))
   |(apply zIy (fun _ _=>rfl);(· intro hb;(try simp only[YAA,YAD,YAE,YAC]at hb);simp only[hb,↓zaL,↓zHC,WZ,reduceIte,yA,yB,yC,yD,reduceCtorEq,yE,yF,W1,W1P,W5,hBE,yK,hn];exact⟨rfl,trivial⟩))
   |simp only[↓zaL,WZ,yA,yB,yD,W1,W1P,hBE,yK,hn]
theorem zSM(p:Pt)(hk:p.kind=9)(ih:∀x∈p.kids,zA0 Tryz.prog 66 [embP x] (.bool (okA x))):zA0 Tryz.prog 66 [embP p] (.bool (okA p)):=by
 have hBE:∀j:Int,(p.kind==j)=((9:Int)==j):=fun j=>by rw[hk]
 by_cases hl:p.kids.length=2
 ·have g0:(p.kids.map embP).getD 0 .any=embP (p.kid 0):=zOi (by omega)
  have g1:(p.kids.map embP).getD 1 .any=embP (p.kid 1):=zOi (by omega)
  have c0:((0:Int)<(2:Nat))=True:=by simp
  have c1:((1:Int)<(2:Nat))=True:=by simp
  have t0:Int.toNat 0=0:=rfl
  have t1:Int.toNat 1=1:=rfl
  have z1:((0:Int)<=1)=True:=by simp
  have n2:(((2:Nat):Int) !=2)=false:=rfl
  have q1:=ih _ (zSk (p:=p) (i:=0) (by omega))
  have q2:=ih _ (zSk (p:=p) (i:=1) (by omega))
  rw[zRL hl]
  generalize okA (p.kid 0)=o1 at*
  generalize okA (p.kid 1)=o2 at*
  refine eP C_ok Tryz.func66 Tryz.results66 fun ok H=> ?_
  repeat' first
   |(apply zJn (fun _ _=>rfl);(· intro hb;(try simp only[YAE,YAC]at hb);simp only[hb,↓zaL,WZ,yA,yB,yC,W1,Bool.or_false];exact⟨rfl,trivial⟩))
   |(apply zIy (fun _ _=>rfl);(· intro hb;(try simp only[YAA,YAD,YAE,YAC]at hb);simp only[hb,↓zaL,↓zHC,WZ,reduceIte,yA,yB,yC,yD,reduceCtorEq,yE,yF,W1,W1P,W5,hBE,yK,hl,n2];exact⟨rfl,trivial⟩))
   |(with_reducible first|apply bA|apply bB|apply bC|apply bD|apply bE|apply bF)<;>intro h<;>try simp only[h,↓zaL,WZ,yA]
   |simp only[↓zaL,WZ,yA,yB,yC,yD,W1,W1P,zML,zMK,hBE,yK,hl,n2]
  all_goals have h:=YAN
  repeat' (first
   |(with_reducible first|apply bA|apply bB|apply bC|apply bD|apply bE|apply bF)<;>intro h
   |((first|apply bG|apply bH);simp only[yQ,W2P];first|refine zIf (q1) (.inl rfl) ?_|refine zIf (q2) (.inl rfl) ?_)
   |refine zJ9 ?_ C_ok Tryz.f66.ntmps rfl (by decide)
   |skip)<;>simp only[h,↓zaL,WZ,yA,yB,W1,W1P,W3,yH,yI,hl,g0,g1,t0,t1,z1,YAQ]
  all_goals clear hBE
  all_goals try simp only[ByteArray.toList_eq,zQJ,YAP,YAE,YAa,decide_eq_false_iff_not,ne_eq,bne_iff_ne,bne_eq_false_iff_eq]at*
  all_goals (simp_all [okP]<;>(intros;simp_all))
 ·have hn:((p.kids.length:Int) !=2)=true:=by simp;omega
  have:okA p=false:=by
   refine zRG ?_
   cases e:okP p with
   |false=>rfl
   |true=>exact absurd (zRP e (by omega)) hl
  rw[this]
  refine eP C_ok Tryz.func66 Tryz.results66 fun ok H=> ?_
  repeat' first
   |(apply zJn (fun _ _=>rfl);(· intro hb;(try simp only[YAA,YAD,YAE,YAC]at hb);simp only[hb,↓zaL,↓zHC,WZ,reduceIte,yA,yB,yC,yD,reduceCtorEq,yE,yF,W1,W1P,W5,hBE,yK,hn];exact⟨rfl,trivial⟩))
   |(apply zIy (fun _ _=>rfl);(· intro hb;(try simp only[YAA,YAD,YAE,YAC]at hb);simp only[hb,↓zaL,↓zHC,WZ,reduceIte,yA,yB,yC,yD,reduceCtorEq,yE,yF,W1,W1P,W5,hBE,yK,hn];exact⟨rfl,trivial⟩))
   |simp only[↓zaL,WZ,yA,yB,yD,W1,W1P,hBE,yK,hn]
theorem zUX:∀p:Pt,zA0 Tryz.prog 66 [embP p] (.bool (okA p)):=by
 refine Pt.ind fun p ih=> ?_
 by_cases hk:1<=p.kind/\p.kind<=9
 ·have:p.kind=1\/p.kind=2\/p.kind=3\/p.kind=4\/p.kind=5\/p.kind=6\/p.kind=7\/p.kind=8\/p.kind=9:=by omega
  rcases this with h|h|h|h|h|h|h|h|h
  ·exact zSE p h
  ·exact zSF p h
  ·exact zSG p h
  ·exact zSH p h
  ·exact zSI p h
  ·exact zSJ p h
  ·exact zSK p h ih
  ·exact zSL p h
  ·exact zSM p h ih
 ·exact zSD p hk
end
section
def zH3(l:List ByteArray):Bool:=allN l.length fun i=> !hasS (l.take i) (l.getD i ByteArray.empty)
theorem zTH(p:Pt)(hs:zV6 p<=1000000):zA0 Tryz.prog 34 [embP p] (.bool (okA p&&zH3 (zPr p))):=by
 have q1:=zUX p
 have q2:=zTG p hs
 cases ho:okA p with
 |false=>
  rw[ho]at q1
  refine eP C_ok Tryz.func34 Tryz.results34 fun ok H=> ?_
  repeat' first
   |((first|apply zJn (fun _ _=>rfl)|apply zIy (fun _ _=>rfl));(· intro hb;(try simp only[YAA,YAD,YAE,YAC]at hb);simp only[hb,↓zaL,↓zHC,WZ,reduceIte,yA,yB,yC,yD,reduceCtorEq,yE,yF,W1,W1P,W5];exact⟨rfl,trivial⟩))
   |((first|apply zJi (q1)|apply zIt (q1)|apply zJi (q2)|apply zIt (q2));(· intro hb;(try simp only[YAA,YAD,YAE,YAC]at hb);simp only[hb,yP,yQ,W2,W2P,↓zaL,↓zHC,WZ,reduceIte,yA,yB,yC,yD,reduceCtorEq,yE,yF,W1,W1P,W5];rfl))
   |((first|apply bG|apply bH);simp only[yQ,W2P];refine zIf (q1) (.inl rfl) ?_)
   |simp only[↓zaL,WZ,yA,yB,W1,W1P]
 |true=>
  rw[ho]at q1
  have hn:=zPp p []
  simp only[List.length_nil,Nat.zero_add]at hn
  change (zPr p).length<=_ at hn
  rw[Bool.true_and]
  generalize zPr p=l at*
  have hmax:l.length<=maxLen:=by rw[zPC];omega
  have hfalse:∀i,i<l.length->hasS (l.take i) (l.getD i ByteArray.empty)=true->zH3 l=false:=fun i h1 h2=>by
   unfold zH3;exact zB4 h1 (by rw[h2];rfl)
  refine eP C_ok Tryz.func34 Tryz.results34 fun ok H=> ?_
  repeat' (first
   |((first|apply bG|apply bH);simp only[yQ,W2P];first|refine zIf (q1) (.inl rfl) ?_|refine zIf (q2) (.inl rfl) ?_)
   |skip)<;>simp only[↓zaL,WZ,yA,yB,W1,W1P]
  refine aloop_trim [4,3] ?_
  simp only[List.map_cons,List.map_nil,↓zaL,WZ,yA]
  refine zJ3 1 (fun i:Nat=> [(4,.int .i64 i)]) (fun _=>_) (fun i=>i<=l.length/\∀j,j<i->hasS (l.take j) (l.getD j ByteArray.empty)=false) (fun i=>l.length-i) C_ok 0 rfl rfl ⟨YAX _,fun j hj=>by omega⟩ (by decide) ?_
  rintro i ⟨hi,hall⟩
  simp only[List.drop_succ_cons,List.drop_zero,List.cons_append,List.nil_append]
  simp only[↓zaL,↓zHC,WZ,yA,W1]
  refine zJv (fun hlt=> ?_) (fun hlt=> ?_)
  ·have htk:(l.map ST).take i=(l.take i).map ST:=(List.map_take ..).symm
   have q3:=zTm (l.take i) (l.getD i ByteArray.empty)
   have c0:((0:Int)<=(i:Int))=True:=by simp
   have c1:((i:Int)<=(l.length:Int))=True:=by simp only[YAb,iff_true];omega
   have t0:Int.toNat 0=0:=rfl
   have h:=YAN
   repeat' (first
    |(with_reducible first|apply bA|apply bB|apply bC|apply bD|apply bE|apply bF)<;>intro h
    |((first|apply bG|apply bH);simp only[yP,yQ,zXu];refine zIj (q3) (.inl rfl) ?_)
    |refine zKg (id:=7) C_ok (fun _=>trivial) mixed 0 Tryz.f34.ntmps rfl (by kernel_rfl) (by decide) ?_
    |skip)<;>simp only[h,↓zaL,↓zHC,WZ,yA,W1,hlt,htk,c0,c1,t0,YAQ,zCJ,zOx hlt,zXP]
   ·exact(hfalse i hlt h).symm
   ·refine⟨i+1,⟨hlt,fun j hj=> ?_⟩,by omega,zas rfl rfl rfl rfl ?_ ?_ ?_⟩
    ·rcases Nat.lt_succ_iff_lt_or_eq.1 hj with hj|rfl
     ·exact hall j hj
     ·exact h
    all_goals simp only[WK,↓zaL,↓zHC,yA,yN,yO,yR,yP,zbX hlt hmax,zXs,zOh,yO]
  ·simp only[↓zaL,↓zHC,WZ,yA,reduceCtorEq]
   have:zH3 l=true:=by unfold zH3;exact zB7 fun j hj=>by rw[hall j (by omega)];rfl
   exact this.symm
mutual
theorem zPq:∀(p:Pt) (l:List ByteArray),∃t,zPk p l=l++t
 | .mk k f t m n s ks,l=>by
  obtain⟨t,h⟩:=zPn ks (if k=2 then l++ [m]else l)
  rw[zPk,h]
  split
  ·exact⟨[m]++t,by rw[List.append_assoc]⟩
  ·exact⟨t,rfl⟩
theorem zPn:∀(ks:List Pt) (l:List ByteArray),∃t,zPl ks l=l++t
 | [],l=>⟨[],by simp[zPl]⟩
 |x::xs,l=>by
  obtain⟨t,h⟩:=zPq x l
  obtain⟨t',h'⟩:=zPn xs (zPk x l)
  rw[zPl,h',h]
  exact⟨t++t',by rw[List.append_assoc]⟩
end
theorem zQd{l t:List ByteArray}(h:(l++t).Nodup):l.Nodup:=(List.nodup_append.1 h).1
theorem zC8(a b:ByteArray):(a==b)=true ↔ a=b:=by
 obtain⟨x⟩:=a
 obtain⟨y⟩:=b
 show(x==y)=true ↔ _
 rw[beq_iff_eq,ByteArray.mk.injEq]
theorem zXi{l:List ByteArray}{p:Pt}(h:okP p=true)(hn:(if p.kind=2 then l++ [p.name]else l).Nodup):zXh l p=some (if p.kind=2 then l++ [p.name]else l):=by
 unfold zXh
 rw[if_neg (by simp[h])]
 by_cases hk:p.kind=2
 ·rw[if_pos hk,if_pos hk]
  rw[if_pos hk]at hn
  have:(l.any (p.name== ·))=false:=by
   rw[List.any_eq_false]
   intro x hx hxe
   have hxe:p.name=x:=(zC8 _ _).1 hxe
   have:=(List.nodup_append.1 hn).2.2 x hx p.name (by simp)
   exact this hxe.symm
  rw[this];rfl
 ·rw[if_neg hk,if_neg hk]
theorem zXj{l l':List ByteArray}{p:Pt}(hl:l.Nodup)(h:zXh l p=some l'):okP p=true/\l'=(if p.kind=2 then l++ [p.name]else l)/\l'.Nodup:=by
 unfold zXh at h
 split at h
 ·cases h
 ·rename_i ho
  have ho:okP p=true:=by simpa using ho
  by_cases hk:p.kind=2
  ·rw[if_pos hk]at h⊢
   split at h
   ·cases h
   ·rename_i ha
    cases h
    refine⟨ho,rfl,?_⟩
    rw[List.nodup_append]
    refine⟨hl,by simp,fun a ha' b hb=> ?_⟩
    have hb:b=p.name:=by simpa using hb
    subst hb
    rintro rfl
    exact ha (by rw[List.any_eq_true];exact⟨_,ha',(zC8 _ _).2 rfl⟩)
  ·rw[if_neg hk]at h⊢
   cases h
   exact⟨ho,rfl,hl⟩
mutual
theorem zEq:∀(p:Pt) (l:List ByteArray),okA p=true->(zPk p l).Nodup->chkR p l=(true,zPk p l)
 | .mk k f t m n s ks,l,ho,hn=>by
  rw[okA,YAA]at ho
  rw[zPk]at hn⊢
  obtain⟨t',h⟩:=zPn ks (if k=2 then l++ [m]else l)
  have hn':=hn
  rw[h]at hn'
  have hs:=zXi (p:= .mk k f t m n s ks) ho.1 (zQd hn')
  rw[zEo,hs]
  exact zEn ks _ ho.2 hn
theorem zEn:∀(ks:List Pt) (l:List ByteArray),okAL ks=true->(zPl ks l).Nodup->zEl ks l=(true,zPl ks l)
 | [],l,_,_=>rfl
 |x::xs,l,ho,hn=>by
  rw[okAL,YAA]at ho
  rw[zPl]at hn⊢
  obtain⟨t',h⟩:=zPn xs (zPk x l)
  have hn':=hn
  rw[h]at hn'
  have hx:=zEq x l ho.1 (zQd hn')
  rw[zEl,hx,if_pos rfl]
  exact zEn xs _ ho.2 hn
end
mutual
theorem zEp:∀(p:Pt) (l:List ByteArray),l.Nodup->(chkR p l).1=true->okA p=true/\(zPk p l).Nodup/\(chkR p l).2=zPk p l
 | .mk k f t m n s ks,l,hl,h=>by
  rw[zEo]at h⊢
  cases hs:zXh l (.mk k f t m n s ks)with
  |none=>rw[hs]at h;cases h
  |some l'=>
   rw[hs]at h
   simp only at h⊢
   obtain⟨h1,h2,h3⟩:=zXj hl hs
   simp only[Pt.kind,Pt.name,Pt.kids]at h1 h2 h⊢
   subst h2
   obtain⟨h4,h5,h6⟩:=zEm ks _ h3 h
   rw[okA,zPk,YAA]
   exact⟨⟨h1,h4⟩,h5,h6⟩
theorem zEm:∀(ks:List Pt) (l:List ByteArray),l.Nodup->(zEl ks l).1=true->okAL ks=true/\(zPl ks l).Nodup/\(zEl ks l).2=zPl ks l
 | [],l,hl,_=>⟨rfl,hl,rfl⟩
 |x::xs,l,hl,h=>by
  rw[zEl]at h⊢
  by_cases hx:(chkR x l).1=true
  ·rw[if_pos hx]at h⊢
   obtain⟨h1,h2,h3⟩:=zEp x l hl hx
   rw[h3]at h⊢
   obtain⟨h4,h5,h6⟩:=zEm xs _ h2 h
   rw[okAL,zPl,h1,h4]
   exact⟨rfl,h5,h6⟩
  ·rw[if_neg hx]at h;exact absurd h hx
end
theorem zK7(l:List ByteArray)(s:ByteArray):hasS l s=true ↔ s∈l:=by
 unfold hasS
 rw[List.any_eq_true]
 constructor
 ·rintro⟨x,hx,he⟩
  have he:x.toList=s.toList:=by simpa using he
  rw[ByteArray.toList_eq,ByteArray.toList_eq]at he
  rwa[<-zD7 he]
 ·intro h;exact⟨s,h,by simp⟩
theorem zH4(l:List ByteArray):zH3 l=true ↔ l.Nodup:=by
 unfold zH3
 rw[zB5,List.Nodup,List.pairwise_iff_getElem]
 constructor
 ·intro h i j hi hj hij he
  have h1:=h j hj
  have:hasS (l.take j) (l.getD j ByteArray.empty)=true:=by
   rw[zK7]
   have:l.getD j ByteArray.empty=l[j]:=by simp[hj]
   rw[this,<-he,List.mem_take_iff_getElem]
   exact⟨i,by omega,rfl⟩
  rw[this]at h1;cases h1
 ·intro h j hj
  cases hh:hasS (l.take j) (l.getD j ByteArray.empty)with
  |false=>rfl
  |true=>
   rw[zK7]at hh
   have e:l.getD j ByteArray.empty=l[j]:=by simp[hj]
   rw[e,List.mem_take_iff_getElem]at hh
   obtain⟨i,hi,he⟩:=hh
   exact absurd he (h i j (by omega) hj (by omega))
theorem zEk(p:Pt):chkP p=(okA p&&zH3 (zPr p)):=by
 rw[Bool.eq_iff_iff,YAA,zH4]
 unfold chkP zPr
 constructor
 ·intro h
  obtain⟨h1,h2,_⟩:=zEp p [] List.nodup_nil h
  exact⟨h1,h2⟩
 ·rintro⟨h1,h2⟩
  rw[zEq p [] h1 h2]
end
section
abbrev zAu (t:Pt):Prop:=∀(l:List ByteArray) (a:AV) (F:List AObj),l.length+zV6 t<=1000000->zAC 1 F (l.map ST) a->zAA Tryz.prog 60 [embP t,a] F fun r F'=>AccR 1 F a ((zPk t l).map ST) r F'
theorem zPt(t:Pt)(ih:∀x∈t.kids,zAu x):zAu t:=by
 intro l a F hl hacc
 have hlen:=zV8 t.kids
 have hnod:=zV9 t
 have hb:F.length<=F.length:=YAV _
 have hmax:t.kids.length<=maxLen:=by rw[zPC];omega
 have hvf:=zPo t l
 rcases hacc with ⟨e1,rfl⟩|⟨q,rfl,hq⟩
 ·obtain rfl:l=[]:=List.map_eq_nil_iff.1 e1
  have hacc:zAC 1 F (([]:List ByteArray).map ST) (.sl [] .full):= .inl ⟨rfl,rfl⟩
  refine eE C_ok Tryz.func60 Tryz.results60 fun ok=> ?_
  have h:=YAN
  repeat' (first
   |(with_reducible first|apply bA|apply bB|apply bC|apply bD|apply bE|apply bF)<;>intro h
   |skip)<;>simp only[h,↓zaL,WY,yA,yB,yC,yD,yE,yF,W1,W1P,WS]
  ·refine zCN [1,18,16,17] ?_
   simp only[List.map_cons,List.map_nil,↓zaL,WY,yA,WS]
   refine zJ1 2 (fun x:Nat×AV×List ByteArray×List AObj=> [(1,x.2.1),(18,.int .i64 x.1)]) (fun x=>x.2.2.2) (fun x=>x.1<=t.kids.length/\AccR 1 F (.sl [] .full) (x.2.2.1.map ST) x.2.1 x.2.2.2/\zPl (t.kids.drop x.1) x.2.2.1=zPk t []/\x.2.2.1.length+zV7 (t.kids.drop x.1)<=1000000) (fun x=>t.kids.length-x.1) C_ok (0,_,[t.name],_) rfl rfl ⟨YAX _,by have:=(AccR.junk (F:=F) hacc [.box (cellsOf (embP t))]).trans hacc (AccR.app0 (ST t.name));simpa [zGi,ST]using this,by rw[List.drop_zero,hvf];simp_all,by simp only[List.drop_zero,List.length_cons,List.length_nil];(try simp only[List.length_nil]at hl);omega⟩ (by decide) ?_
   rintro⟨i,a1,l1,F1⟩ ⟨hi,h1,h3,h4⟩
   simp only at hi h1 h3 h4
   have hacc1:=AccR.ok hacc h1
   have hb1:=h1.len
   simp only[List.drop_succ_cons,List.drop_zero,List.cons_append,List.nil_append]
   simp only[↓zaL,↓zHC,WY,yA,W1,WS]
   refine zJv (fun hlt=> ?_) (fun hlt=> ?_)
   ·have h:=YAN
    repeat' simp only[h,↓zaL,↓zHC,WY,yA,yB,W1,W1P,WS,hlt,hb1,zOi hlt]
    have hdr:=zFy hlt
    rw[hdr]at h3 h4
    simp only[zV7,zPl]at h3 h4
    have hj:=AccR.junk hacc1 [.box (cellsOf (embP (t.kid i)))]
    have hacc2:=AccR.ok hacc1 hj
    have ih2:=ih _ (zSk hlt) l1 a1 (F1++ [.box (cellsOf (embP (t.kid i)))]) (by omega) hacc2
    rw[zGi]at hj ih2 hacc2
    refine⟨fun _=>zGh _ _,fsCall ih2 (.inl rfl) fun r F2 hr hlen2=>⟨fun hbel=>hr.bel hacc2 (Nat.le_trans hb1 (by rw[YAJ];exact Nat.le_add_right _ _)) hbel,?_⟩⟩
    have hl2:=zPp (t.kid i) l1
    simp only[↓zaL,↓zHC,WY,yA,W1,WS]
    refine⟨(i+1,r,zPk (t.kid i) l1,F2),⟨hlt,h1.trans hacc (hj.trans hacc1 hr),h3,by simp only;omega⟩,by simp only;omega,zap rfl ?_⟩
    simp only[WK,↓zaL,↓zHC,yA,yP,zbX hlt hmax]
   ·simp only[↓zaL,↓zHC,WY,yA,WS]
    have hi':i=t.kids.length:=by omega
    subst hi'
    rw[List.drop_length]at h3
    simp only[zPl]at h3
    rw[<-h3];exact h1
  ·refine zCN [1,18,16,17] ?_
   simp only[List.map_cons,List.map_nil,↓zaL,WY,yA,WS]
   refine zJ1 2 (fun x:Nat×AV×List ByteArray×List AObj=> [(1,x.2.1),(18,.int .i64 x.1)]) (fun x=>x.2.2.2) (fun x=>x.1<=t.kids.length/\AccR 1 F (.sl [] .full) (x.2.2.1.map ST) x.2.1 x.2.2.2/\zPl (t.kids.drop x.1) x.2.2.1=zPk t []/\x.2.2.1.length+zV7 (t.kids.drop x.1)<=1000000) (fun x=>t.kids.length-x.1) C_ok (0,_,[],_) rfl rfl ⟨YAX _,AccR.junk hacc _,by rw[List.drop_zero,hvf];simp_all,by simp only[List.drop_zero,List.length_nil];(try simp only[List.length_nil]at hl);omega⟩ (by decide) ?_
   rintro⟨i,a1,l1,F1⟩ ⟨hi,h1,h3,h4⟩
   simp only at hi h1 h3 h4
   have hacc1:=AccR.ok hacc h1
   have hb1:=h1.len
   simp only[List.drop_succ_cons,List.drop_zero,List.cons_append,List.nil_append]
   simp only[↓zaL,↓zHC,WY,yA,W1,WS]
   refine zJv (fun hlt=> ?_) (fun hlt=> ?_)
   ·have h:=YAN
    repeat' simp only[h,↓zaL,↓zHC,WY,yA,yB,W1,W1P,WS,hlt,hb1,zOi hlt]
    have hdr:=zFy hlt
    rw[hdr]at h3 h4
    simp only[zV7,zPl]at h3 h4
    have hj:=AccR.junk hacc1 [.box (cellsOf (embP (t.kid i)))]
    have hacc2:=AccR.ok hacc1 hj
    have ih2:=ih _ (zSk hlt) l1 a1 (F1++ [.box (cellsOf (embP (t.kid i)))]) (by omega) hacc2
    rw[zGi]at hj ih2 hacc2
    refine⟨fun _=>zGh _ _,fsCall ih2 (.inl rfl) fun r F2 hr hlen2=>⟨fun hbel=>hr.bel hacc2 (Nat.le_trans hb1 (by rw[YAJ];exact Nat.le_add_right _ _)) hbel,?_⟩⟩
    have hl2:=zPp (t.kid i) l1
    simp only[↓zaL,↓zHC,WY,yA,W1,WS]
    refine⟨(i+1,r,zPk (t.kid i) l1,F2),⟨hlt,h1.trans hacc (hj.trans hacc1 hr),h3,by simp only;omega⟩,by simp only;omega,zap rfl ?_⟩
    simp only[WK,↓zaL,↓zHC,yA,yP,zbX hlt hmax]
   ·simp only[↓zaL,↓zHC,WY,yA,WS]
    have hi':i=t.kids.length:=by omega
    subst hi'
    rw[List.drop_length]at h3
    simp only[zPl]at h3
    rw[<-h3];exact h1
 ·have hacc:zAC 1 F (l.map ST) (.sl (l.map ST) (.own q)):= .inr ⟨q,rfl,hq⟩
  have hql:=zIc hq
  rw[YAK]at hq
  refine eE C_ok Tryz.func60 Tryz.results60 fun ok=> ?_
  have h:=YAN
  repeat' (first
   |(with_reducible first|apply bA|apply bB|apply bC|apply bD|apply bE|apply bF)<;>intro h
   |skip)<;>simp only[h,↓zaL,WY,yA,yB,yC,yD,yE,yF,W1,W1P,WS,zCS hql,zCW hql,hq,zCJ]
  ·refine⟨⟨by omega,by omega⟩,?_⟩
   refine zCN [1,18,16,17] ?_
   simp only[List.map_cons,List.map_nil,↓zaL,WY,yA,WS]
   refine zJ1 2 (fun x:Nat×AV×List ByteArray×List AObj=> [(1,x.2.1),(18,.int .i64 x.1)]) (fun x=>x.2.2.2) (fun x=>x.1<=t.kids.length/\AccR 1 F (.sl (l.map ST) (.own q)) (x.2.2.1.map ST) x.2.1 x.2.2.2/\zPl (t.kids.drop x.1) x.2.2.1=zPk t l/\x.2.2.1.length+zV7 (t.kids.drop x.1)<=1000000) (fun x=>t.kids.length-x.1) C_ok (0,_,l++ [t.name],_) rfl rfl ⟨YAX _,by have h0:=AccR.app (sz:=1) (F:=F) (es:=l.map ST) (q:=q) (ST t.name);have:=h0.trans hacc (AccR.junk (h0.ok hacc) [.box (cellsOf (embP t))]);simpa [zGi,ST]using this,by rw[List.drop_zero,hvf];simp_all,by simp only[List.drop_zero,YAJ,List.length_cons,List.length_nil];(try simp only[List.length_nil]at hl);omega⟩ (by decide) ?_
   rintro⟨i,a1,l1,F1⟩ ⟨hi,h1,h3,h4⟩
   simp only at hi h1 h3 h4
   have hacc1:=AccR.ok hacc h1
   have hb1:=h1.len
   simp only[List.drop_succ_cons,List.drop_zero,List.cons_append,List.nil_append]
   simp only[↓zaL,↓zHC,WY,yA,W1,WS]
   refine zJv (fun hlt=> ?_) (fun hlt=> ?_)
   ·have h:=YAN
    repeat' simp only[h,↓zaL,↓zHC,WY,yA,yB,W1,W1P,WS,hlt,hb1,zOi hlt]
    have hdr:=zFy hlt
    rw[hdr]at h3 h4
    simp only[zV7,zPl]at h3 h4
    have hj:=AccR.junk hacc1 [.box (cellsOf (embP (t.kid i)))]
    have hacc2:=AccR.ok hacc1 hj
    have ih2:=ih _ (zSk hlt) l1 a1 (F1++ [.box (cellsOf (embP (t.kid i)))]) (by omega) hacc2
    rw[zGi]at hj ih2 hacc2
    refine⟨fun _=>zGh _ _,fsCall ih2 (.inl rfl) fun r F2 hr hlen2=>⟨fun hbel=>hr.bel hacc2 (Nat.le_trans hb1 (by rw[YAJ];exact Nat.le_add_right _ _)) hbel,?_⟩⟩
    have hl2:=zPp (t.kid i) l1
    simp only[↓zaL,↓zHC,WY,yA,W1,WS]
    refine⟨(i+1,r,zPk (t.kid i) l1,F2),⟨hlt,h1.trans hacc (hj.trans hacc1 hr),h3,by simp only;omega⟩,by simp only;omega,zap rfl ?_⟩
    simp only[WK,↓zaL,↓zHC,yA,yP,zbX hlt hmax]
   ·simp only[↓zaL,↓zHC,WY,yA,WS]
    have hi':i=t.kids.length:=by omega
    subst hi'
    rw[List.drop_length]at h3
    simp only[zPl]at h3
    rw[<-h3];exact h1
  ·refine zCN [1,18,16,17] ?_
   simp only[List.map_cons,List.map_nil,↓zaL,WY,yA,WS]
   refine zJ1 2 (fun x:Nat×AV×List ByteArray×List AObj=> [(1,x.2.1),(18,.int .i64 x.1)]) (fun x=>x.2.2.2) (fun x=>x.1<=t.kids.length/\AccR 1 F (.sl (l.map ST) (.own q)) (x.2.2.1.map ST) x.2.1 x.2.2.2/\zPl (t.kids.drop x.1) x.2.2.1=zPk t l/\x.2.2.1.length+zV7 (t.kids.drop x.1)<=1000000) (fun x=>t.kids.length-x.1) C_ok (0,_,l,_) rfl rfl ⟨YAX _,AccR.junk hacc _,by rw[List.drop_zero,hvf];simp_all,by simp only[List.drop_zero];(try simp only[List.length_nil]at hl);omega⟩ (by decide) ?_
   rintro⟨i,a1,l1,F1⟩ ⟨hi,h1,h3,h4⟩
   simp only at hi h1 h3 h4
   have hacc1:=AccR.ok hacc h1
   have hb1:=h1.len
   simp only[List.drop_succ_cons,List.drop_zero,List.cons_append,List.nil_append]
   simp only[↓zaL,↓zHC,WY,yA,W1,WS]
   refine zJv (fun hlt=> ?_) (fun hlt=> ?_)
   ·have h:=YAN
    repeat' simp only[h,↓zaL,↓zHC,WY,yA,yB,W1,W1P,WS,hlt,hb1,zOi hlt]
    have hdr:=zFy hlt
    rw[hdr]at h3 h4
    simp only[zV7,zPl]at h3 h4
    have hj:=AccR.junk hacc1 [.box (cellsOf (embP (t.kid i)))]
    have hacc2:=AccR.ok hacc1 hj
    have ih2:=ih _ (zSk hlt) l1 a1 (F1++ [.box (cellsOf (embP (t.kid i)))]) (by omega) hacc2
    rw[zGi]at hj ih2 hacc2
    refine⟨fun _=>zGh _ _,fsCall ih2 (.inl rfl) fun r F2 hr hlen2=>⟨fun hbel=>hr.bel hacc2 (Nat.le_trans hb1 (by rw[YAJ];exact Nat.le_add_right _ _)) hbel,?_⟩⟩
    have hl2:=zPp (t.kid i) l1
    simp only[↓zaL,↓zHC,WY,yA,W1,WS]
    refine⟨(i+1,r,zPk (t.kid i) l1,F2),⟨hlt,h1.trans hacc (hj.trans hacc1 hr),h3,by simp only;omega⟩,by simp only;omega,zap rfl ?_⟩
    simp only[WK,↓zaL,↓zHC,yA,yP,zbX hlt hmax]
   ·simp only[↓zaL,↓zHC,WY,yA,WS]
    have hi':i=t.kids.length:=by omega
    subst hi'
    rw[List.drop_length]at h3
    simp only[zPl]at h3
    rw[<-h3];exact h1
theorem zPs(t:Pt):zAu t:=Pt.ind zPt t
theorem zRt(t:Pt)(ht:zV6 t<=1000000):zA0 Tryz.prog 31 [embP t] (.sl ((zPr t).map ST) .no):=by
 have hb:∀H:List AObj,H.length<=H.length:=fun H=>YAV _
 refine zSa C_ok Tryz.func31 rfl (by decide) (YAL rfl) (by decide) (by simp only[yN,zXs,Bool.and_self]) fun ok H=> ?_
 rw[Tryz.results31]
 rw[zLh]
 repeat' simp only[↓zaL,WY,yA,yB,W1,W1P,WS,hb]
 refine fsCall (zPs t [] _ _ (by simp only[List.length_nil];omega) (.inl ⟨rfl,rfl⟩)) (.inl rfl) fun r F' hr hlen=>⟨fun hbel=>hr.bel (.inl ⟨rfl,rfl⟩) (by simp) hbel,?_⟩
 obtain⟨h1,J,rfl⟩:=hr.out
 simp only[↓zaL,WY,yA,WS,h1,zXu]
 simp[zPr]
theorem zM2(k:Int):zA0 Tryz.prog 65 [.int .i64 k] (.int .i64 (if 3<=k/\k<=6 then k-2 else if k=8 then 8 else 0)):=by
 refine eP C_ok Tryz.func65 Tryz.results65 fun ok H=> ?_
 have h:=YAN
 repeat' (first
  |(with_reducible first|apply bA|apply bB|apply bC|apply bD|apply bE|apply bF)<;>intro h
  |skip)<;>simp only[h,↓zaL,WZ,yA,reduceCtorEq,W1]
 all_goals (simp only[beq_iff_eq,YAZ,ne_eq]at*;split<;>(try split)<;>omega)
end
section
theorem zYR(l:List ByteArray):zA0 Tryz.prog 15 [.sl (l.map ST) .no,.sl (l.map ST) .no] (.bool true):=by
 have e5:((l.length:Int) !=l.length)=false:=by simp
 refine eP C_ok Tryz.func15 Tryz.results15 fun ok H=> ?_
 repeat' simp only[↓zaL,WZ,yA,reduceCtorEq,W1,e5]
 have hmax:l.length<=maxLen:=by have:=ok.1;simp only[AV.okay,YAK]at this;exact this.1
 refine aloop_trim [5,0,1] ?_
 simp only[List.map_cons,List.map_nil,↓zaL,WZ,yA,reduceCtorEq]
 refine zJ3 1 (fun i:Nat=> [(5,.int .i64 i)]) (fun _=>_) (fun i=>i<=l.length) (fun i=>l.length-i) C_ok 0 rfl rfl (YAX _) (by decide) ?_
 intro i hi
 simp only[List.drop_succ_cons,List.drop_zero,List.cons_append,List.nil_append]
 simp only[↓zaL,↓zHC,WZ,yA,reduceCtorEq,W1]
 refine zJv (fun hlt=> ?_) (fun hlt=> ?_)
 ·have e1:((l.getD i ByteArray.empty).toList !=(l.getD i ByteArray.empty).toList)=false:=by simp
  repeat' (first
   |refine zKg (id:=6) C_ok (fun _=>trivial) mixed 0 Tryz.f15.ntmps rfl (by kernel_rfl) (by decide) ?_
   |skip)<;>simp only[↓zaL,↓zHC,WZ,yA,reduceCtorEq,W1,hlt,zOx hlt,zXP]
  refine⟨i+1,hlt,by omega,zas rfl rfl rfl rfl ?_ ?_ ?_⟩
  all_goals simp only[WK,↓zaL,↓zHC,yA,yN,yR,yP,zbX hlt hmax,zXs]
 ·simp only[↓zaL,↓zHC,WZ,yA,reduceCtorEq]
end
end Go.Proofs.YtdngjamjccjlmaaGreat
