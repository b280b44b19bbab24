/- Lemmas: names and words of patterns. No condition. -/
import Derived.Test.YtdngjamjccjlmaaGreatPYa
import Derived.Test.YtdngjamjccjlmaaGreatPYb
import Derived.Test.YtdngjamjccjlmaaGreatPMa
set_option linter.unusedSimpArgs false
set_option linter.unusedVariables false
set_option maxHeartbeats 4000000
set_option maxRecDepth 100000
namespace Go.Proofs.YtdngjamjccjlmaaGreat
open Go Go.Ab
open Nat renaming reduceEqDiff -> yA, reduceAdd -> yB, reduceLT -> yC, reduceLeDiff -> yD, reduceMul -> yE, reducePow -> yF
open AV renaming bel -> yN, normL -> yQ, norm -> yP, belL -> yO
open AObj renaming bel -> yR
attribute [local irreducible] zA0 zAA zAa zAi zAj GoIf GoGb zAk GoO GoD GoX GoDX GoG GoDG GoGv zAl Go zAB
section
theorem zT9(c:Nat):zA0 Tryz.prog 96 [.int .u8 c] (.bool (lowerB c)):=by
 refine eP C_ok Tryz.func96 Tryz.results96 fun ok H=> ?_
 repeat' first
  |(apply zJn (fun _ _=>rfl);(· intro hb;(try simp only[YAA,YAD,YAE,YAC]at hb);simp only[hb,↓zaL,WZ,yA,reduceCtorEq,W1];exact⟨rfl,trivial⟩))
  |(apply zIy (fun _ _=>rfl);(· intro hb;(try simp only[YAA,YAD,YAE,YAC]at hb);simp only[hb,↓zaL,↓zHC,WZ,reduceIte,yA,yB,yC,yD,reduceCtorEq,yE,yF,W1,W5];exact⟨rfl,trivial⟩))
  |simp only[↓zaL,WZ,yA,reduceCtorEq,W1,zMM,zMJ]
 rw[Bool.eq_iff_iff];simp[lowerB];omega
theorem zTR(c:Nat):zA0 Tryz.prog 105 [.int .u8 c] (.bool (decide (48<=c)&&decide (c<=57))):=by
 refine eP C_ok Tryz.func105 Tryz.results105 fun ok H=> ?_
 repeat' first
  |(apply zJn (fun _ _=>rfl);(· intro hb;(try simp only[YAA,YAD,YAE,YAC]at hb);simp only[hb,↓zaL,WZ,yA,reduceCtorEq,W1];exact⟨rfl,trivial⟩))
  |(apply zIy (fun _ _=>rfl);(· intro hb;(try simp only[YAA,YAD,YAE,YAC]at hb);simp only[hb,↓zaL,↓zHC,WZ,reduceIte,yA,yB,yC,yD,reduceCtorEq,yE,yF,W1,W5];exact⟨rfl,trivial⟩))
  |simp only[↓zaL,WZ,yA,reduceCtorEq,W1,zMM,zMJ]
 rw[Bool.eq_iff_iff];simp;omega
theorem zUW(c:Nat):zA0 Tryz.prog 97 [.int .u8 c] (.bool (zLk c)):=by
 refine eP C_ok Tryz.func97 Tryz.results97 fun ok H=> ?_
 repeat' first
  |(apply zJn (fun _ _=>rfl);(· intro hb;(try simp only[YAA,YAD,YAE]at hb);simp only[hb,↓zaL,WZ,yA,reduceCtorEq,W1,zMM,zMJ,Bool.or_false];exact⟨rfl,trivial⟩))
  |(apply zJi (zT9 _);(· intro hb;(try simp only[YAA,YAD,YAE,YAC]at hb);simp only[hb,yP,yQ,W2,↓zaL,↓zHC,WZ,reduceIte,yA,yB,yC,yD,reduceCtorEq,yE,yF,W1,W5];rfl))
  |(apply zJi (zTR _);(· intro hb;(try simp only[YAA,YAD,YAE,YAC]at hb);simp only[hb,yP,yQ,↓zaL,WZ,yA];rfl))
  |(apply zIy (fun _ _=>rfl);(· intro hb;(try simp only[YAA,YAD,YAE,YAC]at hb);simp only[hb,↓zaL,↓zHC,WZ,reduceIte,yA,yB,yC,yD,reduceCtorEq,yE,yF,W1,W5];exact⟨rfl,trivial⟩))
  |(apply zIt (zT9 _);(· intro hb;(try simp only[YAA,YAD,YAE,YAC]at hb);simp only[hb,yP,yQ,W2,↓zaL,↓zHC,WZ,reduceIte,yA,yB,yC,yD,reduceCtorEq,yE,yF,W1,W5];rfl))
  |(apply zIt (zTR _);(· intro hb;(try simp only[YAA,YAD,YAE,YAC]at hb);simp only[hb,yP,yQ,W2,↓zaL,↓zHC,WZ,reduceIte,yA,yB,yC,yD,reduceCtorEq,yE,yF,W1,W5];rfl))
  |((first|apply bG|apply bH);simp only[yP,yQ];refine zIf (zT9 _) (.inl rfl) ?_)
  |simp only[↓zaL,WZ,yA,reduceCtorEq,zML,zMK,zJd]
 rw[Bool.eq_iff_iff];simp[zLk,lowerB];omega
def zbI:ByteArray:=⟨zbJ.toArray⟩
abbrev spB:ByteArray:=⟨#[32]⟩
def padB(s:ByteArray):ByteArray:=(spB++s)++spB
theorem zRv(s:ByteArray):(padB s).size=s.size+2:=by
 simp only[padB,ByteArray.size_append]
 have:spB.size=1:=rfl
 omega
theorem zRu(s:ByteArray):(padB s).toList=32::(s.data.toList++ [32]):=by
 rw[ByteArray.toList_eq]
 simp[padB,ByteArray.data_append]
theorem zFa(i n:Nat):(zbI.extract i (i+n)).toList=(zbJ.drop i).take n:=by
 rw[ByteArray.toList_eq]
 simp[zbI,ByteArray.data_extract]
theorem zD3(s:ByteArray)(i:Nat)(h:i<s.size):lowerB (zD2 s i)=lowU (s.data.toList.getD i 0):=by
 have h':i<s.data.size:=h
 have e:s[i]?=some s[i]:=getElem?_pos s i h
 have e2:s[i]=s.data[i]:=rfl
 have e3:s.data.toList.getD i 0=s.data[i]:=by
  rw[YAF,Array.getElem?_toList,Array.getElem?_eq_getElem h'];rfl
 unfold zD2
 rw[e,e3,<-e2];rfl
theorem zCH(s:ByteArray)(h:∀j,j<s.size->lowerB (zD2 s j)=true):∀x∈s.data.toList,lowU x=true:=by
 intro x hx
 obtain⟨i,hi,rfl⟩:=List.getElem_of_mem hx
 have hi':i<s.size:=by simpa using hi
 have:=h i hi'
 rw[zD3 s i hi']at this
 rwa[YAF,YAI hi]at this
theorem zMU{s:ByteArray}{i:Nat}(h:i<s.size)(hl:lowerB (zD2 s i)=false):keyS s=false:=by
 have hk:∀k∈keys,∀x∈k,lowU x=true:=by decide+kernel
 cases hs:keyS s with
 |false=>rfl
 |true=>
  have hm:s.data.toList∈keys:=by simpa [keyS]using hs
  have hi:i<s.data.toList.length:=by simpa using h
  have:=hk _ hm _ (List.getElem_mem hi)
  rw[zD3 s i h,YAF,YAI hi]at hl
  simp only[Option.getD_some]at hl
  rw[this]at hl;cases hl
def atB(s:ByteArray)(i:Nat):Bool:=(zbI.extract i (i+(s.size+2))).toList==(padB s).toList
theorem zCt(s:ByteArray)(i:Nat):atB s i=zMP s.data.toList i:=by
 have:s.data.toList.length=s.size:=by rw[Array.length_toList];rfl
 rw[atB,zFa,zRu,zMP,this]
def zHv(s:ByteArray)(i:Nat):Bool:=decide (0<s.size)&&atB s i
theorem zT8(s:ByteArray)(hs:s.size<=1000):zA0 Tryz.prog 98 [.str s] (.bool (keyS s)):=by
 have hW:(⟨List.toArray (32::108::101::116::32::114::101::99::32::105::110::32::102::117::110::32::105::102::32::116::104::101::110::32::101::108::115::101::32::109::97::116::99::104::32::119::105::116::104::32::101::110::100::32::116::114::117::101::32::102::97::108::115::101::32::105::110::116::32::98::111::111::108::32::115::116::114::105::110::103::32::117::110::105::116::32::108::105::115::116::32:: [])⟩:ByteArray)=zbI:=rfl
 have hmax:s.size<=maxLen:=by rw[zPC];omega
 refine eP C_ok Tryz.func98 Tryz.results98 fun ok H=> ?_
 repeat' simp only[WZ,hW]
 refine aloop_trim [3,0] ?_
 simp only[List.map_cons,List.map_nil,↓zaL,WZ,reduceCtorEq]
 refine zJ3 1 (fun i:Nat=> [(3,.int .i64 i)]) (fun _=>_) (fun i=>i<=s.size/\∀j,j<i->lowerB (zD2 s j)=true) (fun i=>s.size-i) C_ok 0 rfl rfl ⟨YAX _,fun j hj=>by omega⟩ (by decide) ?_
 rintro i ⟨hi,hall⟩
 simp only[List.drop_succ_cons,List.drop_zero,List.cons_append,List.nil_append]
 simp only[↓zaL,↓zHC,WZ,yA,reduceCtorEq,W1]
 refine zJv (fun hlt=> ?_) (fun hlt=> ?_)
 ·have h:=YAN
  repeat' (first
   |(with_reducible first|apply bA|apply bB|apply bC|apply bD|apply bE|apply bF)<;>intro h
   |((first|apply bG|apply bH);simp only[yP,yQ];refine zIf (zT9 _) (.inl rfl) ?_)
   |skip)<;>simp only[h,↓zaL,↓zHC,WZ,yA,reduceCtorEq,W1,hlt]
  ·refine⟨i+1,⟨hlt,fun j hj=> ?_⟩,by omega,zas rfl rfl rfl rfl ?_ ?_ ?_⟩
   ·rcases Nat.lt_succ_iff_lt_or_eq.1 hj with hj|rfl
    ·exact hall j hj
    ·simp[h]
   all_goals simp only[WK,↓zaL,↓zHC,yA,yN,yR,yP,zbX hlt hmax]
  ·exact(zMU hlt h).symm
 ·have hlow:=zCH s fun j hj=>hall j (by omega)
  have hp:((⟨#[32]⟩:ByteArray)++s++⟨#[32]⟩)=padB s:=rfl
  have z1:(⟨#[32]⟩:ByteArray).size=1:=rfl
  have z2:((⟨#[32]⟩:ByteArray)++s).size=1+s.size:=by rw[ByteArray.size_append,z1]
  have z3:(1+s.size<=9223372036854775807)=True:=by simp only[YAb,iff_true];omega
  have z4:(1+s.size+1<=9223372036854775807)=True:=by simp only[YAb,iff_true];omega
  simp only[↓zaL,↓zHC,WZ,yA,reduceCtorEq,W1,hp,z1,z2,z3,z4]
  refine aloop_trim [5,0,4] ?_
  simp only[List.map_cons,List.map_nil,↓zaL,↓zHC,WZ,yA,reduceCtorEq]
  refine zJ3 1 (fun i:Nat=> [(5,.int .i64 i)]) (fun _=>_) (fun i=>i<=82/\∀j,j<i->zHv s j=false) (fun i=>82-i) C_ok 0 rfl rfl ⟨by omega,fun j hj=>by omega⟩ (by decide) ?_
  rintro i ⟨hi,hno⟩
  simp only[List.drop_succ_cons,List.drop_zero,List.cons_append,List.nil_append]
  have w1:IntKind.wrap .i64 ((i:Int)+((padB s).size:Int))=((i+(s.size+2):Nat):Int):=by
   rw[zRv]
   have e1:IntKind.i64.min= -9223372036854775808:=by decide
   have e2:IntKind.i64.max=9223372036854775807:=by decide
   rw[wrap_id .i64 _ (by omega) (by omega)];omega
  have hWs:zbI.size=81:=rfl
  simp only[↓zaL,↓zHC,WZ,yA,reduceCtorEq,W1,w1]
  refine zJv (fun hlt=> ?_) (fun hlt=> ?_)
  ·have hi2:i+(s.size+2)<=81:=by omega
   have c1:((0:Int)<=(i:Int))=True:=by simp
   have c2:((i:Int)<=((i+(s.size+2):Nat):Int))=True:=by simp only[YAb,iff_true];omega
   have c3:(((i+(s.size+2):Nat):Int)<=((81:Nat):Int))=True:=by simp only[YAb,iff_true];omega
   have c4:((s.size:Int)>0)=(0<s.size):=by simp
   have hat:((zbI.extract i (i+(s.size+2))).toList==(padB s).toList)=atB s i:=rfl
   have c5:((i:Int)+1:Int)=((i+1:Nat):Int):=by omega
   have c6:IntKind.wrap .i64 ((i+1:Nat):Int)=((i+1:Nat):Int):=by
    have e1:IntKind.i64.min= -9223372036854775808:=by decide
    have e2:IntKind.i64.max=9223372036854775807:=by decide
    rw[wrap_id .i64 _ (by omega) (by omega)]
   repeat' first
    |(apply zJn (fun _ _=>rfl);(· intro hb;(try simp only[YAA,YAD,YAE,YAC]at hb);simp only[hb,↓zaL,↓zHC,WZ,yA,reduceCtorEq,W1,w1,hWs,c1,c2,c3,hat];exact⟨rfl,trivial⟩))
    |(apply zIy (fun _ _=>rfl);(· intro hb;(try simp only[YAA,YAD,YAE,YAC]at hb);simp only[hb,↓zaL,↓zHC,WZ,reduceIte,yA,yB,yC,yD,reduceCtorEq,yE,yF,W1,W5,hlt,w1,hW,hWs,c1,c2,c3,c4,hat,Int.toNat_natCast];exact⟨rfl,trivial⟩))
    |(with_reducible first|apply bA|apply bB|apply bC|apply bD|apply bE|apply bF)<;>intro h<;>try simp only[h,↓zaL,↓zHC,WZ,yA,reduceCtorEq,W1]
    |simp only[↓zaL,↓zHC,WZ,yA,reduceCtorEq,W1,zMM,zMJ,hlt,c4]
   ·rw[YAA,YAa]at h
    have hl:s.data.toList.length=s.size:=by rw[Array.length_toList];rfl
    exact((zMQ hlow).1 ⟨i,by omega,by omega,by rw[<-zCt];exact h.2⟩).symm
   ·refine⟨i+1,⟨by omega,fun j hj=> ?_⟩,by omega,zas rfl rfl rfl rfl ?_ ?_ ?_⟩
    ·rcases Nat.lt_succ_iff_lt_or_eq.1 hj with hj|rfl
     ·exact hno j hj
     ·exact h
    all_goals simp only[WK,↓zaL,↓zHC,yA,yN,yR,yP,c5,c6]
  ·have hnk:keyS s=false:=by
    cases hk:keyS s with
    |false=>rfl
    |true=>
     obtain⟨j,hj,hp',hat⟩:=(zMQ hlow).2 hk
     have hl:s.data.toList.length=s.size:=by rw[Array.length_toList];rfl
     rw[hl]at hj hp'
     rw[<-zCt]at hat
     have:=hno j (by omega)
     simp[zHv,hp',hat]at this
   simp only[↓zaL,↓zHC,WZ,yA,reduceCtorEq]
   exact hnk.symm
theorem zUA(s:ByteArray):zA0 Tryz.prog 85 [.str s] (.bool (zPh s)):=by
 by_cases h1:1<=s.size/\s.size<=32/\lowerB (zD2 s 0)=true
 ·have e1:decide ((s.size:Int)<1)=false:=by simp;omega
  have e2:decide ((s.size:Int)>32)=false:=by simp;omega
  have e0:((0:Int)<(s.size:Int))=True:=by simp;omega
  have hmax:s.size<=maxLen:=by rw[zPC];omega
  have q1:=zT9 (zD2 s 0)
  rw[h1.2.2]at q1
  refine eP C_ok Tryz.func85 Tryz.results85 fun ok H=> ?_
  repeat' first
   |((first|apply zJn (fun _ _=>rfl)|apply zIy (fun _ _=>rfl));(· intro hb;(try simp only[YAA,YAD,YAE,YAC]at hb);simp only[hb,↓zaL,↓zHC,WZ,reduceIte,yA,yB,yC,yD,reduceCtorEq,yE,yF,W1,W5,e1,e2,e0,YAQ,Int.toNat_zero];exact⟨rfl,trivial⟩))
   |((first|apply zJi (q1)|apply zIt (q1));(· intro hb;(try simp only[YAA,YAD,YAE,YAC]at hb);simp only[hb,yP,yQ,W2,↓zaL,↓zHC,WZ,reduceIte,yA,yB,yC,yD,reduceCtorEq,yE,yF,W1,W5,e1,e2,e0,YAQ,Int.toNat_zero];rfl))
   |((first|apply bG|apply bH);simp only[yP,yQ];refine zIf (q1) (.inl rfl) ?_)
   |simp only[↓zaL,WZ,yA,reduceCtorEq,W1,e1,e2,e0,YAQ,Int.toNat_zero]
  refine aloop_trim [3,0] ?_
  simp only[List.map_cons,List.map_nil,↓zaL,WZ,yA,reduceCtorEq]
  refine zJ3 1 (fun i:Nat=> [(3,.int .i64 i)]) (fun _=>_) (fun i=>i<=s.size/\∀j,j<i->(j==0||zLk (zD2 s j))=true) (fun i=>s.size-i) C_ok 0 rfl rfl ⟨YAX _,fun j hj=>by omega⟩ (by decide) ?_
  rintro i ⟨hi,hall⟩
  simp only[List.drop_succ_cons,List.drop_zero,List.cons_append,List.nil_append]
  simp only[↓zaL,↓zHC,WZ,yA,reduceCtorEq,W1]
  refine zJv (fun hlt=> ?_) (fun hlt=> ?_)
  ·have h:=YAN
   repeat' (first
    |(with_reducible first|apply bA|apply bB|apply bC|apply bD|apply bE|apply bF)<;>intro h
    |((first|apply bG|apply bH);simp only[yP,yQ];refine zIf (zUW _) (.inl rfl) ?_)
    |skip)<;>simp only[h,↓zaL,↓zHC,WZ,yA,reduceCtorEq,W1,hlt]
   ·refine⟨i+1,⟨hlt,fun j hj=> ?_⟩,by omega,zas rfl rfl rfl rfl ?_ ?_ ?_⟩
    ·rcases Nat.lt_succ_iff_lt_or_eq.1 hj with hj|rfl
     ·exact hall j hj
     ·simp[h]
    all_goals simp only[WK,↓zaL,↓zHC,yA,yN,yR,yP,zbX hlt hmax]
   ·have hi0:1<=i:=by
     rcases Nat.eq_zero_or_pos i with rfl|hp
     ·have h2:=h1.2.2
      simp only[zLk,h2,Bool.true_or]at h;cases h
     ·exact hp
    exact(zPi hi0 hlt h).symm
  ·have:(allN s.size fun i=>i==0||zLk (zD2 s i))=true:=zB7 fun j hj=>hall j (by omega)
   have hn:zPh s= !keyS s:=by simp[zPh,this,h1]
   rw[hn]
   have h:=YAN
   repeat' (first
    |((first|apply bG|apply bH);simp only[yP,yQ];refine zIf (zT8 s (by omega)) (.inl rfl) ?_)
    |skip)<;>simp only[↓zaL,↓zHC,WZ,yA,reduceCtorEq]
 ·have hn:zPh s=false:=by
   cases h:zPh s with
   |false=>rfl
   |true=>
    simp only[zPh,YAA,YAa]at h
    exact absurd ⟨h.1.1.1.1,h.1.1.1.2,h.1.1.2⟩ h1
  rw[hn]
  by_cases h2:1<=s.size
  ·have e1:decide ((s.size:Int)<1)=false:=by simp;omega
   have e0:((0:Int)<(s.size:Int))=True:=by simp;omega
   by_cases h3:s.size<=32
   ·have e2:decide ((s.size:Int)>32)=false:=by simp;omega
    have q1:=zT9 (zD2 s 0)
    have:lowerB (zD2 s 0)=false:=by simpa [h2,h3]using h1
    rw[this]at q1
    refine eP C_ok Tryz.func85 Tryz.results85 fun ok H=> ?_
    repeat' first
     |((first|apply zJn (fun _ _=>rfl)|apply zIy (fun _ _=>rfl));(· intro hb;(try simp only[YAA,YAD,YAE,YAC]at hb);simp only[hb,↓zaL,↓zHC,WZ,reduceIte,yA,yB,yC,yD,reduceCtorEq,yE,yF,W1,W5,e1,e2,e0,YAQ,Int.toNat_zero];exact⟨rfl,trivial⟩))
     |((first|apply zJi (q1)|apply zIt (q1));(· intro hb;(try simp only[YAA,YAD,YAE,YAC]at hb);simp only[hb,yP,yQ,W2,↓zaL,↓zHC,WZ,reduceIte,yA,yB,yC,yD,reduceCtorEq,yE,yF,W1,W5,e1,e2,e0,YAQ,Int.toNat_zero];rfl))
     |((first|apply bG|apply bH);simp only[yP,yQ];refine zIf (q1) (.inl rfl) ?_)
     |simp only[↓zaL,WZ,yA,reduceCtorEq,W1,e1,e2,e0,YAQ,Int.toNat_zero]
   ·have e2:decide ((s.size:Int)>32)=true:=by simp;omega
    refine eP C_ok Tryz.func85 Tryz.results85 fun ok H=> ?_
    repeat' first
     |(apply zJn (fun _ _=>rfl);(· intro hb;(try simp only[YAA,YAD,YAE,YAC]at hb);simp only[hb,↓zaL,↓zHC,WZ,reduceIte,yA,yB,yC,yD,reduceCtorEq,yE,yF,W1,W5,e1,e2,e0,YAQ,Int.toNat_zero];exact⟨rfl,trivial⟩))
     |(apply zIy (fun _ _=>rfl);(· intro hb;(try simp only[YAA,YAD,YAE,YAC]at hb);simp only[hb,↓zaL,↓zHC,WZ,reduceIte,yA,yB,yC,yD,reduceCtorEq,yE,yF,W1,W5,e1,e2,e0,YAQ,Int.toNat_zero];exact⟨rfl,trivial⟩))
     |simp only[↓zaL,WZ,yA,reduceCtorEq,W1,e1,e2]
  ·have e1:decide ((s.size:Int)<1)=true:=by simp;omega
   refine eP C_ok Tryz.func85 Tryz.results85 fun ok H=> ?_
   repeat' first
    |(apply zJn (fun _ _=>rfl);(· intro hb;(try simp only[YAA,YAD,YAE,YAC]at hb);simp only[hb,↓zaL,↓zHC,WZ,reduceIte,yA,yB,yC,yD,reduceCtorEq,yE,yF,W1,W5,e1];exact⟨rfl,trivial⟩))
    |(apply zIy (fun _ _=>rfl);(· intro hb;(try simp only[YAA,YAD,YAE,YAC]at hb);simp only[hb,↓zaL,↓zHC,WZ,reduceIte,yA,yB,yC,yD,reduceCtorEq,yE,yF,W1,W5,e1];exact⟨rfl,trivial⟩))
    |simp only[↓zaL,WZ,yA,reduceCtorEq,W1,e1]
end
section
def bigP(p:Pt):Bool:=decide ((p.str.size:Int)>300)||decide ((p.name.size:Int)>300)
mutual
def cntP:Pt->Nat->Nat
 | .mk k f t m n s l,c=>if bigP (.mk k f t m n s l)then 401 else zE3 l c
def zE3:List Pt->Nat->Nat
 | [],c=>c
 |x::l,c=>if c<=400 then zE3 l (cntP x (c+1))else c
end
theorem zE7(p:Pt)(c:Nat):cntP p c=if bigP p then 401 else zE3 p.kids c:=by cases p;rw[cntP];rfl
mutual
theorem zE8:∀(p:Pt) (c:Nat),cntP p c<=max c 401
 | .mk k f t m n s l,c=>by
  have:=zE4 l c
  rw[zE7];simp only[Pt.kids];split<;>omega
theorem zE4:∀(l:List Pt) (c:Nat),zE3 l c<=max c 401
 | [],c=>by simp[zE3];omega
 |x::l,c=>by
  rw[zE3]
  split
  ·have h1:=zE8 x (c+1)
   have h2:=zE4 l (cntP x (c+1))
   omega
  ·omega
end
theorem zE6{l:List Pt}{c:Nat}(h:¬c<=400):zE3 l c=c:=by cases l<;>simp[zE3,h]
mutual
theorem zE9:∀(p:Pt) (c:Nat),cntP p c<=400->c+zV6 p<=cntP p c+1
 | .mk k f t m n s l,c,h=>by
  rw[zE7]at h⊢
  simp only[Pt.kids]at h⊢
  split at h
  ·omega
  ·rename_i hb;rw[if_neg hb];have:=zE5 l c h;simp only[zV6];omega
theorem zE5:∀(l:List Pt) (c:Nat),zE3 l c<=400->c+zV7 l<=zE3 l c
 | [],c,h=>by simp[zE3,zV7]
 |x::l,c,h=>by
  rw[zE3]at h⊢
  split at h
  ·rename_i hc
   rw[if_pos hc]
   have h2:=zE5 l _ h
   have h1:=zE9 x (c+1) (by omega)
   simp only[zV7];omega
  ·omega
end
theorem zFy{p:Pt}{i:Nat}(h:i<p.kids.length):p.kids.drop i=p.kid i::p.kids.drop (i+1):=by
 rw[List.drop_eq_getElem_cons h];simp[Pt.kid,h]
theorem zbS{c:Nat}(h:c<=1000000):IntKind.wrap .i64 ((c:Int)+1)=((c+1:Nat):Int):=zbX (Nat.lt_succ_self c) (by rw[zPC];omega)
theorem zFN(p:Pt)(c:Nat)(hc:c<=401)(ih:∀x∈p.kids,∀c:Nat,c<=401->zA0 Tryz.prog 18 [embP x,.int .i64 c] (.int .i64 (cntP x c))):zA0 Tryz.prog 18 [embP p,.int .i64 c] (.int .i64 (cntP p c)):=by
 cases hb:bigP p with
 |true=>
  rw[zE7,hb]
  unfold bigP at hb
  refine eP C_ok Tryz.func18 Tryz.results18 fun ok H=> ?_
  repeat' first
   |(apply zJn (fun _ _=>rfl);(· intro hb;(try simp only[YAA,YAD,YAE,YAC]at hb);simp only[↓zaL,WZ,yA,yB,yC,W1,hb];exact⟨rfl,trivial⟩))
   |(apply zIy (fun _ _=>rfl);(· intro hb;(try simp only[YAA,YAD,YAE,YAC]at hb);simp only[hb,↓zaL,↓zHC,WZ,reduceIte,yA,yB,yC,yD,reduceCtorEq,yE,yF,W1,W1P,W5,hb];exact⟨rfl,trivial⟩))
   |simp only[↓zaL,WZ,yA,yB,yC,W1,W1P,zML,zMK,hb]
  all_goals first|rfl|(exfalso;simp_all;done)
 |false=>
  have hcnt:cntP p c=zE3 p.kids c:=by rw[zE7,hb];rfl
  unfold bigP at hb
  refine eP C_ok Tryz.func18 Tryz.results18 fun ok H=> ?_
  repeat' first
   |(apply zJn (fun _ _=>rfl);(· intro hb;(try simp only[YAA,YAD,YAE,YAC]at hb);simp only[↓zaL,WZ,yA,yB,yC,W1,hb];exact⟨rfl,trivial⟩))
   |(apply zIy (fun _ _=>rfl);(· intro hb;(try simp only[YAA,YAD,YAE,YAC]at hb);simp only[hb,↓zaL,↓zHC,WZ,reduceIte,yA,yB,yC,yD,reduceCtorEq,yE,yF,W1,W1P,W5,hb];exact⟨rfl,trivial⟩))
   |simp only[↓zaL,WZ,yA,yB,yC,W1,W1P,zML,zMK,hb]
  have hmax:p.kids.length<=maxLen:=(zGp ok.1).1
  refine aloop_trim [1,5,2] ?_
  simp only[List.map_cons,List.map_nil,↓zaL,WZ,yA]
  refine zJ3 2 (fun x:Nat×Nat=> [(1,.int .i64 x.2),(5,.int .i64 x.1)]) (fun _=>_) (fun x=>x.1<=p.kids.length/\x.2<=401/\zE3 (p.kids.drop x.1) x.2=cntP p c) (fun x=>p.kids.length-x.1) C_ok (0,c) rfl rfl ⟨YAX _,hc,hcnt.symm⟩ (by decide) ?_
  rintro⟨i,m⟩ ⟨hi,hm,hr⟩
  simp only at hi hm hr
  simp only[List.drop_succ_cons,List.drop_zero,List.cons_append,List.nil_append]
  simp only[↓zaL,↓zHC,WZ,yA,yB,W1]
  refine zJk (fun hlt=> ?_) (fun hlt=> ?_)
  ·simp only[hlt,↓zaL,↓zHC,WZ,yA,W1]
   refine zJv (fun h6=> ?_) (fun h6=> ?_)
   ·have h6':m<=400:=by omega
    repeat' (first
     |((first|apply bG|apply bH);simp only[yP,yQ,W2P];refine zIf (ih _ (zSk hlt) (m+1) (by omega)) (.inl rfl) ?_)
     |skip)<;>simp only[↓zaL,↓zHC,WZ,yA,yB,W1,W1P,hlt,zOi hlt,zbS (show m<=1000000 by omega)]
    have hc':=zE8 (p.kid i) (m+1)
    refine⟨(i+1,cntP (p.kid i) (m+1)),⟨hlt,by simp only;omega,?_⟩,by simp only;omega,zas rfl rfl rfl rfl ?_ ?_ ?_⟩
    ·rw[<-hr,zFy hlt,zE3,if_pos h6']
    all_goals simp only[WK,↓zaL,↓zHC,yA,yN,yO,yR,yP,zbX hlt hmax,zOh,yO]
   ·simp only[↓zaL,↓zHC,WZ,yA,reduceCtorEq]
    rw[<-hr,zE6 (by omega)]
  ·simp only[hlt,↓zaL,↓zHC,WZ,yA,reduceCtorEq]
   rw[<-hr,List.drop_of_length_le (by omega)];rfl
theorem zFM:∀(p:Pt) (c:Nat),c<=401->zA0 Tryz.prog 18 [embP p,.int .i64 c] (.int .i64 (cntP p c)):=
 Pt.ind (p:=fun p=>∀c:Nat,c<=401->zA0 Tryz.prog 18 [embP p,.int .i64 c] (.int .i64 (cntP p c))) fun p ih c hc=>zFN p c hc fun x hx c hc=>ih x hx c hc
def zLI(p:Pt):Bool:=decide ((cntP p 0:Int)>400)
theorem zLK(p:Pt):zA0 Tryz.prog 4 [embP p] (.bool (zLI p)):=by
 have q:zA0 Tryz.prog 18 [embP p,.int .i64 0] (.int .i64 (cntP p 0)):=zFM p 0 (by omega)
 refine eP C_ok Tryz.func4 Tryz.results4 fun ok H=> ?_
 repeat' (first
  |((first|apply bG|apply bH);simp only[yP,yQ,W2P];refine zIf (q) (.inl rfl) ?_)
  |skip)<;>simp only[↓zaL,WZ,yA,yB,W1,W1P]
 all_goals rfl
theorem zLJ{p:Pt}(h:zLI p=false):zV6 p<=401:=by
 unfold zLI at h
 simp only[decide_eq_false_iff_not]at h
 have:=zE9 p 0 (by omega)
 omega
end
section
def ST(s:ByteArray):AV:= .str s
theorem zXP(s:ByteArray):ST s= .str s:=rfl
theorem zXs(m:Nat)(l:List ByteArray):AV.belL m (l.map ST)=true:=by induction l with|nil=>rfl|cons b l ih=>simp[yO,yN,ST];simpa [ST]using ih
theorem zXu(l:List ByteArray):AV.normL (l.map ST)=l.map ST:=by induction l with|nil=>rfl|cons b l ih=>simp[yQ,yP,ST];simpa [ST]using ih
theorem zCJ(l:List ByteArray):(∀y,y∈l.map ST->(cellsOf y).length=1)=True:=by
 simp only[YAb,iff_true];intro y hy;obtain⟨t,_,rfl⟩:=List.mem_map.1 hy;rfl
theorem zOx{l:List ByteArray}{i:Nat}(h:i<l.length):(l.map ST).getD i .any=ST (l.getD i ByteArray.empty):=by simp[h]
mutual
def zPk:Pt->List ByteArray->List ByteArray
 | .mk k _ _ m _ _ l,out=>zPl l (if k=2 then out++ [m]else out)
def zPl:List Pt->List ByteArray->List ByteArray
 | [],out=>out
 |t::l,out=>zPl l (zPk t out)
end
theorem zPo(p:Pt)(out:List ByteArray):zPk p out=zPl p.kids (if p.kind=2 then out++ [p.name]else out):=by cases p;rw[zPk];rfl
mutual
theorem zPp:∀(p:Pt) (out:List ByteArray),(zPk p out).length<=out.length+zV6 p
 | .mk k f t m n s l,out=>by
  rw[zPk]
  have:=zPm l (if k=2 then out++ [m]else out)
  have h2:(if k=2 then out++ [m]else out).length<=out.length+1:=by split<;>simp
  simp only[zV6];omega
theorem zPm:∀(l:List Pt) (out:List ByteArray),(zPl l out).length<=out.length+zV7 l
 | [],out=>by simp[zPl]
 |t::l,out=>by
  have h1:=zPm l (zPk t out)
  have h2:=zPp t out
  simp only[zPl,zV7];omega
end
theorem zV9(p:Pt):zV6 p=1+zV7 p.kids:=by cases p;rfl
theorem zV8:∀l:List Pt,l.length<=zV7 l
 | []=>YAV _
 |t::l=>by have:=zV8 l;have h:=zV9 t;simp only[zV7,List.length_cons];omega
abbrev zA6 (t:Pt):Prop:=∀(l:List ByteArray) (a:AV) (F:List AObj),l.length+zV6 t<=1000000->zAC 1 F (l.map ST) a->zAA Tryz.prog 86 [embP t,a] F fun r F'=>AccR 1 F a ((zPk t l).map ST) r F'
theorem zUC(t:Pt)(ih:∀x∈t.kids,zA6 x):zA6 t:=by
 intro l a F hl hacc
 have hlen:=zV8 t.kids
 have hnod:=zV9 t
 have hb:F.length<=F.length:=YAV _
 have hmax:t.kids.length<=maxLen:=by rw[zPC];omega
 have hvf:=zPo t l
 rcases hacc with ⟨e1,rfl⟩|⟨q,rfl,hq⟩
 ·obtain rfl:l=[]:=List.map_eq_nil_iff.1 e1
  have hacc:zAC 1 F (([]:List ByteArray).map ST) (.sl [] .full):= .inl ⟨rfl,rfl⟩
  refine eE C_ok Tryz.func86 Tryz.results86 fun ok=> ?_
  have h:=YAN
  repeat' (first
   |(with_reducible first|apply bA|apply bB|apply bC|apply bD|apply bE|apply bF)<;>intro h
   |skip)<;>simp only[h,↓zaL,WY,yA,yB,yC,yD,yE,yF,W1,W1P,WS]
  ·refine zCN [1,5,2] ?_
   simp only[List.map_cons,List.map_nil,↓zaL,WY,yA,WS]
   refine zJ1 2 (fun x:Nat×AV×List ByteArray×List AObj=> [(1,x.2.1),(5,.int .i64 x.1)]) (fun x=>x.2.2.2) (fun x=>x.1<=t.kids.length/\AccR 1 F (.sl [] .full) (x.2.2.1.map ST) x.2.1 x.2.2.2/\x.2.2.2[F.length]?=some (.box (cellsOf (embP t)))/\zPl (t.kids.drop x.1) x.2.2.1=zPk t []/\x.2.2.1.length+zV7 (t.kids.drop x.1)<=1000000) (fun x=>t.kids.length-x.1) C_ok (0,_,[t.name],_) rfl rfl ⟨YAX _,by have:=(AccR.junk (F:=F) hacc [.box (cellsOf (embP t))]).trans hacc (AccR.app0 (ST t.name));simpa [zGi,ST]using this,by rw[zGi];simp,by rw[List.drop_zero,hvf];simp_all,by simp only[List.drop_zero,List.length_cons,List.length_nil];(try simp only[List.length_nil]at hl);omega⟩ (by decide) ?_
   rintro⟨i,a1,l1,F1⟩ ⟨hi,h1,h2,h3,h4⟩
   simp only at hi h1 h2 h3 h4
   rw[zGi]at h2
   have hacc1:=AccR.ok hacc h1
   have hb1:=h1.len
   simp only[List.drop_succ_cons,List.drop_zero,List.cons_append,List.nil_append]
   simp only[↓zaL,↓zHC,WY,yA,yB,W1,W1P,WS,h2]
   refine zJv (fun hlt=> ?_) (fun hlt=> ?_)
   ·simp only[↓zaL,↓zHC,WY,yA,yB,W1,W1P,WS,h2,hlt,zOi hlt]
    have hdr:=zFy hlt
    rw[hdr]at h3 h4
    simp only[zV7,zPl]at h3 h4
    refine fsCall (ih _ (zSk hlt) l1 a1 F1 (by omega) hacc1) (.inl rfl) fun r F2 hr hlen2=>⟨fun hbel=>hr.bel hacc1 hb1 hbel,?_⟩
    have hg:=hr.get hacc1 h2 (by intro m;simp)
    have hl2:=zPp (t.kid i) l1
    simp only[↓zaL,↓zHC,WY,yA,W1,WS]
    refine⟨(i+1,r,zPk (t.kid i) l1,F2),⟨hlt,h1.trans hacc hr,by first|exact hg|(rw[zGi];exact hg),h3,by simp only;omega⟩,by simp only;omega,zap rfl ?_⟩
    simp only[WK,↓zaL,↓zHC,yA,yP,zbX hlt hmax]
   ·simp only[↓zaL,↓zHC,WY,yA,WS]
    have hi':i=t.kids.length:=by omega
    subst hi'
    rw[List.drop_length]at h3
    simp only[zPl]at h3
    rw[<-h3];exact h1
  ·refine zCN [1,5,2] ?_
   simp only[List.map_cons,List.map_nil,↓zaL,WY,yA,WS]
   refine zJ1 2 (fun x:Nat×AV×List ByteArray×List AObj=> [(1,x.2.1),(5,.int .i64 x.1)]) (fun x=>x.2.2.2) (fun x=>x.1<=t.kids.length/\AccR 1 F (.sl [] .full) (x.2.2.1.map ST) x.2.1 x.2.2.2/\x.2.2.2[F.length]?=some (.box (cellsOf (embP t)))/\zPl (t.kids.drop x.1) x.2.2.1=zPk t []/\x.2.2.1.length+zV7 (t.kids.drop x.1)<=1000000) (fun x=>t.kids.length-x.1) C_ok (0,_,[],_) rfl rfl ⟨YAX _,AccR.junk hacc _,by rw[zGi];simp,by rw[List.drop_zero,hvf];simp_all,by simp only[List.drop_zero,List.length_nil];(try simp only[List.length_nil]at hl);omega⟩ (by decide) ?_
   rintro⟨i,a1,l1,F1⟩ ⟨hi,h1,h2,h3,h4⟩
   simp only at hi h1 h2 h3 h4
   rw[zGi]at h2
   have hacc1:=AccR.ok hacc h1
   have hb1:=h1.len
   simp only[List.drop_succ_cons,List.drop_zero,List.cons_append,List.nil_append]
   simp only[↓zaL,↓zHC,WY,yA,yB,W1,W1P,WS,h2]
   refine zJv (fun hlt=> ?_) (fun hlt=> ?_)
   ·simp only[↓zaL,↓zHC,WY,yA,yB,W1,W1P,WS,h2,hlt,zOi hlt]
    have hdr:=zFy hlt
    rw[hdr]at h3 h4
    simp only[zV7,zPl]at h3 h4
    refine fsCall (ih _ (zSk hlt) l1 a1 F1 (by omega) hacc1) (.inl rfl) fun r F2 hr hlen2=>⟨fun hbel=>hr.bel hacc1 hb1 hbel,?_⟩
    have hg:=hr.get hacc1 h2 (by intro m;simp)
    have hl2:=zPp (t.kid i) l1
    simp only[↓zaL,↓zHC,WY,yA,W1,WS]
    refine⟨(i+1,r,zPk (t.kid i) l1,F2),⟨hlt,h1.trans hacc hr,by first|exact hg|(rw[zGi];exact hg),h3,by simp only;omega⟩,by simp only;omega,zap rfl ?_⟩
    simp only[WK,↓zaL,↓zHC,yA,yP,zbX hlt hmax]
   ·simp only[↓zaL,↓zHC,WY,yA,WS]
    have hi':i=t.kids.length:=by omega
    subst hi'
    rw[List.drop_length]at h3
    simp only[zPl]at h3
    rw[<-h3];exact h1
 ·have hacc:zAC 1 F (l.map ST) (.sl (l.map ST) (.own q)):= .inr ⟨q,rfl,hq⟩
  have hql:=zIc hq
  rw[YAK]at hq
  refine eE C_ok Tryz.func86 Tryz.results86 fun ok=> ?_
  have h:=YAN
  repeat' (first
   |(with_reducible first|apply bA|apply bB|apply bC|apply bD|apply bE|apply bF)<;>intro h
   |skip)<;>simp only[h,↓zaL,WY,yA,yB,yC,yD,yE,yF,W1,W1P,WS,zCS hql,zCW hql,hq,zCJ]
  ·refine⟨⟨by omega,by omega⟩,?_⟩
   refine zCN [1,5,2] ?_
   simp only[List.map_cons,List.map_nil,↓zaL,WY,yA,WS]
   refine zJ1 2 (fun x:Nat×AV×List ByteArray×List AObj=> [(1,x.2.1),(5,.int .i64 x.1)]) (fun x=>x.2.2.2) (fun x=>x.1<=t.kids.length/\AccR 1 F (.sl (l.map ST) (.own q)) (x.2.2.1.map ST) x.2.1 x.2.2.2/\x.2.2.2[F.length]?=some (.box (cellsOf (embP t)))/\zPl (t.kids.drop x.1) x.2.2.1=zPk t l/\x.2.2.1.length+zV7 (t.kids.drop x.1)<=1000000) (fun x=>t.kids.length-x.1) C_ok (0,_,l++ [t.name],_) rfl rfl ⟨YAX _,by have h0:=AccR.app (sz:=1) (F:=F) (es:=l.map ST) (q:=q) (ST t.name);have:=h0.trans hacc (AccR.junk (h0.ok hacc) [.box (cellsOf (embP t))]);simpa [zGi,ST]using this,by rw[zGi];simp,by rw[List.drop_zero,hvf];simp_all,by simp only[List.drop_zero,YAJ,List.length_cons,List.length_nil];(try simp only[List.length_nil]at hl);omega⟩ (by decide) ?_
   rintro⟨i,a1,l1,F1⟩ ⟨hi,h1,h2,h3,h4⟩
   simp only at hi h1 h2 h3 h4
   rw[zGi]at h2
   have hacc1:=AccR.ok hacc h1
   have hb1:=h1.len
   simp only[List.drop_succ_cons,List.drop_zero,List.cons_append,List.nil_append]
   simp only[↓zaL,↓zHC,WY,yA,yB,W1,W1P,WS,h2]
   refine zJv (fun hlt=> ?_) (fun hlt=> ?_)
   ·simp only[↓zaL,↓zHC,WY,yA,yB,W1,W1P,WS,h2,hlt,zOi hlt]
    have hdr:=zFy hlt
    rw[hdr]at h3 h4
    simp only[zV7,zPl]at h3 h4
    refine fsCall (ih _ (zSk hlt) l1 a1 F1 (by omega) hacc1) (.inl rfl) fun r F2 hr hlen2=>⟨fun hbel=>hr.bel hacc1 hb1 hbel,?_⟩
    have hg:=hr.get hacc1 h2 (by intro m;simp)
    have hl2:=zPp (t.kid i) l1
    simp only[↓zaL,↓zHC,WY,yA,W1,WS]
    refine⟨(i+1,r,zPk (t.kid i) l1,F2),⟨hlt,h1.trans hacc hr,by first|exact hg|(rw[zGi];exact hg),h3,by simp only;omega⟩,by simp only;omega,zap rfl ?_⟩
    simp only[WK,↓zaL,↓zHC,yA,yP,zbX hlt hmax]
   ·simp only[↓zaL,↓zHC,WY,yA,WS]
    have hi':i=t.kids.length:=by omega
    subst hi'
    rw[List.drop_length]at h3
    simp only[zPl]at h3
    rw[<-h3];exact h1
  ·refine zCN [1,5,2] ?_
   simp only[List.map_cons,List.map_nil,↓zaL,WY,yA,WS]
   refine zJ1 2 (fun x:Nat×AV×List ByteArray×List AObj=> [(1,x.2.1),(5,.int .i64 x.1)]) (fun x=>x.2.2.2) (fun x=>x.1<=t.kids.length/\AccR 1 F (.sl (l.map ST) (.own q)) (x.2.2.1.map ST) x.2.1 x.2.2.2/\x.2.2.2[F.length]?=some (.box (cellsOf (embP t)))/\zPl (t.kids.drop x.1) x.2.2.1=zPk t l/\x.2.2.1.length+zV7 (t.kids.drop x.1)<=1000000) (fun x=>t.kids.length-x.1) C_ok (0,_,l,_) rfl rfl ⟨YAX _,AccR.junk hacc _,by rw[zGi];simp,by rw[List.drop_zero,hvf];simp_all,by simp only[List.drop_zero];(try simp only[List.length_nil]at hl);omega⟩ (by decide) ?_
   rintro⟨i,a1,l1,F1⟩ ⟨hi,h1,h2,h3,h4⟩
   simp only at hi h1 h2 h3 h4
   rw[zGi]at h2
   have hacc1:=AccR.ok hacc h1
   have hb1:=h1.len
   simp only[List.drop_succ_cons,List.drop_zero,List.cons_append,List.nil_append]
   simp only[↓zaL,↓zHC,WY,yA,yB,W1,W1P,WS,h2]
   refine zJv (fun hlt=> ?_) (fun hlt=> ?_)
   ·simp only[↓zaL,↓zHC,WY,yA,yB,W1,W1P,WS,h2,hlt,zOi hlt]
    have hdr:=zFy hlt
    rw[hdr]at h3 h4
    simp only[zV7,zPl]at h3 h4
    refine fsCall (ih _ (zSk hlt) l1 a1 F1 (by omega) hacc1) (.inl rfl) fun r F2 hr hlen2=>⟨fun hbel=>hr.bel hacc1 hb1 hbel,?_⟩
    have hg:=hr.get hacc1 h2 (by intro m;simp)
    have hl2:=zPp (t.kid i) l1
    simp only[↓zaL,↓zHC,WY,yA,W1,WS]
    refine⟨(i+1,r,zPk (t.kid i) l1,F2),⟨hlt,h1.trans hacc hr,by first|exact hg|(rw[zGi];exact hg),h3,by simp only;omega⟩,by simp only;omega,zap rfl ?_⟩
    simp only[WK,↓zaL,↓zHC,yA,yP,zbX hlt hmax]
   ·simp only[↓zaL,↓zHC,WY,yA,WS]
    have hi':i=t.kids.length:=by omega
    subst hi'
    rw[List.drop_length]at h3
    simp only[zPl]at h3
    rw[<-h3];exact h1
theorem zUB(t:Pt):zA6 t:=Pt.ind zUC t
def zPr(t:Pt):List ByteArray:=zPk t []
theorem zTG(t:Pt)(ht:zV6 t<=1000000):zA0 Tryz.prog 67 [embP t] (.sl ((zPr t).map ST) .no):=by
 have hb:∀H:List AObj,H.length<=H.length:=fun H=>YAV _
 refine zSa C_ok Tryz.func67 rfl (by decide) (YAL rfl) (by decide) (by simp only[yN,zXs,Bool.and_self]) fun ok H=> ?_
 rw[Tryz.results67]
 rw[zLh]
 repeat' simp only[↓zaL,WY,yA,yB,W1,W1P,WS,hb]
 refine fsCall (zUB t [] _ _ (by simp only[List.length_nil];omega) (.inl ⟨rfl,rfl⟩)) (.inl rfl) fun r F' hr hlen=>⟨fun hbel=>hr.bel (.inl ⟨rfl,rfl⟩) (by simp) hbel,?_⟩
 obtain⟨h1,J,rfl⟩:=hr.out
 simp only[↓zaL,WY,yA,WS,h1,zXu]
 simp[zPr]
def hasS(l:List ByteArray)(s:ByteArray):Bool:=l.any fun x=>x.toList==s.toList
theorem zTm(l:List ByteArray)(s:ByteArray):zA0 Tryz.prog 68 [.sl (l.map ST) .no,.str s] (.bool (hasS l s)):=by
 refine eP C_ok Tryz.func68 Tryz.results68 fun ok H=> ?_
 repeat' simp only[WZ]
 have hmax:l.length<=maxLen:=by
  have:=ok.1;simp only[AV.okay,YAK]at this;exact this.1
 refine aloop_trim [5,0,1] ?_
 simp only[List.map_cons,List.map_nil,↓zaL,WZ,yA,reduceCtorEq]
 refine zJ3 1 (fun i:Nat=> [(5,.int .i64 i)]) (fun _=>_) (fun i=>i<=l.length/\hasS (l.take i) s=false) (fun i=>l.length-i) C_ok 0 rfl rfl ⟨YAX _,by simp[hasS]⟩ (by decide) ?_
 rintro i ⟨hi,hall⟩
 simp only[List.drop_succ_cons,List.drop_zero,List.cons_append,List.nil_append]
 simp only[↓zaL,↓zHC,WZ,yA,reduceCtorEq,W1]
 refine zJv (fun hlt=> ?_) (fun hlt=> ?_)
 ·have h:=YAN
  repeat' (first
   |(with_reducible first|apply bA|apply bB|apply bC|apply bD|apply bE|apply bF)<;>intro h
   |skip)<;>simp only[h,↓zaL,↓zHC,WZ,yA,reduceCtorEq,W1,hlt,zOx hlt,zXP]
  ·have h':(l[i].toList==s.toList)=true:=by simpa [hlt]using h
   have:hasS l s=true:=by unfold hasS;rw[List.any_eq_true];exact⟨l[i],List.getElem_mem hlt,h'⟩
   exact this.symm
  ·have h':(l[i].toList==s.toList)=false:=by simpa [hlt]using h
   refine⟨i+1,⟨hlt,?_⟩,by omega,zas rfl rfl rfl rfl ?_ ?_ ?_⟩
   ·have e:l.take (i+1)=l.take i++ [l[i]]:=by rw[List.take_add_one,YAI hlt];rfl
    unfold hasS at hall⊢
    rw[e,List.any_append,hall];simp[h']
   all_goals simp only[WK,↓zaL,↓zHC,yA,yN,yR,yP,zbX hlt hmax,zXs]
 ·simp only[↓zaL,↓zHC,WZ,yA,reduceCtorEq]
  have:i=l.length:=by omega
  subst this
  rw[List.take_length]at hall
  exact hall.symm
end
end Go.Proofs.YtdngjamjccjlmaaGreat
