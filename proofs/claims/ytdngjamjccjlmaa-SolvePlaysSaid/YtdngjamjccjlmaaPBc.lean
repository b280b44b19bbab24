/- Lemmas: rows of pairs, walked. No condition. -/
import Derived.Test.YtdngjamjccjlmaaPTa
import Derived.Test.YtdngjamjccjlmaaPW
import Derived.Test.YtdngjamjccjlmaaPCa
set_option linter.defProp false
set_option linter.unusedSimpArgs false
set_option linter.unusedVariables false
set_option maxHeartbeats 4000000
set_option maxRecDepth 100000
namespace Go.Proofs.Ytdngjamjccjlmaa
open Go Go.Ab
open Nat renaming reduceEqDiff -> yA, reduceAdd -> yB, reduceLT -> yC, reduceLeDiff -> yD, reduceMul -> yE, reducePow -> yF, reduceBEq -> yG
open Int renaming reduceAdd -> yH, reduceLT -> yI, reduceToNat -> yJ, reduceBEq -> yK, reduceBNe -> yL, reduceLE -> yM
section
abbrev Pr:=Ty×Ty
def embQ(p:Pr):AV:= .agg [.int .i64 p.1.kind,.int .i64 p.1.num,.sl (p.1.kids.map emb) .no,.int .i64 p.2.kind,.int .i64 p.2.num,.sl (p.2.kids.map emb) .no]
theorem zeG(p:Pr):embQ p= .agg [.int .i64 p.1.kind,.int .i64 p.1.num,.sl (p.1.kids.map emb) .no,.int .i64 p.2.kind,.int .i64 p.2.num,.sl (p.2.kids.map emb) .no]:=rfl
theorem zGs(k n k' n':Int)(l l':List Ty):AV.agg [.int .i64 k,.int .i64 n,.sl (l.map emb) .no,.int .i64 k',.int .i64 n',.sl (l'.map emb) .no]=embQ (.mk k n l,.mk k' n' l'):=rfl
theorem zGr(p:Pr):cellsOf (embQ p)=[.int .i64 p.1.kind,.int .i64 p.1.num,.sl (p.1.kids.map emb) .no,.int .i64 p.2.kind,.int .i64 p.2.num,.sl (p.2.kids.map emb) .no]:=rfl
theorem zGu(p:Pr):(embQ p).solid=true:=rfl
theorem zCD(l:List Pr):(∀y,y∈l.map embQ->(cellsOf y).length=6)=True:=by
 simp only[YAb,iff_true];intro y hy;obtain⟨t,_,rfl⟩:=List.mem_map.1 hy;rw[zGr];rfl
theorem zGt(p:Pr):(embQ p).norm=embQ p:=by simp only[embQ,AV.norm,AV.zQg,zOu]
theorem zeF(m:Nat)(p:Pr):(embQ p).bel m=true:=by simp only[embQ,AV.bel,AV.belL,zOq,Bool.and_self]
theorem zOn(l:List Pr):AV.zQg (l.map embQ)=l.map embQ:=by
 induction l with
 |nil=>rfl
 |cons a l ih=>simp only[List.map_cons,AV.zQg,zGt,ih]
theorem zew(m:Nat)(l:List Pr):AV.belL m (l.map embQ)=true:=by
 induction l with
 |nil=>rfl
 |cons a l ih=>simp only[List.map_cons,AV.belL,zeF,ih,Bool.and_self]
theorem zex{l:List Pr}{i:Nat}(h:i<l.length):(l.map embQ).getD i .any=embQ (l.getD i default):=by simp[h]
def W1Qd:=cjI @zCD (cjI @zGu (cjI @zGr (cjI @zGs (cjI @zGt (@zOn)))))
theorem W1Q:type_of% W1Qd:=W1Qd
def W2Qd:=cjI @zGt (cjI @zOn (@zGs))
theorem W2Q:type_of% W2Qd:=W2Qd
end
section
attribute [local irreducible] zA0 zAA zAa zAi zAj GoIf GoGb zAk GoO GoD GoX GoDX GoG GoDG GoGv zAl Go zAB
def zWP(p:Pr):Bool:=small [p.1,p.2]&&right p.1&&right p.2
def zWE:List Pr->Nat
 | []=>0
 |p::l=>nodes p.1+nodes p.2+zWE l
def rowQ:List Pr->Ty
 | []=>zM6 4
 |p::l=>twoT 7 (twoT 7 p.1 p.2) (rowQ l)
def zWK(l:List Pr):Bool:=decide (l.length<=12)&&allN l.length (fun i=>zWP (l.getD i default))&&decide (zWE l<=200)&&decide ((zaa (rowQ l)).length<=12)
theorem zgi:∀(l:List Pr) (i:Nat),i<l.length->zWE (l.take (i+1))=zWE (l.take i)+nodes (l.getD i default).1+nodes (l.getD i default).2
 |p::l,0,_=>by simp[zWE]
 |p::l,i+1,h=>by
  have:=zgi l i (by simpa using h)
  simp only[List.take_succ_cons,zWE,List.getD_cons_succ,this];omega
theorem zgm{p:Pr}(h:zWP p=true):nodes p.1<=600/\nodes p.2<=600:=by
 simp only[zWP,YAA]at h
 exact⟨zgl (zgn h.1.1 (by simp)),zgl (zgn h.1.1 (by simp))⟩
theorem zgh:∀(l:List Pr) (i:Nat),i<=l.length->(∀j,j<i->zWP (l.getD j default)=true)->zWE (l.take i)<=1200*i
 |l,0,_,_=>by simp[zWE]
 |l,i+1,h,hs=>by
  have h1:=zgh l i (by omega) fun j hj=>hs j (by omega)
  have h2:=zgm (hs i (by omega))
  rw[zgi l i h];omega
theorem zgL:∀l:List Pr,nodes (rowQ l)=zWE l+2*l.length+1
 | []=>rfl
 |p::l=>by
  have:=zgL l
  simp only[rowQ,twoT,nodes,zQW,zWE,List.length_cons,this];omega
def idxR:Nat->Int
 |0=> -1
 |k+1=>k
theorem zeU(k:Nat):idxR k=(k:Int)-1:=by cases k<;>simp[idxR]<;>omega
theorem zgK{l:List Pr}{k:Nat}(h:k<l.length):rowQ (l.drop k)=twoT 7 (twoT 7 (l.getD k default).1 (l.getD k default).2) (rowQ (l.drop (k+1))):=by
 rw[List.drop_eq_getElem_cons h,rowQ];simp[h]
theorem zgN(l:List Pr)(hl:l.length<=1000):zA0 Try.prog 63 [.sl (l.map embQ) .no] (emb (rowQ l)):=by
 have w0:IntKind.wrap .i64 ((l.length:Int)-1)=idxR l.length:=by rw[zeU];exact zbT (by omega) (by omega)
 refine zSa C_ok Try.func63 rfl (by decide) (YAL rfl) (by decide) (zGx _ _) fun ok H=> ?_
 rw[Try.results63]
 have h:=YAN
 repeat' (first
  |(with_reducible first|apply bA|apply bB|apply bC|apply bD|apply bE|apply bF)<;>intro h
  |((first|apply bG|apply bH);simp only[AV.norm,AV.zQg,W2,W2Q,YAK,w0];first|refine zIf (zM8 4) (.inl rfl) ?_|refine zIj (zM8 4) (.inl rfl) ?_)
  |refine zKg (id:=5) C_ok (fun _=>trivial) mixed 0 Try.f63.ntmps rfl (by kernel_rfl) (by decide) ?_
  |skip)<;>simp only[h,↓zaL,↓zHC,WZ,reduceIte,yA,yB,yC,yD,reduceCtorEq,yE,yF,W1,W1Q,YAK,w0]
 refine aloop_trim [4,0,2,3] ?_
 simp only[List.map_cons,List.map_nil,↓zaL,↓zHC,WZ,reduceIte,yA,yB,yC,yD,reduceCtorEq,yE,yF,W1,W1Q]
 refine zJ2 1 1 (fun k:Nat=> [(4,.int .i64 (idxR k))]) (fun k=> [.box [.int .i64 (rowQ (l.drop k)).kind,.int .i64 (rowQ (l.drop k)).num,.sl ((rowQ (l.drop k)).kids.map emb) .no]]) (fun k=>k<=l.length) (fun k=>k) C_ok l.length rfl (by rw[List.drop_length];rfl) (YAV _) (by decide) ?_
 rintro(_|k) hk
 ·simp only[List.drop_succ_cons,List.drop_zero,List.cons_append,List.nil_append,List.take_succ_cons,List.take_zero,idxR]
  have c0:((-1:Int)≥0)=False:=by simp
  have h:=YAN
  repeat' (first
   |(with_reducible first|apply bA|apply bB|apply bC|apply bD|apply bE|apply bF)<;>intro h
   |refine zKg (id:=5) C_ok (fun _=>trivial) mixed 0 Try.f63.ntmps rfl (by kernel_rfl) (by decide) ?_
   |skip)<;>simp only[h,↓zaL,↓zHC,WZ,reduceIte,yA,yB,yC,yD,reduceCtorEq,yE,yF,W1,W1Q,c0]
 ·simp only[List.drop_succ_cons,List.drop_zero,List.cons_append,List.nil_append,List.take_succ_cons,List.take_zero]
  have hlt:k<l.length:=hk
  have c0:((k:Int)≥0)=True:=by simp
  have w1:IntKind.wrap .i64 ((k:Int)-1)=idxR k:=by rw[zeU];exact zbT (by omega) (by omega)
  have e:=zgK hlt
  generalize rowQ (l.drop (k+1))=t at*
  simp only[idxR]
  have h:=YAN
  repeat' (first
   |(with_reducible first|apply bA|apply bB|apply bC|apply bD|apply bE|apply bF)<;>intro h
   |((first|apply bG|apply bH);simp only[AV.norm,AV.zQg,W2,W2Q,hlt,c0,w1,zex hlt,YAK];first|refine zIf (zdU 7 _ _) (.inl rfl) ?_|refine zIj (zdU 7 _ _) (.inl rfl) ?_)
   |refine zKg (id:=5) C_ok (fun _=>trivial) mixed 0 Try.f63.ntmps rfl (by kernel_rfl) (by decide) ?_
   |skip)<;>simp only[h,↓zaL,↓zHC,WZ,reduceIte,yA,yB,yC,yD,reduceCtorEq,yE,yF,W1,W1Q,hlt,c0,w1,zex hlt,YAK]
  refine⟨k,by omega,by omega,?_⟩
  rw[e]
  refine zas rfl rfl rfl ?_ ?_ ?_ ?_<;>simp only[WK,↓zaL,↓zHC,yA,reduceIte,AV.bel,AV.belL,AObj.bel,AV.norm,AV.zQg,yB,yC,zOq,zew,AV.belL]
  exact .inl rfl
theorem zgk(l:List Pr):zA0 Try.prog 44 [.sl (l.map embQ) .no] (.bool (zWK l)):=by
 by_cases h12:l.length<=12
 ·have c12:((l.length:Int)>12)=False:=by simp only[YAb,iff_false];omega
  have hmax:l.length<=maxLen:=by rw[zPC];omega
  have hfalse:∀i,i<l.length->zWP (l.getD i default)=false->zWK l=false:=fun i h1 h2=>by
   rw[zWK,zB4 (g:=fun i=>zWP (l.getD i default)) h1 h2];simp
  refine zSa C_ok Try.func44 rfl (by decide) (YAL rfl) (by decide) rfl fun ok H=> ?_
  rw[Try.results44]
  have h:=YAN
  repeat' (first
   |(with_reducible first|apply bA|apply bB|apply bC|apply bD|apply bE|apply bF)<;>intro h
   |refine zKg (id:=7) C_ok (fun _=>trivial) mixed 0 Try.f44.ntmps rfl (by kernel_rfl) (by decide) ?_
   |refine zKg (id:=9) C_ok (fun _=>trivial) mixed 0 Try.f44.ntmps rfl (by kernel_rfl) (by decide) ?_
   |skip)<;>simp only[h,↓zaL,↓zHC,WZ,reduceIte,yA,yB,yC,yD,reduceCtorEq,yE,yF,W1,W1Q,YAK,c12]
  refine aloop_trim [3,4,0] ?_
  simp only[List.map_cons,List.map_nil,↓zaL,↓zHC,WZ,reduceIte,yA,yB,yC,yD,reduceCtorEq,yE,yF,W1,W1Q]
  refine zJ3 2 (fun i:Nat=> [(3,.int .i64 (zWE (l.take i):Nat)),(4,.int .i64 i)]) (fun _=>_) (fun i=>i<=l.length/\∀j,j<i->zWP (l.getD j default)=true) (fun i=>l.length-i) C_ok 0 rfl rfl ⟨YAX _,by simp⟩ (by decide) ?_
  rintro i ⟨hi,hall⟩
  simp only[List.drop_succ_cons,List.drop_zero,List.cons_append,List.nil_append]
  simp only[↓zaL,↓zHC,WZ,reduceIte,yA,yB,yC,yD,reduceCtorEq,yE,yF,W1,W1Q]
  have hsz:=zgh l i hi hall
  refine zJv (fun hlt=> ?_) (fun hlt=> ?_)
  ·cases hs:zWP (l.getD i default)with
   |false=>
    have hf:=hfalse i hlt hs
    rw[hf]
    have h:=YAN
    repeat' (first
     |(with_reducible first|apply bA|apply bB|apply bC|apply bD|apply bE|apply bF)<;>intro h
     |((first|apply bG|apply bH);simp only[AV.norm,AV.zQg,W2,W2Q,hlt,zex hlt,YAK];first|refine zIf (zWQ [(l.getD i default).1,(l.getD i default).2]) (.inl rfl) ?_|refine zIf (zUa _) (.inl rfl) ?_|refine zIj (zWQ [(l.getD i default).1,(l.getD i default).2]) (.inl rfl) ?_|refine zIj (zUa _) (.inl rfl) ?_)
     |refine zKg (id:=7) C_ok (fun _=>trivial) mixed 0 Try.f44.ntmps rfl (by kernel_rfl) (by decide) ?_
     |refine zKg (id:=9) C_ok (fun _=>trivial) mixed 0 Try.f44.ntmps rfl (by kernel_rfl) (by decide) ?_
     |skip)<;>simp only[h,↓zaL,↓zHC,WZ,reduceIte,yA,yB,yC,yD,reduceCtorEq,yE,yF,W1,W1Q,hlt,zex hlt,YAK]
    all_goals (exfalso;simp_all [zWP])
   |true=>
    obtain⟨n1,n2⟩:=zgm hs
    have z1:=zgS (l.getD i default).1 (by omega)
    have z2:=zgS (l.getD i default).2 (by omega)
    have hs':=hs
    simp only[zWP,YAA]at hs'
    have e:=zgi l i hlt
    have w1:IntKind.wrap .i64 ((zWE (l.take i):Int)+(nodes (l.getD i default).1:Nat))=((zWE (l.take i)+nodes (l.getD i default).1:Nat):Int):=zhH (by omega)
    have w2:IntKind.wrap .i64 (((zWE (l.take i)+nodes (l.getD i default).1:Nat):Int)+(nodes (l.getD i default).2:Nat))=((zWE (l.take (i+1)):Nat):Int):=by rw[e];exact zhH (by omega)
    have h:=YAN
    repeat' (first
     |(with_reducible first|apply bA|apply bB|apply bC|apply bD|apply bE|apply bF)<;>intro h
     |((first|apply bG|apply bH);simp only[AV.norm,AV.zQg,W2,W2Q,hlt,zex hlt,hs',w1,w2,YAK];first|refine zIf (zWQ [(l.getD i default).1,(l.getD i default).2]) (.inl rfl) ?_|refine zIf (zUa _) (.inl rfl) ?_|refine zIf (z1) (.inl rfl) ?_|refine zIf (z2) (.inl rfl) ?_|refine zIj (zWQ [(l.getD i default).1,(l.getD i default).2]) (.inl rfl) ?_|refine zIj (zUa _) (.inl rfl) ?_|refine zIj (z1) (.inl rfl) ?_|refine zIj (z2) (.inl rfl) ?_)
     |refine zKg (id:=7) C_ok (fun _=>trivial) mixed 0 Try.f44.ntmps rfl (by kernel_rfl) (by decide) ?_
     |refine zKg (id:=9) C_ok (fun _=>trivial) mixed 0 Try.f44.ntmps rfl (by kernel_rfl) (by decide) ?_
     |skip)<;>simp only[h,↓zaL,↓zHC,WZ,reduceIte,yA,yB,yC,yD,reduceCtorEq,yE,yF,W1,W1Q,hlt,zex hlt,hs',w1,w2,YAK]
    refine⟨i+1,⟨hlt,fun j hj=> ?_⟩,by omega,zas rfl rfl rfl rfl ?_ ?_ ?_⟩
    ·by_cases e:j=i
     ·rw[e];exact hs
     ·exact hall j (by omega)
    all_goals simp only[WK,↓zaL,↓zHC,yA,reduceIte,AV.bel,AV.belL,AObj.bel,AV.norm,AV.zQg,yB,yC,zbX hlt hmax,zew,AV.belL,YAK]
  ·have he:i=l.length:=by omega
   subst he
   rw[List.take_length]
   rw[List.take_length]at hsz
   have r1:=zgN l (by omega)
   have r2:=zTI (rowQ l) (by rw[zgL];omega)
   have hs:zWK l=(decide (zWE l<=200)&&decide ((zaa (rowQ l)).length<=12)):=by
    rw[zWK,zB7 (g:=fun i=>zWP (l.getD i default)) hall];simp[h12]
   have b1:((zWE l:Int)<=200)=(zWE l<=200):=by simp only[YAb];omega
   have b2:(((zaa (rowQ l)).length:Int)<=12)=((zaa (rowQ l)).length<=12):=by simp only[YAb];omega
   have h:=YAN
   repeat' (first
    |(with_reducible first|apply bA|apply bB|apply bC|apply bD|apply bE|apply bF)<;>intro h
    |((first|apply bG|apply bH);simp only[AV.norm,AV.zQg,W2,W2Q,b1,b2,YAK];first|refine zIf (r1) (.inl rfl) ?_|refine zIf (r2) (.inl rfl) ?_|refine zIj (r1) (.inl rfl) ?_|refine zIj (r2) (.inl rfl) ?_)
    |refine zKg (id:=7) C_ok (fun _=>trivial) mixed 0 Try.f44.ntmps rfl (by kernel_rfl) (by decide) ?_
    |refine zKg (id:=9) C_ok (fun _=>trivial) mixed 0 Try.f44.ntmps rfl (by kernel_rfl) (by decide) ?_
    |skip)<;>simp only[h,↓zaL,↓zHC,WZ,reduceIte,yA,yB,yC,yD,reduceCtorEq,yE,yF,W1,W1Q,b1,b2,YAK]
   ·rw[hs,decide_eq_true h];simp
   ·rw[hs,decide_eq_false h];rfl
 ·have c12:((l.length:Int)>12)=True:=by simp only[YAb,iff_true];omega
  have e:zWK l=false:=by rw[zWK];simp[h12]
  rw[e]
  refine zSa C_ok Try.func44 rfl (by decide) (YAL rfl) (by decide) rfl fun ok H=> ?_
  rw[Try.results44]
  have h:=YAN
  repeat' (first
   |(with_reducible first|apply bA|apply bB|apply bC|apply bD|apply bE|apply bF)<;>intro h
   |refine zKg (id:=7) C_ok (fun _=>trivial) mixed 0 Try.f44.ntmps rfl (by kernel_rfl) (by decide) ?_
   |refine zKg (id:=9) C_ok (fun _=>trivial) mixed 0 Try.f44.ntmps rfl (by kernel_rfl) (by decide) ?_
   |skip)<;>simp only[h,↓zaL,↓zHC,WZ,reduceIte,yA,yB,yC,yD,reduceCtorEq,yE,yF,W1,W1Q,YAK,c12]
end
end Go.Proofs.Ytdngjamjccjlmaa
