/- Lemmas: the variables of a type. No condition. -/
import Derived.Test.YtdngjamjccjlmaaPFa
import Derived.Test.YtdngjamjccjlmaaPAb
set_option linter.unusedSimpArgs false
set_option linter.unusedVariables false
set_option maxHeartbeats 4000000
namespace Go.Proofs.Ytdngjamjccjlmaa
open Go Go.Ab
open Nat renaming reduceEqDiff -> yA, reduceAdd -> yB, reduceLT -> yC, reduceLeDiff -> yD, reduceMul -> yE, reducePow -> yF
open AV renaming belL -> yO, bel -> yN, normL -> yQ, norm -> yP
open AObj renaming bel -> yR
attribute [local irreducible] zA0 zAA zAa zAi zAj GoIf GoGb zAk GoO GoD GoX GoDX GoG GoDG GoGv zAl Go zAB
section
def I64(n:Int):AV:= .int .i64 n
theorem zLY(n:Int):I64 n= .int .i64 n:=rfl
theorem zLy(m:Nat)(l:List Int):AV.belL m (l.map I64)=true:=by induction l with|nil=>rfl|cons b l ih=>simp[yO,yN,I64];simpa [I64]using ih
theorem zLz(l:List Int):AV.normL (l.map I64)=l.map I64:=by induction l with|nil=>rfl|cons b l ih=>simp[yQ,yP,I64];simpa [I64]using ih
theorem zCE(l:List Int):(∀y,y∈l.map I64->(cellsOf y).length=1)=True:=by
 simp only[YAb,iff_true];intro y hy;obtain⟨t,_,rfl⟩:=List.mem_map.1 hy;rfl
theorem zOt{l:List Int}{i:Nat}(h:i<l.length):(l.map I64).getD i .any=I64 (l.getD i 0):=by simp[h]
mutual
def zaU:Ty->List Int->List Int
 | .mk k n l,out=>zaY l (if k=6/\n ∉ out then out++ [n]else out)
def zaY:List Ty->List Int->List Int
 | [],out=>out
 |t::l,out=>zaY l (zaU t out)
end
mutual
theorem zaW:∀(t:Ty) (out:List Int),(zaU t out).length<=out.length+nodes t
 | .mk k n l,out=>by
  rw[zaU]
  have:=zaZ l (if k=6/\n ∉ out then out++ [n]else out)
  have h2:(if k=6/\n ∉ out then out++ [n]else out).length<=out.length+1:=by split<;>simp
  simp only[nodes];omega
theorem zaZ:∀(l:List Ty) (out:List Int),(zaY l out).length<=out.length+zQW l
 | [],out=>by simp[zaY]
 |t::l,out=>by
  have h1:=zaZ l (zaU t out)
  have h2:=zaW t out
  simp only[zaY,zQW];omega
end
theorem zLc(l:List Int)(n:Int):zA0 Try.prog 117 [.sl (l.map I64) .no,.int .i64 n] (.bool (decide (n∈l))):=by
 refine eP C_ok Try.func117 Try.results117 fun ok H=> ?_
 have h:=YAN
 repeat' (first
  |(with_reducible first|apply bA|apply bB|apply bC|apply bD|apply bE|apply bF)<;>intro h
  |skip)<;>simp only[h,↓zaL,↓zHC,WZ,reduceIte,yA,yB,yC,yD,reduceCtorEq,yE,yF,W1]
 have hmax:l.length<=maxLen:=by
  have:=ok.1;simp only[AV.okay,YAK]at this;exact this.1
 refine aloop_trim [5,0,1] ?_
 simp only[List.map_cons,List.map_nil,↓zaL,↓zHC,WZ,reduceIte,yA,yB,yC,yD,reduceCtorEq,yE,yF,W1]
 refine zJ3 1 (fun i:Nat=> [(5,.int .i64 i)]) (fun _=>_) (fun i=>i<=l.length/\n ∉ l.take i) (fun i=>l.length-i) C_ok 0 rfl rfl ⟨YAX _,by simp⟩ (by decide) ?_
 rintro i ⟨hi,hall⟩
 simp only[List.drop_succ_cons,List.drop_zero,List.cons_append,List.nil_append]
 simp only[↓zaL,↓zHC,WZ,reduceIte,yA,yB,yC,yD,reduceCtorEq,yE,yF,W1]
 refine zJv (fun hlt=> ?_) (fun hlt=> ?_)
 ·have h:=YAN
  repeat' (first
   |(with_reducible first|apply bA|apply bB|apply bC|apply bD|apply bE|apply bF)<;>intro h
   |skip)<;>simp only[h,↓zaL,↓zHC,WZ,reduceIte,yA,yB,yC,yD,reduceCtorEq,yE,yF,W1,hlt,zOt hlt,zLY]
  ·have h':l[i]=n:=by simpa [hlt]using h
   exact(decide_eq_true (by rw[<-h'];exact List.getElem_mem hlt)).symm
  ·have h':¬l[i]=n:=by simpa [hlt]using h
   refine⟨i+1,⟨hlt,?_⟩,by omega,zas rfl rfl rfl rfl ?_ ?_ ?_⟩
   ·rw[List.take_add_one,YAI hlt];simp only[Option.toList_some,List.mem_append,List.mem_singleton,not_or];exact⟨hall,fun h=>h' h.symm⟩
   all_goals simp only[WK,↓zaL,↓zHC,yA,reduceIte,yN,yO,yR,yP,yQ,yB,yC,zbX hlt hmax,zLy,yO,YAK]
 ·simp only[↓zaL,↓zHC,WZ,reduceIte,yA,yB,yC,yD,reduceCtorEq,yE,yF,W1]
  have:i=l.length:=by omega
  subst this
  rw[List.take_length]at hall
  exact(decide_eq_false hall).symm
abbrev zA9 (t:Ty):Prop:=∀(l:List Int) (a:AV) (F:List AObj),l.length+nodes t<=1048576->zAC 1 F (l.map I64) a->zAA Try.prog 85 [emb t,a] F fun r F'=>AccR 1 F a ((zaU t l).map I64) r F'
def zaa(t:Ty):List Int:=zaU t []
end
section
def zVK(a b:List Int):Bool:=decide (a=b)
theorem zeV(a b:List Int):zA0 Try.prog 108 [.sl (a.map I64) .no,.sl (b.map I64) .no] (.bool (decide (a=b))):=by
 refine eP C_ok Try.func108 Try.results108 fun ok H=> ?_
 have hmax:a.length<=maxLen:=by
  have:=ok.1;simp only[AV.okay,YAK]at this;exact this.1
 by_cases hlen:a.length=b.length
 ·have h:=YAN
  repeat' (first
   |(with_reducible first|apply bA|apply bB|apply bC|apply bD|apply bE|apply bF)<;>intro h
   |refine zKg (id:=6) C_ok (fun _=>trivial) mixed 0 Try.f108.ntmps rfl (by kernel_rfl) (by decide) ?_
   |skip)<;>simp only[h,↓zaL,↓zHC,WZ,reduceIte,yA,yB,yC,yD,reduceCtorEq,yE,yF,W1,hlen,YAK]
  ·simp at h
  refine aloop_trim [5,0,1] ?_
  simp only[List.map_cons,List.map_nil,↓zaL,↓zHC,WZ,reduceIte,yA,yB,yC,yD,reduceCtorEq,yE,yF,W1]
  refine zJ3 1 (fun i:Nat=> [(5,.int .i64 i)]) (fun _=>_) (fun i=>i<=a.length/\a.take i=b.take i) (fun i=>a.length-i) C_ok 0 rfl rfl ⟨YAX _,by simp⟩ (by decide) ?_
  rintro i ⟨hi,hall⟩
  simp only[List.drop_succ_cons,List.drop_zero,List.cons_append,List.nil_append]
  simp only[↓zaL,↓zHC,WZ,reduceIte,yA,yB,yC,yD,reduceCtorEq,yE,yF,W1]
  refine zJv (fun hlt=> ?_) (fun hlt=> ?_)
  ·have hlt2:i<b.length:=by omega
   have h:=YAN
   repeat' (first
    |(with_reducible first|apply bA|apply bB|apply bC|apply bD|apply bE|apply bF)<;>intro h
    |refine zKg (id:=6) C_ok (fun _=>trivial) mixed 0 Try.f108.ntmps rfl (by kernel_rfl) (by decide) ?_
    |skip)<;>simp only[h,↓zaL,↓zHC,WZ,reduceIte,yA,yB,yC,yD,reduceCtorEq,yE,yF,W1,hlt,hlt2,zOt hlt,zOt hlt2,zLY]
   ·have h':¬a[i]=b[i]:=by simpa [hlt,hlt2]using h
    exact(decide_eq_false (by rintro rfl;exact h' rfl)).symm
   ·have h':a[i]=b[i]:=by simpa [hlt,hlt2]using h
    refine⟨i+1,⟨hlt,?_⟩,by omega,zas rfl rfl rfl rfl ?_ ?_ ?_⟩
    ·rw[List.take_add_one,List.take_add_one,hall,YAI hlt,YAI hlt2,h']
    all_goals simp only[WK,↓zaL,↓zHC,yA,reduceIte,yN,yO,yR,yP,yQ,yB,yC,zbX hlt hmax,zLy,yO,YAK]
  ·simp only[↓zaL,↓zHC,WZ,reduceIte,yA,yB,yC,yD,reduceCtorEq,yE,yF,W1]
   have:i=a.length:=by omega
   subst this
   rw[List.take_length,hlen,List.take_length]at hall
   exact(decide_eq_true hall).symm
 ·have hne:((a.length:Int) !=(b.length:Int))=true:=by simp;omega
  have h:=YAN
  repeat' (first
   |(with_reducible first|apply bA|apply bB|apply bC|apply bD|apply bE|apply bF)<;>intro h
   |refine zKg (id:=6) C_ok (fun _=>trivial) mixed 0 Try.f108.ntmps rfl (by kernel_rfl) (by decide) ?_
   |skip)<;>simp only[h,↓zaL,↓zHC,WZ,reduceIte,yA,yB,yC,yD,reduceCtorEq,yE,yF,W1,hne,YAK]
  exact(decide_eq_false (by rintro rfl;exact hlen rfl)).symm
def MInv(l:List Int)(m:List (Int×Int))(c:Nat):Prop:=∀n,match mget m n with
 |none=>n ∉ l
 |some v=>n∈l/\0<v/\v<=c
theorem MInv.get{l:List Int}{m:List (Int×Int)}{c:Nat}(h:MInv l m c)(n:Int):0<=(mget m n).getD 0/\(mget m n).getD 0<=c/\(((mget m n).getD 0==0)=decide (n ∉ l)):=by
 have:=h n
 cases hm:mget m n with
 |none=>rw[hm]at this;simp[this]
 |some v=>rw[hm]at this;obtain⟨h1,h2,h3⟩:=this;simp[h1];omega
theorem MInv.put{l:List Int}{m:List (Int×Int)}{c:Nat}(h:MInv l m c)(n:Int):MInv (if n ∉ l then l++ [n]else l) (mput m n ((mget m n).getD 0+1)) (c+1):=by
 intro k
 rw[zPO]
 have hg:=h.get n
 by_cases hk:n=k
 ·subst hk
  simp only[if_true]
  refine⟨?_,by omega,by omega⟩
  split<;>simp_all
 ·simp only[if_neg hk]
  have:=h k
  cases hm:mget m k with
  |none=>rw[hm]at this;simp only at this⊢;split<;>simp_all [Ne.symm hk]
  |some v=>rw[hm]at this;obtain⟨h1,h2,h3⟩:=this;exact⟨by split<;>simp_all,h2,by omega⟩
theorem MInv.mono{l:List Int}{m:List (Int×Int)}{c d:Nat}(h:MInv l m c)(hd:c<=d):MInv l m d:=by
 intro n
 have:=h n
 cases hm:mget m n with
 |none=>rw[hm]at this;exact this
 |some v=>rw[hm]at this;exact⟨this.1,this.2.1,by omega⟩
abbrev zAn (t:Ty):Prop:=∀(l:List Int) (m:List (Int×Int)) (c:Nat) (a:AV) (F:List AObj) (r:Nat),l.length+nodes t<=1048576->c+nodes t<=1048576->MInv l m c->zAC 1 F (l.map I64) a->F[r]?=some (.map (embM m))->
 zAA Try.prog 148 [emb t,.mp r,a] F fun x F'=>∃m',MInv (zaU t l) m' (c+nodes t)/\AccR 1 (F.set r (.map (embM m'))) a ((zaU t l).map I64) x F'
end
end Go.Proofs.Ytdngjamjccjlmaa
