/- Lemmas: the variables of a type. No condition. -/
import Derived.Test.YtmpegnogdgbleaaPFa
import Derived.Test.YtmpegnogdgbleaaPAb
set_option linter.unusedSimpArgs false
set_option linter.unusedVariables false
set_option maxHeartbeats 4000000
namespace Go.Proofs.Ytmpegnogdgbleaa
open Go Go.Ab
open Nat renaming reduceEqDiff -> yA, reduceAdd -> yB, reduceLT -> yC, reduceLeDiff -> yD, reduceMul -> yE, reducePow -> yF
open AV renaming belL -> yO, bel -> yN, normL -> yQ, norm -> yP
open AObj renaming bel -> yR
attribute [local irreducible] zA0 zAA zAa zAi zAj GoIf GoGb zAk GoO GoD GoX GoDX GoG GoDG GoGv zAl Go zAB
section
def I64(n:Int):AV:= .int .i64 n
theorem zLY(n:Int):I64 n= .int .i64 n:=rfl
theorem zLy(m:Nat)(l:List Int):AV.belL m (l.map I64)=true:=by induction l with|nil=>rfl|cons b l ih=>simp[yO,yN,I64];simpa [I64]using ih
theorem zLz(l:List Int):AV.normL (l.map I64)=l.map I64:=by induction l with|nil=>rfl|cons b l ih=>simp[yQ,yP,I64];simpa [I64]using ih
theorem zCE(l:List Int):(∀y,y∈l.map I64->(cellsOf y).length=1)=True:=by
 simp only[YAb,iff_true];intro y hy;obtain⟨t,_,rfl⟩:=List.mem_map.1 hy;rfl
theorem zOt{l:List Int}{i:Nat}(h:i<l.length):(l.map I64).getD i .any=I64 (l.getD i 0):=by simp[h]
mutual
def zaU:Ty->List Int->List Int
 | .mk k n l,out=>zaY l (if k=6/\n ∉ out then out++ [n]else out)
def zaY:List Ty->List Int->List Int
 | [],out=>out
 |t::l,out=>zaY l (zaU t out)
end
theorem zaV(t:Ty)(out:List Int):zaU t out=zaY t.kids (if t.kind=6/\t.num ∉ out then out++ [t.num]else out):=by cases t;rw[zaU];rfl
mutual
theorem zaW:∀(t:Ty) (out:List Int),(zaU t out).length<=out.length+nodes t
 | .mk k n l,out=>by
  rw[zaU]
  have:=zaZ l (if k=6/\n ∉ out then out++ [n]else out)
  have h2:(if k=6/\n ∉ out then out++ [n]else out).length<=out.length+1:=by split<;>simp
  simp only[nodes];omega
theorem zaZ:∀(l:List Ty) (out:List Int),(zaY l out).length<=out.length+zQW l
 | [],out=>by simp[zaY]
 |t::l,out=>by
  have h1:=zaZ l (zaU t out)
  have h2:=zaW t out
  simp only[zaY,zQW];omega
end
theorem zLc(l:List Int)(n:Int):zA0 Try.prog 68 [.sl (l.map I64) .no,.int .i64 n] (.bool (decide (n∈l))):=by
 refine eP C_ok Try.func68 Try.results68 fun ok H=> ?_
 have h:=YAN
 repeat' (first
  |(with_reducible first|apply bA|apply bB|apply bC|apply bD|apply bE|apply bF)<;>intro h
  |skip)<;>simp only[h,↓zaL,↓zHC,WZ,reduceIte,yA,yB,yC,yD,reduceCtorEq,yE,yF,W1]
 have hmax:l.length<=maxLen:=by
  have:=ok.1;simp only[AV.okay,YAK]at this;exact this.1
 refine aloop_trim [5,0,1] ?_
 simp only[List.map_cons,List.map_nil,↓zaL,↓zHC,WZ,reduceIte,yA,yB,yC,yD,reduceCtorEq,yE,yF,W1]
 refine zJ3 1 (fun i:Nat=> [(5,.int .i64 i)]) (fun _=>_) (fun i=>i<=l.length/\n ∉ l.take i) (fun i=>l.length-i) C_ok 0 rfl rfl ⟨YAX _,by simp⟩ (by decide) ?_
 rintro i ⟨hi,hall⟩
 simp only[List.drop_succ_cons,List.drop_zero,List.cons_append,List.nil_append]
 simp only[↓zaL,↓zHC,WZ,reduceIte,yA,yB,yC,yD,reduceCtorEq,yE,yF,W1]
 refine zJv (fun hlt=> ?_) (fun hlt=> ?_)
 ·have h:=YAN
  repeat' (first
   |(with_reducible first|apply bA|apply bB|apply bC|apply bD|apply bE|apply bF)<;>intro h
   |skip)<;>simp only[h,↓zaL,↓zHC,WZ,reduceIte,yA,yB,yC,yD,reduceCtorEq,yE,yF,W1,hlt,zOt hlt,zLY]
  ·have h':l[i]=n:=by simpa [hlt]using h
   exact(decide_eq_true (by rw[<-h'];exact List.getElem_mem hlt)).symm
  ·have h':¬l[i]=n:=by simpa [hlt]using h
   refine⟨i+1,⟨hlt,?_⟩,by omega,zas rfl rfl rfl rfl ?_ ?_ ?_⟩
   ·rw[List.take_add_one,YAI hlt];simp only[Option.toList_some,List.mem_append,List.mem_singleton,not_or];exact⟨hall,fun h=>h' h.symm⟩
   all_goals simp only[WK,↓zaL,↓zHC,yA,reduceIte,yN,yO,yR,yP,yQ,yB,yC,zbX hlt hmax,zLy,yO,YAK]
 ·simp only[↓zaL,↓zHC,WZ,reduceIte,yA,yB,yC,yD,reduceCtorEq,yE,yF,W1]
  have:i=l.length:=by omega
  subst this
  rw[List.take_length]at hall
  exact(decide_eq_false hall).symm
abbrev zA9 (t:Ty):Prop:=∀(l:List Int) (a:AV) (F:List AObj),l.length+nodes t<=1048576->zAC 1 F (l.map I64) a->zAA Try.prog 51 [emb t,a] F fun r F'=>AccR 1 F a ((zaU t l).map I64) r F'
theorem zVG(t:Ty)(ih:∀x∈t.kids,zA9 x):zA9 t:=by
 intro l a F hl hacc
 have hlen:=zND t
 have hnod:=zQZ t
 have hb:F.length<=F.length:=YAV _
 have hmax:t.kids.length<=maxLen:=by rw[zPC];omega
 have hvf:=zaV t l
 rcases hacc with ⟨e1,rfl⟩|⟨q,rfl,hq⟩
 ·obtain rfl:l=[]:=List.map_eq_nil_iff.1 e1
  have hacc:zAC 1 F (([]:List Int).map I64) (.sl [] .full):= .inl ⟨rfl,rfl⟩
  refine eE C_ok Try.func51 Try.results51 fun ok=> ?_
  have h:=YAN
  repeat' (first
   |(with_reducible first|apply bA|apply bB|apply bC|apply bD|apply bE|apply bF)<;>intro h
   |((first|apply bG|apply bH);simp only[yP,yQ,W2,List.not_mem_nil];first|refine zIf (zLc [] _) (.inl rfl) ?_|refine zIj (zLc [] _) (.inl rfl) ?_)
   |skip)<;>simp only[h,↓zaL,↓zHC,WY,reduceIte,yA,yB,yC,yD,reduceCtorEq,yE,yF,W1,WS,List.not_mem_nil]
  ·refine zCN [1,5,2] ?_
   simp only[List.map_cons,List.map_nil,↓zaL,↓zHC,WY,reduceIte,yA,yB,yC,yD,reduceCtorEq,yE,yF,W1,WS]
   refine zJ1 2 (fun x:Nat×AV×List Int×List AObj=> [(1,x.2.1),(5,.int .i64 x.1)]) (fun x=>x.2.2.2) (fun x=>x.1<=t.kids.length/\AccR 1 F (.sl [] .full) (x.2.2.1.map I64) x.2.1 x.2.2.2/\x.2.2.2[F.length]?=some (.box (cellsOf (emb t)))/\zaY (t.kids.drop x.1) x.2.2.1=zaU t []/\x.2.2.1.length+zQW (t.kids.drop x.1)<=1048576) (fun x=>t.kids.length-x.1) C_ok (0,_,[t.num],_) rfl rfl ⟨YAX _,by have:=(AccR.junk (F:=F) hacc [.box (cellsOf (emb t))]).trans hacc (AccR.app0 (I64 t.num));simpa [zGy,I64]using this,by rw[zGy];simp,by rw[List.drop_zero,hvf];simp_all,by simp only[List.drop_zero,YAJ,List.length_cons,List.length_nil];(try simp only[List.length_nil]at hl);omega⟩ (by decide) ?_
   rintro⟨i,a1,l1,F1⟩ ⟨hi,h1,h2,h3,h4⟩
   simp only at hi h1 h2 h3 h4
   rw[zGy]at h2
   have hacc1:=AccR.ok hacc h1
   have hb1:=h1.len
   simp only[List.drop_succ_cons,List.drop_zero,List.cons_append,List.nil_append]
   simp only[↓zaL,↓zHC,WY,reduceIte,yA,yB,yC,yD,reduceCtorEq,yE,yF,W1,WS,h2]
   refine zJv (fun hlt=> ?_) (fun hlt=> ?_)
   ·simp only[↓zaL,↓zHC,WY,reduceIte,yA,yB,yC,yD,reduceCtorEq,yE,yF,W1,WS,h2,hlt,zOr hlt]
    have hdr:=zFz hlt
    rw[hdr]at h3 h4
    simp only[zQW,zaY]at h3 h4
    refine fsCall (ih _ (zMb hlt) l1 a1 F1 (by omega) hacc1) (.inl rfl) fun r F2 hr hlen2=>⟨fun hbel=>hr.bel hacc1 hb1 hbel,?_⟩
    have hg:=hr.get hacc1 h2 (by intro m;simp)
    have hl2:=zaW (t.kid i) l1
    simp only[↓zaL,↓zHC,WY,reduceIte,yA,yB,yC,yD,reduceCtorEq,yE,yF,W1,WS,hg]
    refine⟨(i+1,r,zaU (t.kid i) l1,F2),⟨hlt,h1.trans hacc hr,by first|exact hg|(rw[zGy];exact hg),h3,by simp only;omega⟩,by simp only;omega,zap rfl ?_⟩
    simp only[WK,↓zaL,↓zHC,yA,reduceIte,yN,yO,yR,yP,yQ,yB,yC,zbX hlt hmax]
   ·simp only[↓zaL,↓zHC,WY,reduceIte,yA,yB,yC,yD,reduceCtorEq,yE,yF,W1,WS,h2]
    have hi':i=t.kids.length:=by omega
    subst hi'
    rw[List.drop_length]at h3
    simp only[zaY]at h3
    rw[<-h3];exact h1
  ·refine zCN [1,5,2] ?_
   simp only[List.map_cons,List.map_nil,↓zaL,↓zHC,WY,reduceIte,yA,yB,yC,yD,reduceCtorEq,yE,yF,W1,WS]
   refine zJ1 2 (fun x:Nat×AV×List Int×List AObj=> [(1,x.2.1),(5,.int .i64 x.1)]) (fun x=>x.2.2.2) (fun x=>x.1<=t.kids.length/\AccR 1 F (.sl [] .full) (x.2.2.1.map I64) x.2.1 x.2.2.2/\x.2.2.2[F.length]?=some (.box (cellsOf (emb t)))/\zaY (t.kids.drop x.1) x.2.2.1=zaU t []/\x.2.2.1.length+zQW (t.kids.drop x.1)<=1048576) (fun x=>t.kids.length-x.1) C_ok (0,_,[],_) rfl rfl ⟨YAX _,AccR.junk hacc _,by rw[zGy];simp,by rw[List.drop_zero,hvf];simp_all,by simp only[List.drop_zero,YAJ,List.length_cons,List.length_nil];(try simp only[List.length_nil]at hl);omega⟩ (by decide) ?_
   rintro⟨i,a1,l1,F1⟩ ⟨hi,h1,h2,h3,h4⟩
   simp only at hi h1 h2 h3 h4
   rw[zGy]at h2
   have hacc1:=AccR.ok hacc h1
   have hb1:=h1.len
   simp only[List.drop_succ_cons,List.drop_zero,List.cons_append,List.nil_append]
   simp only[↓zaL,↓zHC,WY,reduceIte,yA,yB,yC,yD,reduceCtorEq,yE,yF,W1,WS,h2]
   refine zJv (fun hlt=> ?_) (fun hlt=> ?_)
   ·simp only[↓zaL,↓zHC,WY,reduceIte,yA,yB,yC,yD,reduceCtorEq,yE,yF,W1,WS,h2,hlt,zOr hlt]
    have hdr:=zFz hlt
    rw[hdr]at h3 h4
    simp only[zQW,zaY]at h3 h4
    refine fsCall (ih _ (zMb hlt) l1 a1 F1 (by omega) hacc1) (.inl rfl) fun r F2 hr hlen2=>⟨fun hbel=>hr.bel hacc1 hb1 hbel,?_⟩
    have hg:=hr.get hacc1 h2 (by intro m;simp)
    have hl2:=zaW (t.kid i) l1
    simp only[↓zaL,↓zHC,WY,reduceIte,yA,yB,yC,yD,reduceCtorEq,yE,yF,W1,WS,hg]
    refine⟨(i+1,r,zaU (t.kid i) l1,F2),⟨hlt,h1.trans hacc hr,by first|exact hg|(rw[zGy];exact hg),h3,by simp only;omega⟩,by simp only;omega,zap rfl ?_⟩
    simp only[WK,↓zaL,↓zHC,yA,reduceIte,yN,yO,yR,yP,yQ,yB,yC,zbX hlt hmax]
   ·simp only[↓zaL,↓zHC,WY,reduceIte,yA,yB,yC,yD,reduceCtorEq,yE,yF,W1,WS,h2]
    have hi':i=t.kids.length:=by omega
    subst hi'
    rw[List.drop_length]at h3
    simp only[zaY]at h3
    rw[<-h3];exact h1
 ·have hacc:zAC 1 F (l.map I64) (.sl (l.map I64) (.own q)):= .inr ⟨q,rfl,hq⟩
  have hql:=zIc hq
  rw[YAK]at hq
  refine eE C_ok Try.func51 Try.results51 fun ok=> ?_
  have h:=YAN
  repeat' (first
   |(with_reducible first|apply bA|apply bB|apply bC|apply bD|apply bE|apply bF)<;>intro h
   |((first|apply bG|apply bH);simp only[yP,yQ,W2,zLz,zCS hql,zCW hql,hq,zCE,YAK];first|refine zIf (zLc _ _) (.inl rfl) ?_|refine zIj (zLc _ _) (.inl rfl) ?_)
   |skip)<;>simp only[h,↓zaL,↓zHC,WY,reduceIte,yA,yB,yC,yD,reduceCtorEq,yE,yF,W1,WS,zLz,zCS hql,zCW hql,hq,zCE,YAK]
  ·refine zCN [1,5,2] ?_
   simp only[List.map_cons,List.map_nil,↓zaL,↓zHC,WY,reduceIte,yA,yB,yC,yD,reduceCtorEq,yE,yF,W1,WS]
   refine zJ1 2 (fun x:Nat×AV×List Int×List AObj=> [(1,x.2.1),(5,.int .i64 x.1)]) (fun x=>x.2.2.2) (fun x=>x.1<=t.kids.length/\AccR 1 F (.sl (l.map I64) (.own q)) (x.2.2.1.map I64) x.2.1 x.2.2.2/\x.2.2.2[F.length]?=some (.box (cellsOf (emb t)))/\zaY (t.kids.drop x.1) x.2.2.1=zaU t l/\x.2.2.1.length+zQW (t.kids.drop x.1)<=1048576) (fun x=>t.kids.length-x.1) C_ok (0,_,l,_) rfl rfl ⟨YAX _,AccR.junk hacc _,by rw[zGy];simp,by rw[List.drop_zero,hvf];simp_all,by simp only[List.drop_zero,YAJ,List.length_cons,List.length_nil];(try simp only[List.length_nil]at hl);omega⟩ (by decide) ?_
   rintro⟨i,a1,l1,F1⟩ ⟨hi,h1,h2,h3,h4⟩
   simp only at hi h1 h2 h3 h4
   rw[zGy]at h2
   have hacc1:=AccR.ok hacc h1
   have hb1:=h1.len
   simp only[List.drop_succ_cons,List.drop_zero,List.cons_append,List.nil_append]
   simp only[↓zaL,↓zHC,WY,reduceIte,yA,yB,yC,yD,reduceCtorEq,yE,yF,W1,WS,h2]
   refine zJv (fun hlt=> ?_) (fun hlt=> ?_)
   ·simp only[↓zaL,↓zHC,WY,reduceIte,yA,yB,yC,yD,reduceCtorEq,yE,yF,W1,WS,h2,hlt,zOr hlt]
    have hdr:=zFz hlt
    rw[hdr]at h3 h4
    simp only[zQW,zaY]at h3 h4
    refine fsCall (ih _ (zMb hlt) l1 a1 F1 (by omega) hacc1) (.inl rfl) fun r F2 hr hlen2=>⟨fun hbel=>hr.bel hacc1 hb1 hbel,?_⟩
    have hg:=hr.get hacc1 h2 (by intro m;simp)
    have hl2:=zaW (t.kid i) l1
    simp only[↓zaL,↓zHC,WY,reduceIte,yA,yB,yC,yD,reduceCtorEq,yE,yF,W1,WS,hg]
    refine⟨(i+1,r,zaU (t.kid i) l1,F2),⟨hlt,h1.trans hacc hr,by first|exact hg|(rw[zGy];exact hg),h3,by simp only;omega⟩,by simp only;omega,zap rfl ?_⟩
    simp only[WK,↓zaL,↓zHC,yA,reduceIte,yN,yO,yR,yP,yQ,yB,yC,zbX hlt hmax]
   ·simp only[↓zaL,↓zHC,WY,reduceIte,yA,yB,yC,yD,reduceCtorEq,yE,yF,W1,WS,h2]
    have hi':i=t.kids.length:=by omega
    subst hi'
    rw[List.drop_length]at h3
    simp only[zaY]at h3
    rw[<-h3];exact h1
  ·refine⟨⟨by omega,by omega⟩,?_⟩
   refine zCN [1,5,2] ?_
   simp only[List.map_cons,List.map_nil,↓zaL,↓zHC,WY,reduceIte,yA,yB,yC,yD,reduceCtorEq,yE,yF,W1,WS]
   refine zJ1 2 (fun x:Nat×AV×List Int×List AObj=> [(1,x.2.1),(5,.int .i64 x.1)]) (fun x=>x.2.2.2) (fun x=>x.1<=t.kids.length/\AccR 1 F (.sl (l.map I64) (.own q)) (x.2.2.1.map I64) x.2.1 x.2.2.2/\x.2.2.2[F.length]?=some (.box (cellsOf (emb t)))/\zaY (t.kids.drop x.1) x.2.2.1=zaU t l/\x.2.2.1.length+zQW (t.kids.drop x.1)<=1048576) (fun x=>t.kids.length-x.1) C_ok (0,_,l++ [t.num],_) rfl rfl ⟨YAX _,by have h0:=AccR.app (sz:=1) (F:=F) (es:=l.map I64) (q:=q) (I64 t.num);have:=h0.trans hacc (AccR.junk (h0.ok hacc) [.box (cellsOf (emb t))]);simpa [zGy,I64]using this,by rw[zGy];simp,by rw[List.drop_zero,hvf];simp_all,by simp only[List.drop_zero,YAJ,List.length_cons,List.length_nil];(try simp only[List.length_nil]at hl);omega⟩ (by decide) ?_
   rintro⟨i,a1,l1,F1⟩ ⟨hi,h1,h2,h3,h4⟩
   simp only at hi h1 h2 h3 h4
   rw[zGy]at h2
   have hacc1:=AccR.ok hacc h1
   have hb1:=h1.len
   simp only[List.drop_succ_cons,List.drop_zero,List.cons_append,List.nil_append]
   simp only[↓zaL,↓zHC,WY,reduceIte,yA,yB,yC,yD,reduceCtorEq,yE,yF,W1,WS,h2]
   refine zJv (fun hlt=> ?_) (fun hlt=> ?_)
   ·simp only[↓zaL,↓zHC,WY,reduceIte,yA,yB,yC,yD,reduceCtorEq,yE,yF,W1,WS,h2,hlt,zOr hlt]
    have hdr:=zFz hlt
    rw[hdr]at h3 h4
    simp only[zQW,zaY]at h3 h4
    refine fsCall (ih _ (zMb hlt) l1 a1 F1 (by omega) hacc1) (.inl rfl) fun r F2 hr hlen2=>⟨fun hbel=>hr.bel hacc1 hb1 hbel,?_⟩
    have hg:=hr.get hacc1 h2 (by intro m;simp)
    have hl2:=zaW (t.kid i) l1
    simp only[↓zaL,↓zHC,WY,reduceIte,yA,yB,yC,yD,reduceCtorEq,yE,yF,W1,WS,hg]
    refine⟨(i+1,r,zaU (t.kid i) l1,F2),⟨hlt,h1.trans hacc hr,by first|exact hg|(rw[zGy];exact hg),h3,by simp only;omega⟩,by simp only;omega,zap rfl ?_⟩
    simp only[WK,↓zaL,↓zHC,yA,reduceIte,yN,yO,yR,yP,yQ,yB,yC,zbX hlt hmax]
   ·simp only[↓zaL,↓zHC,WY,reduceIte,yA,yB,yC,yD,reduceCtorEq,yE,yF,W1,WS,h2]
    have hi':i=t.kids.length:=by omega
    subst hi'
    rw[List.drop_length]at h3
    simp only[zaY]at h3
    rw[<-h3];exact h1
  ·refine zCN [1,5,2] ?_
   simp only[List.map_cons,List.map_nil,↓zaL,↓zHC,WY,reduceIte,yA,yB,yC,yD,reduceCtorEq,yE,yF,W1,WS]
   refine zJ1 2 (fun x:Nat×AV×List Int×List AObj=> [(1,x.2.1),(5,.int .i64 x.1)]) (fun x=>x.2.2.2) (fun x=>x.1<=t.kids.length/\AccR 1 F (.sl (l.map I64) (.own q)) (x.2.2.1.map I64) x.2.1 x.2.2.2/\x.2.2.2[F.length]?=some (.box (cellsOf (emb t)))/\zaY (t.kids.drop x.1) x.2.2.1=zaU t l/\x.2.2.1.length+zQW (t.kids.drop x.1)<=1048576) (fun x=>t.kids.length-x.1) C_ok (0,_,l,_) rfl rfl ⟨YAX _,AccR.junk hacc _,by rw[zGy];simp,by rw[List.drop_zero,hvf];simp_all,by simp only[List.drop_zero,YAJ,List.length_cons,List.length_nil];(try simp only[List.length_nil]at hl);omega⟩ (by decide) ?_
   rintro⟨i,a1,l1,F1⟩ ⟨hi,h1,h2,h3,h4⟩
   simp only at hi h1 h2 h3 h4
   rw[zGy]at h2
   have hacc1:=AccR.ok hacc h1
   have hb1:=h1.len
   simp only[List.drop_succ_cons,List.drop_zero,List.cons_append,List.nil_append]
   simp only[↓zaL,↓zHC,WY,reduceIte,yA,yB,yC,yD,reduceCtorEq,yE,yF,W1,WS,h2]
   refine zJv (fun hlt=> ?_) (fun hlt=> ?_)
   ·simp only[↓zaL,↓zHC,WY,reduceIte,yA,yB,yC,yD,reduceCtorEq,yE,yF,W1,WS,h2,hlt,zOr hlt]
    have hdr:=zFz hlt
    rw[hdr]at h3 h4
    simp only[zQW,zaY]at h3 h4
    refine fsCall (ih _ (zMb hlt) l1 a1 F1 (by omega) hacc1) (.inl rfl) fun r F2 hr hlen2=>⟨fun hbel=>hr.bel hacc1 hb1 hbel,?_⟩
    have hg:=hr.get hacc1 h2 (by intro m;simp)
    have hl2:=zaW (t.kid i) l1
    simp only[↓zaL,↓zHC,WY,reduceIte,yA,yB,yC,yD,reduceCtorEq,yE,yF,W1,WS,hg]
    refine⟨(i+1,r,zaU (t.kid i) l1,F2),⟨hlt,h1.trans hacc hr,by first|exact hg|(rw[zGy];exact hg),h3,by simp only;omega⟩,by simp only;omega,zap rfl ?_⟩
    simp only[WK,↓zaL,↓zHC,yA,reduceIte,yN,yO,yR,yP,yQ,yB,yC,zbX hlt hmax]
   ·simp only[↓zaL,↓zHC,WY,reduceIte,yA,yB,yC,yD,reduceCtorEq,yE,yF,W1,WS,h2]
    have hi':i=t.kids.length:=by omega
    subst hi'
    rw[List.drop_length]at h3
    simp only[zaY]at h3
    rw[<-h3];exact h1
theorem zVF(t:Ty):zA9 t:=Ty.ind zVG t
def zaa(t:Ty):List Int:=zaU t []
theorem zTI(t:Ty)(ht:nodes t<=1048576):zA0 Try.prog 29 [emb t] (.sl ((zaa t).map I64) .no):=by
 have hb:∀H:List AObj,H.length<=H.length:=fun H=>YAV _
 refine zSa C_ok Try.func29 rfl (by decide) (YAL rfl) (by decide) (by simp only[yN,zLy,Bool.and_self]) fun ok H=> ?_
 rw[Try.results29]
 rw[zLh]
 have h:=YAN
 repeat' (first
  |(with_reducible first|apply bA|apply bB|apply bC|apply bD|apply bE|apply bF)<;>intro h
  |skip)<;>simp only[h,↓zaL,↓zHC,WY,reduceIte,yA,yB,yC,yD,reduceCtorEq,yE,yF,W1,WS,hb]
 refine fsCall (zVF t [] _ _ (by simp only[List.length_nil];omega) (.inl ⟨rfl,rfl⟩)) (.inl rfl) fun r F' hr hlen=>⟨fun hbel=>hr.bel (.inl ⟨rfl,rfl⟩) (by simp) hbel,?_⟩
 obtain⟨h1,J,rfl⟩:=hr.out
 simp only[↓zaL,↓zHC,WY,reduceIte,yA,yB,yC,yD,reduceCtorEq,yE,yF,W1,WS,h1,zLz]
 simp[zaa]
theorem zac(t:Ty):(zaa t).length<=nodes t:=by have:=zaW t [];simpa [zaa]using this
end
section
def zVK(a b:List Int):Bool:=decide (a=b)
def MInv(l:List Int)(m:List (Int×Int))(c:Nat):Prop:=∀n,match mget m n with
 |none=>n ∉ l
 |some v=>n∈l/\0<v/\v<=c
theorem MInv.get{l:List Int}{m:List (Int×Int)}{c:Nat}(h:MInv l m c)(n:Int):0<=(mget m n).getD 0/\(mget m n).getD 0<=c/\(((mget m n).getD 0==0)=decide (n ∉ l)):=by
 have:=h n
 cases hm:mget m n with
 |none=>rw[hm]at this;simp[this]
 |some v=>rw[hm]at this;obtain⟨h1,h2,h3⟩:=this;simp[h1];omega
theorem MInv.put{l:List Int}{m:List (Int×Int)}{c:Nat}(h:MInv l m c)(n:Int):MInv (if n ∉ l then l++ [n]else l) (mput m n ((mget m n).getD 0+1)) (c+1):=by
 intro k
 rw[zPO]
 have hg:=h.get n
 by_cases hk:n=k
 ·subst hk
  simp only[if_true]
  refine⟨?_,by omega,by omega⟩
  split<;>simp_all
 ·simp only[if_neg hk]
  have:=h k
  cases hm:mget m k with
  |none=>rw[hm]at this;simp only at this⊢;split<;>simp_all [Ne.symm hk]
  |some v=>rw[hm]at this;obtain⟨h1,h2,h3⟩:=this;exact⟨by split<;>simp_all,h2,by omega⟩
theorem MInv.mono{l:List Int}{m:List (Int×Int)}{c d:Nat}(h:MInv l m c)(hd:c<=d):MInv l m d:=by
 intro n
 have:=h n
 cases hm:mget m n with
 |none=>rw[hm]at this;exact this
 |some v=>rw[hm]at this;exact⟨this.1,this.2.1,by omega⟩
abbrev zAn (t:Ty):Prop:=∀(l:List Int) (m:List (Int×Int)) (c:Nat) (a:AV) (F:List AObj) (r:Nat),l.length+nodes t<=1048576->c+nodes t<=1048576->MInv l m c->zAC 1 F (l.map I64) a->F[r]?=some (.map (embM m))->
 zAA Try.prog 55 [emb t,.mp r,a] F fun x F'=>∃m',MInv (zaU t l) m' (c+nodes t)/\AccR 1 (F.set r (.map (embM m'))) a ((zaU t l).map I64) x F'
theorem zja(m:List (Int×Int)):∀k,AObj.map (embM m)≠ .tok k 1:=by intro k;simp
theorem zjN(t:Ty)(ih:∀x∈t.kids,zAn x):zAn t:=by
 intro l m c a F r hl hcl hm hacc hr
 have hlen:=zND t
 have hnod:=zQZ t
 have hb:F.length<=F.length:=YAV _
 have hmax:t.kids.length<=maxLen:=by rw[zPC];omega
 have hvf:=zaV t l
 have hrl:=zIc hr
 have hg:=hm.get t.num
 have hput:=hm.put t.num
 have hw:IntKind.wrap .i64 ((mget m t.num).getD 0+1)=(mget m t.num).getD 0+1:=zbU .i64 _ (by show(-9223372036854775808:Int)<=_;omega) (by show _<=(9223372036854775807:Int);omega)
 rcases hacc with ⟨e1,rfl⟩|⟨q,rfl,hq⟩
 ·obtain rfl:l=[]:=List.map_eq_nil_iff.1 e1
  have hacc:zAC 1 F (([]:List Int).map I64) (.sl [] .full):= .inl ⟨rfl,rfl⟩
  refine eE C_ok Try.func55 Try.results55 fun ok=> ?_
  have h:=YAN
  repeat' (first
   |(with_reducible first|apply bA|apply bB|apply bC|apply bD|apply bE|apply bF)<;>intro h
   |skip)<;>simp only[h,↓zaL,↓zHC,WY,reduceIte,yA,yB,yC,yD,reduceCtorEq,yE,yF,W1,WS,List.not_mem_nil,hrl,hr,hw,zHe,zHx,zOl,zMT,yN,hg.2.2]
  ·refine zCN [2,30,1,28,29] ?_
   simp only[List.map_cons,List.map_nil,↓zaL,↓zHC,WY,reduceIte,yA,yB,yC,yD,reduceCtorEq,yE,yF,W1,WS]
   refine zJ1 2 (fun x:Nat×AV×List Int×List AObj×List (Int×Int)×Nat=> [(2,x.2.1),(30,.int .i64 x.1)]) (fun x=>x.2.2.2.1) (fun x=>x.1<=t.kids.length/\AccR 1 (F.set r (.map (embM x.2.2.2.2.1))) (.sl [] .full) (x.2.2.1.map I64) x.2.1 x.2.2.2.1/\MInv x.2.2.1 x.2.2.2.2.1 x.2.2.2.2.2/\zaY (t.kids.drop x.1) x.2.2.1=zaU t []/\x.2.2.1.length+zQW (t.kids.drop x.1)<=1048576/\x.2.2.2.2.2+zQW (t.kids.drop x.1)<=c+nodes t) (fun x=>t.kids.length-x.1) C_ok (0,_,[t.num],_,mput m t.num ((mget m t.num).getD 0+1),c+1) rfl rfl ⟨YAX _,by have h1:=(AccR.junk (F:=F) hacc [.box (cellsOf (emb t))]).trans hacc (AccR.app0 (I64 t.num));have:=h1.setO hacc (x:= .map (embM (mput m t.num ((mget m t.num).getD 0+1)))) hr (zja m);simpa [zGy,I64,List.set_append_left _ _ hrl]using this,by simpa using hput,by rw[List.drop_zero,hvf];simp_all,by simp only[List.drop_zero,YAJ,List.length_cons,List.length_nil];(try simp only[List.length_nil]at hl);omega,by simp only[List.drop_zero];omega⟩ (by decide) ?_
   rintro⟨i,a1,l1,F1,m1,c1⟩ ⟨hi,h1,h2,h3,h4,h5⟩
   simp only at hi h1 h2 h3 h4 h5
   have hacc0:=hacc.setO (x:= .map (embM m1)) hr (zja m)
   have hacc1:=AccR.ok hacc0 h1
   have hb1:=h1.len
   rw[List.length_set]at hb1
   have hr1:F1[r]?=some (.map (embM m1)):=h1.get hacc0 (zVl hrl) (zja m1)
   simp only[List.drop_succ_cons,List.drop_zero,List.cons_append,List.nil_append]
   simp only[↓zaL,↓zHC,WY,reduceIte,yA,yB,yC,yD,reduceCtorEq,yE,yF,W1,WS]
   refine zJv (fun hlt=> ?_) (fun hlt=> ?_)
   ·simp only[↓zaL,↓zHC,WY,reduceIte,yA,yB,yC,yD,reduceCtorEq,yE,yF,W1,WS,hlt,hb1,zGx,zOr hlt]
    have hdr:=zFz hlt
    rw[hdr]at h3 h4 h5
    simp only[zQW,zaY]at h3 h4 h5
    have hj:=AccR.junk hacc1 [.box [.int .i64 (t.kid i).kind,.int .i64 (t.kid i).num,.sl ((t.kid i).kids.map emb) .no]]
    refine fsCall (ih _ (zMb hlt) l1 m1 c1 a1 _ r (by omega) (by omega) h2 (hj.ok hacc1) (by rw[zCS (zIc hr1)];exact hr1)) (.inl rfl) fun x F2 hx hlen2=> ?_
    obtain⟨m2,k1,k2⟩:=hx
    have hrj:(F1++ [.box [.int .i64 (t.kid i).kind,.int .i64 (t.kid i).num,.sl ((t.kid i).kids.map emb) .no]])[r]?=some (.map (embM m1)):=by rw[zCS (zIc hr1)];exact hr1
    have haccj:=(hj.ok hacc1).setO (x:= .map (embM m2)) hrj (zja m1)
    refine⟨fun hbel=>k2.bel haccj (by simp;omega) (zDa (zGW _ _) hbel),?_⟩
    have hl2:=zaW (t.kid i) l1
    have h1':=(h1.trans hacc0 hj).setO hacc0 (x:= .map (embM m2)) (zVl hrl) (zja m1)
    rw[List.set_set]at h1'
    simp only[↓zaL,↓zHC,WY,reduceIte,yA,yB,yC,yD,reduceCtorEq,yE,yF,W1,WS]
    refine⟨(i+1,x,zaU (t.kid i) l1,F2,m2,c1+nodes (t.kid i)),⟨hlt,h1'.trans (hacc.setO hr (zja m)) k2,k1,h3,by simp only;omega,by simp only;omega⟩,by simp only;omega,zap rfl ?_⟩
    simp only[WK,↓zaL,↓zHC,yA,reduceIte,yN,yO,yR,yP,yQ,yB,yC,zbX hlt hmax]
   ·simp only[↓zaL,↓zHC,WY,reduceIte,yA,yB,yC,yD,reduceCtorEq,yE,yF,W1,WS]
    have hi':i=t.kids.length:=by omega
    subst hi'
    rw[List.drop_length]at h3 h5
    simp only[zaY,zQW,Nat.add_zero]at h3 h5
    rw[<-h3];exact⟨m1,h2.mono h5,h1⟩
  ·refine zCN [2,30,1,28,29] ?_
   simp only[List.map_cons,List.map_nil,↓zaL,↓zHC,WY,reduceIte,yA,yB,yC,yD,reduceCtorEq,yE,yF,W1,WS]
   refine zJ1 2 (fun x:Nat×AV×List Int×List AObj×List (Int×Int)×Nat=> [(2,x.2.1),(30,.int .i64 x.1)]) (fun x=>x.2.2.2.1) (fun x=>x.1<=t.kids.length/\AccR 1 (F.set r (.map (embM x.2.2.2.2.1))) (.sl [] .full) (x.2.2.1.map I64) x.2.1 x.2.2.2.1/\MInv x.2.2.1 x.2.2.2.2.1 x.2.2.2.2.2/\zaY (t.kids.drop x.1) x.2.2.1=zaU t []/\x.2.2.1.length+zQW (t.kids.drop x.1)<=1048576/\x.2.2.2.2.2+zQW (t.kids.drop x.1)<=c+nodes t) (fun x=>t.kids.length-x.1) C_ok (0,_,[],_,m,c) rfl rfl ⟨YAX _,by rw[zVm hr];exact AccR.junk hacc _,hm,by rw[List.drop_zero,hvf];simp_all,by simp only[List.drop_zero,YAJ,List.length_cons,List.length_nil];(try simp only[List.length_nil]at hl);omega,by simp only[List.drop_zero];omega⟩ (by decide) ?_
   rintro⟨i,a1,l1,F1,m1,c1⟩ ⟨hi,h1,h2,h3,h4,h5⟩
   simp only at hi h1 h2 h3 h4 h5
   have hacc0:=hacc.setO (x:= .map (embM m1)) hr (zja m)
   have hacc1:=AccR.ok hacc0 h1
   have hb1:=h1.len
   rw[List.length_set]at hb1
   have hr1:F1[r]?=some (.map (embM m1)):=h1.get hacc0 (zVl hrl) (zja m1)
   simp only[List.drop_succ_cons,List.drop_zero,List.cons_append,List.nil_append]
   simp only[↓zaL,↓zHC,WY,reduceIte,yA,yB,yC,yD,reduceCtorEq,yE,yF,W1,WS]
   refine zJv (fun hlt=> ?_) (fun hlt=> ?_)
   ·simp only[↓zaL,↓zHC,WY,reduceIte,yA,yB,yC,yD,reduceCtorEq,yE,yF,W1,WS,hlt,hb1,zGx,zOr hlt]
    have hdr:=zFz hlt
    rw[hdr]at h3 h4 h5
    simp only[zQW,zaY]at h3 h4 h5
    have hj:=AccR.junk hacc1 [.box [.int .i64 (t.kid i).kind,.int .i64 (t.kid i).num,.sl ((t.kid i).kids.map emb) .no]]
    refine fsCall (ih _ (zMb hlt) l1 m1 c1 a1 _ r (by omega) (by omega) h2 (hj.ok hacc1) (by rw[zCS (zIc hr1)];exact hr1)) (.inl rfl) fun x F2 hx hlen2=> ?_
    obtain⟨m2,k1,k2⟩:=hx
    have hrj:(F1++ [.box [.int .i64 (t.kid i).kind,.int .i64 (t.kid i).num,.sl ((t.kid i).kids.map emb) .no]])[r]?=some (.map (embM m1)):=by rw[zCS (zIc hr1)];exact hr1
    have haccj:=(hj.ok hacc1).setO (x:= .map (embM m2)) hrj (zja m1)
    refine⟨fun hbel=>k2.bel haccj (by simp;omega) (zDa (zGW _ _) hbel),?_⟩
    have hl2:=zaW (t.kid i) l1
    have h1':=(h1.trans hacc0 hj).setO hacc0 (x:= .map (embM m2)) (zVl hrl) (zja m1)
    rw[List.set_set]at h1'
    simp only[↓zaL,↓zHC,WY,reduceIte,yA,yB,yC,yD,reduceCtorEq,yE,yF,W1,WS]
    refine⟨(i+1,x,zaU (t.kid i) l1,F2,m2,c1+nodes (t.kid i)),⟨hlt,h1'.trans (hacc.setO hr (zja m)) k2,k1,h3,by simp only;omega,by simp only;omega⟩,by simp only;omega,zap rfl ?_⟩
    simp only[WK,↓zaL,↓zHC,yA,reduceIte,yN,yO,yR,yP,yQ,yB,yC,zbX hlt hmax]
   ·simp only[↓zaL,↓zHC,WY,reduceIte,yA,yB,yC,yD,reduceCtorEq,yE,yF,W1,WS]
    have hi':i=t.kids.length:=by omega
    subst hi'
    rw[List.drop_length]at h3 h5
    simp only[zaY,zQW,Nat.add_zero]at h3 h5
    rw[<-h3];exact⟨m1,h2.mono h5,h1⟩
 ·have hacc:zAC 1 F (l.map I64) (.sl (l.map I64) (.own q)):= .inr ⟨q,rfl,hq⟩
  have hql:=zIc hq
  rw[YAK]at hq
  have hqr:q≠r:=by rintro rfl;rw[hq]at hr;simp at hr
  refine eE C_ok Try.func55 Try.results55 fun ok=> ?_
  have h:=YAN
  repeat' (first
   |(with_reducible first|apply bA|apply bB|apply bC|apply bD|apply bE|apply bF)<;>intro h
   |skip)<;>simp only[h,↓zaL,↓zHC,WY,reduceIte,yA,yB,yC,yD,reduceCtorEq,yE,yF,W1,WS,zLz,hql,hrl,hq,hr,zVk hqr,zCE,YAK,hw,zHe,zHx,zOl,zMT,yN,hg.2.2]
  ·refine⟨⟨by omega,by omega⟩,?_⟩
   refine zCN [2,30,1,28,29] ?_
   simp only[List.map_cons,List.map_nil,↓zaL,↓zHC,WY,reduceIte,yA,yB,yC,yD,reduceCtorEq,yE,yF,W1,WS]
   refine zJ1 2 (fun x:Nat×AV×List Int×List AObj×List (Int×Int)×Nat=> [(2,x.2.1),(30,.int .i64 x.1)]) (fun x=>x.2.2.2.1) (fun x=>x.1<=t.kids.length/\AccR 1 (F.set r (.map (embM x.2.2.2.2.1))) (.sl (l.map I64) (.own q)) (x.2.2.1.map I64) x.2.1 x.2.2.2.1/\MInv x.2.2.1 x.2.2.2.2.1 x.2.2.2.2.2/\zaY (t.kids.drop x.1) x.2.2.1=zaU t l/\x.2.2.1.length+zQW (t.kids.drop x.1)<=1048576/\x.2.2.2.2.2+zQW (t.kids.drop x.1)<=c+nodes t) (fun x=>t.kids.length-x.1) C_ok (0,_,l++ [t.num],_,mput m t.num ((mget m t.num).getD 0+1),c+1) rfl rfl ⟨YAX _,by have h0:=AccR.app (sz:=1) (F:=F) (es:=l.map I64) (q:=q) (I64 t.num);have h1:=h0.trans hacc (AccR.junk (h0.ok hacc) [.box (cellsOf (emb t))]);have:=h1.setO hacc (x:= .map (embM (mput m t.num ((mget m t.num).getD 0+1)))) hr (zja m);simpa [zGy,I64,List.set_append_left,hrl]using this,by simpa [h]using hput,by rw[List.drop_zero,hvf];simp_all,by simp only[List.drop_zero,YAJ,List.length_cons,List.length_nil];(try simp only[List.length_nil]at hl);omega,by simp only[List.drop_zero];omega⟩ (by decide) ?_
   rintro⟨i,a1,l1,F1,m1,c1⟩ ⟨hi,h1,h2,h3,h4,h5⟩
   simp only at hi h1 h2 h3 h4 h5
   have hacc0:=hacc.setO (x:= .map (embM m1)) hr (zja m)
   have hacc1:=AccR.ok hacc0 h1
   have hb1:=h1.len
   rw[List.length_set]at hb1
   have hr1:F1[r]?=some (.map (embM m1)):=h1.get hacc0 (zVl hrl) (zja m1)
   simp only[List.drop_succ_cons,List.drop_zero,List.cons_append,List.nil_append]
   simp only[↓zaL,↓zHC,WY,reduceIte,yA,yB,yC,yD,reduceCtorEq,yE,yF,W1,WS]
   refine zJv (fun hlt=> ?_) (fun hlt=> ?_)
   ·simp only[↓zaL,↓zHC,WY,reduceIte,yA,yB,yC,yD,reduceCtorEq,yE,yF,W1,WS,hlt,hb1,zGx,zOr hlt]
    have hdr:=zFz hlt
    rw[hdr]at h3 h4 h5
    simp only[zQW,zaY]at h3 h4 h5
    have hj:=AccR.junk hacc1 [.box [.int .i64 (t.kid i).kind,.int .i64 (t.kid i).num,.sl ((t.kid i).kids.map emb) .no]]
    refine fsCall (ih _ (zMb hlt) l1 m1 c1 a1 _ r (by omega) (by omega) h2 (hj.ok hacc1) (by rw[zCS (zIc hr1)];exact hr1)) (.inl rfl) fun x F2 hx hlen2=> ?_
    obtain⟨m2,k1,k2⟩:=hx
    have hrj:(F1++ [.box [.int .i64 (t.kid i).kind,.int .i64 (t.kid i).num,.sl ((t.kid i).kids.map emb) .no]])[r]?=some (.map (embM m1)):=by rw[zCS (zIc hr1)];exact hr1
    have haccj:=(hj.ok hacc1).setO (x:= .map (embM m2)) hrj (zja m1)
    refine⟨fun hbel=>k2.bel haccj (by simp;omega) (zDa (zGW _ _) hbel),?_⟩
    have hl2:=zaW (t.kid i) l1
    have h1':=(h1.trans hacc0 hj).setO hacc0 (x:= .map (embM m2)) (zVl hrl) (zja m1)
    rw[List.set_set]at h1'
    simp only[↓zaL,↓zHC,WY,reduceIte,yA,yB,yC,yD,reduceCtorEq,yE,yF,W1,WS]
    refine⟨(i+1,x,zaU (t.kid i) l1,F2,m2,c1+nodes (t.kid i)),⟨hlt,h1'.trans (hacc.setO hr (zja m)) k2,k1,h3,by simp only;omega,by simp only;omega⟩,by simp only;omega,zap rfl ?_⟩
    simp only[WK,↓zaL,↓zHC,yA,reduceIte,yN,yO,yR,yP,yQ,yB,yC,zbX hlt hmax]
   ·simp only[↓zaL,↓zHC,WY,reduceIte,yA,yB,yC,yD,reduceCtorEq,yE,yF,W1,WS]
    have hi':i=t.kids.length:=by omega
    subst hi'
    rw[List.drop_length]at h3 h5
    simp only[zaY,zQW,Nat.add_zero]at h3 h5
    rw[<-h3];exact⟨m1,h2.mono h5,h1⟩
  ·refine zCN [2,30,1,28,29] ?_
   simp only[List.map_cons,List.map_nil,↓zaL,↓zHC,WY,reduceIte,yA,yB,yC,yD,reduceCtorEq,yE,yF,W1,WS]
   refine zJ1 2 (fun x:Nat×AV×List Int×List AObj×List (Int×Int)×Nat=> [(2,x.2.1),(30,.int .i64 x.1)]) (fun x=>x.2.2.2.1) (fun x=>x.1<=t.kids.length/\AccR 1 (F.set r (.map (embM x.2.2.2.2.1))) (.sl (l.map I64) (.own q)) (x.2.2.1.map I64) x.2.1 x.2.2.2.1/\MInv x.2.2.1 x.2.2.2.2.1 x.2.2.2.2.2/\zaY (t.kids.drop x.1) x.2.2.1=zaU t l/\x.2.2.1.length+zQW (t.kids.drop x.1)<=1048576/\x.2.2.2.2.2+zQW (t.kids.drop x.1)<=c+nodes t) (fun x=>t.kids.length-x.1) C_ok (0,_,l,_,mput m t.num ((mget m t.num).getD 0+1),c+1) rfl rfl ⟨YAX _,by have:=(AccR.junk (F:=F) hacc [.box (cellsOf (emb t))]).setO hacc (x:= .map (embM (mput m t.num ((mget m t.num).getD 0+1)))) hr (zja m);simpa [zGy,List.set_append_left _ _ hrl]using this,by simpa [h]using hput,by rw[List.drop_zero,hvf];simp_all,by simp only[List.drop_zero,YAJ,List.length_cons,List.length_nil];(try simp only[List.length_nil]at hl);omega,by simp only[List.drop_zero];omega⟩ (by decide) ?_
   rintro⟨i,a1,l1,F1,m1,c1⟩ ⟨hi,h1,h2,h3,h4,h5⟩
   simp only at hi h1 h2 h3 h4 h5
   have hacc0:=hacc.setO (x:= .map (embM m1)) hr (zja m)
   have hacc1:=AccR.ok hacc0 h1
   have hb1:=h1.len
   rw[List.length_set]at hb1
   have hr1:F1[r]?=some (.map (embM m1)):=h1.get hacc0 (zVl hrl) (zja m1)
   simp only[List.drop_succ_cons,List.drop_zero,List.cons_append,List.nil_append]
   simp only[↓zaL,↓zHC,WY,reduceIte,yA,yB,yC,yD,reduceCtorEq,yE,yF,W1,WS]
   refine zJv (fun hlt=> ?_) (fun hlt=> ?_)
   ·simp only[↓zaL,↓zHC,WY,reduceIte,yA,yB,yC,yD,reduceCtorEq,yE,yF,W1,WS,hlt,hb1,zGx,zOr hlt]
    have hdr:=zFz hlt
    rw[hdr]at h3 h4 h5
    simp only[zQW,zaY]at h3 h4 h5
    have hj:=AccR.junk hacc1 [.box [.int .i64 (t.kid i).kind,.int .i64 (t.kid i).num,.sl ((t.kid i).kids.map emb) .no]]
    refine fsCall (ih _ (zMb hlt) l1 m1 c1 a1 _ r (by omega) (by omega) h2 (hj.ok hacc1) (by rw[zCS (zIc hr1)];exact hr1)) (.inl rfl) fun x F2 hx hlen2=> ?_
    obtain⟨m2,k1,k2⟩:=hx
    have hrj:(F1++ [.box [.int .i64 (t.kid i).kind,.int .i64 (t.kid i).num,.sl ((t.kid i).kids.map emb) .no]])[r]?=some (.map (embM m1)):=by rw[zCS (zIc hr1)];exact hr1
    have haccj:=(hj.ok hacc1).setO (x:= .map (embM m2)) hrj (zja m1)
    refine⟨fun hbel=>k2.bel haccj (by simp;omega) (zDa (zGW _ _) hbel),?_⟩
    have hl2:=zaW (t.kid i) l1
    have h1':=(h1.trans hacc0 hj).setO hacc0 (x:= .map (embM m2)) (zVl hrl) (zja m1)
    rw[List.set_set]at h1'
    simp only[↓zaL,↓zHC,WY,reduceIte,yA,yB,yC,yD,reduceCtorEq,yE,yF,W1,WS]
    refine⟨(i+1,x,zaU (t.kid i) l1,F2,m2,c1+nodes (t.kid i)),⟨hlt,h1'.trans (hacc.setO hr (zja m)) k2,k1,h3,by simp only;omega,by simp only;omega⟩,by simp only;omega,zap rfl ?_⟩
    simp only[WK,↓zaL,↓zHC,yA,reduceIte,yN,yO,yR,yP,yQ,yB,yC,zbX hlt hmax]
   ·simp only[↓zaL,↓zHC,WY,reduceIte,yA,yB,yC,yD,reduceCtorEq,yE,yF,W1,WS]
    have hi':i=t.kids.length:=by omega
    subst hi'
    rw[List.drop_length]at h3 h5
    simp only[zaY,zQW,Nat.add_zero]at h3 h5
    rw[<-h3];exact⟨m1,h2.mono h5,h1⟩
  ·refine zCN [2,30,1,28,29] ?_
   simp only[List.map_cons,List.map_nil,↓zaL,↓zHC,WY,reduceIte,yA,yB,yC,yD,reduceCtorEq,yE,yF,W1,WS]
   refine zJ1 2 (fun x:Nat×AV×List Int×List AObj×List (Int×Int)×Nat=> [(2,x.2.1),(30,.int .i64 x.1)]) (fun x=>x.2.2.2.1) (fun x=>x.1<=t.kids.length/\AccR 1 (F.set r (.map (embM x.2.2.2.2.1))) (.sl (l.map I64) (.own q)) (x.2.2.1.map I64) x.2.1 x.2.2.2.1/\MInv x.2.2.1 x.2.2.2.2.1 x.2.2.2.2.2/\zaY (t.kids.drop x.1) x.2.2.1=zaU t l/\x.2.2.1.length+zQW (t.kids.drop x.1)<=1048576/\x.2.2.2.2.2+zQW (t.kids.drop x.1)<=c+nodes t) (fun x=>t.kids.length-x.1) C_ok (0,_,l,_,m,c) rfl rfl ⟨YAX _,by rw[zVm hr];exact AccR.junk hacc _,hm,by rw[List.drop_zero,hvf];simp_all,by simp only[List.drop_zero,YAJ,List.length_cons,List.length_nil];(try simp only[List.length_nil]at hl);omega,by simp only[List.drop_zero];omega⟩ (by decide) ?_
   rintro⟨i,a1,l1,F1,m1,c1⟩ ⟨hi,h1,h2,h3,h4,h5⟩
   simp only at hi h1 h2 h3 h4 h5
   have hacc0:=hacc.setO (x:= .map (embM m1)) hr (zja m)
   have hacc1:=AccR.ok hacc0 h1
   have hb1:=h1.len
   rw[List.length_set]at hb1
   have hr1:F1[r]?=some (.map (embM m1)):=h1.get hacc0 (zVl hrl) (zja m1)
   simp only[List.drop_succ_cons,List.drop_zero,List.cons_append,List.nil_append]
   simp only[↓zaL,↓zHC,WY,reduceIte,yA,yB,yC,yD,reduceCtorEq,yE,yF,W1,WS]
   refine zJv (fun hlt=> ?_) (fun hlt=> ?_)
   ·simp only[↓zaL,↓zHC,WY,reduceIte,yA,yB,yC,yD,reduceCtorEq,yE,yF,W1,WS,hlt,hb1,zGx,zOr hlt]
    have hdr:=zFz hlt
    rw[hdr]at h3 h4 h5
    simp only[zQW,zaY]at h3 h4 h5
    have hj:=AccR.junk hacc1 [.box [.int .i64 (t.kid i).kind,.int .i64 (t.kid i).num,.sl ((t.kid i).kids.map emb) .no]]
    refine fsCall (ih _ (zMb hlt) l1 m1 c1 a1 _ r (by omega) (by omega) h2 (hj.ok hacc1) (by rw[zCS (zIc hr1)];exact hr1)) (.inl rfl) fun x F2 hx hlen2=> ?_
    obtain⟨m2,k1,k2⟩:=hx
    have hrj:(F1++ [.box [.int .i64 (t.kid i).kind,.int .i64 (t.kid i).num,.sl ((t.kid i).kids.map emb) .no]])[r]?=some (.map (embM m1)):=by rw[zCS (zIc hr1)];exact hr1
    have haccj:=(hj.ok hacc1).setO (x:= .map (embM m2)) hrj (zja m1)
    refine⟨fun hbel=>k2.bel haccj (by simp;omega) (zDa (zGW _ _) hbel),?_⟩
    have hl2:=zaW (t.kid i) l1
    have h1':=(h1.trans hacc0 hj).setO hacc0 (x:= .map (embM m2)) (zVl hrl) (zja m1)
    rw[List.set_set]at h1'
    simp only[↓zaL,↓zHC,WY,reduceIte,yA,yB,yC,yD,reduceCtorEq,yE,yF,W1,WS]
    refine⟨(i+1,x,zaU (t.kid i) l1,F2,m2,c1+nodes (t.kid i)),⟨hlt,h1'.trans (hacc.setO hr (zja m)) k2,k1,h3,by simp only;omega,by simp only;omega⟩,by simp only;omega,zap rfl ?_⟩
    simp only[WK,↓zaL,↓zHC,yA,reduceIte,yN,yO,yR,yP,yQ,yB,yC,zbX hlt hmax]
   ·simp only[↓zaL,↓zHC,WY,reduceIte,yA,yB,yC,yD,reduceCtorEq,yE,yF,W1,WS]
    have hi':i=t.kids.length:=by omega
    subst hi'
    rw[List.drop_length]at h3 h5
    simp only[zaY,zQW,Nat.add_zero]at h3 h5
    rw[<-h3];exact⟨m1,h2.mono h5,h1⟩
theorem zjM(t:Ty):zAn t:=Ty.ind zjN t
theorem ziq(t:Ty)(ht:nodes t<=1048576):zA0 Try.prog 39 [emb t] (.sl ((zaa t).map I64) .no):=by
 have hb:∀H:List AObj,H.length<=H.length:=fun H=>YAV _
 refine zSa C_ok Try.func39 rfl (by decide) (YAL rfl) (by decide) (by simp only[yN,zLy,Bool.and_self]) fun ok H=> ?_
 rw[Try.results39]
 rw[zLh]
 have h:=YAN
 repeat' (first
  |(with_reducible first|apply bA|apply bB|apply bC|apply bD|apply bE|apply bF)<;>intro h
  |skip)<;>simp only[h,↓zaL,↓zHC,WY,reduceIte,yA,yB,yC,yD,reduceCtorEq,yE,yF,W1,WS,hb]
 refine fsCall (zjM t [] [] 0 _ _ _ (by simp only[List.length_nil];omega) (by omega) (by intro n;simp[mget]) (.inl ⟨rfl,rfl⟩) (by simp[embM])) (.inl rfl) fun r F' hr hlen=> ?_
 obtain⟨m',h1,h2⟩:=hr
 refine⟨fun hbel=>h2.bel (.inl ⟨rfl,rfl⟩) (by simp) (zDa (zGW _ _) hbel),?_⟩
 obtain⟨e1,J,rfl⟩:=h2.out
 simp only[↓zaL,↓zHC,WY,reduceIte,yA,yB,yC,yD,reduceCtorEq,yE,yF,W1,WS,e1,zLz,zaa]
 simp
end
end Go.Proofs.Ytmpegnogdgbleaa
