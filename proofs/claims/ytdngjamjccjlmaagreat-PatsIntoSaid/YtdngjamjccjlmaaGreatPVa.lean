/- Lemmas: the variables of a type. No condition. -/
import Derived.Test.YtdngjamjccjlmaaGreatPFa
import Derived.Test.YtdngjamjccjlmaaGreatPAb
set_option linter.unusedSimpArgs false
set_option linter.unusedVariables false
set_option maxHeartbeats 4000000
namespace Go.Proofs.YtdngjamjccjlmaaGreat
open Go Go.Ab
open Nat renaming reduceEqDiff -> yA, reduceAdd -> yB, reduceLT -> yC, reduceLeDiff -> yD, reduceMul -> yE, reducePow -> yF
open AV renaming belL -> yO, bel -> yN, normL -> yQ, norm -> yP
open AObj renaming bel -> yR
attribute [local irreducible] zA0 zAA zAa zAi zAj GoIf GoGb zAk GoO GoD GoX GoDX GoG GoDG GoGv zAl Go zAB
section
def I64(n:Int):AV:= .int .i64 n
theorem zLY(n:Int):I64 n= .int .i64 n:=rfl
theorem zLy(m:Nat)(l:List Int):AV.belL m (l.map I64)=true:=by induction l with|nil=>rfl|cons b l ih=>simp[yO,yN,I64];simpa [I64]using ih
theorem zLz(l:List Int):AV.normL (l.map I64)=l.map I64:=by induction l with|nil=>rfl|cons b l ih=>simp[yQ,yP,I64];simpa [I64]using ih
theorem zCE(l:List Int):(∀y,y∈l.map I64->(cellsOf y).length=1)=True:=by
 simp only[YAb,iff_true];intro y hy;obtain⟨t,_,rfl⟩:=List.mem_map.1 hy;rfl
theorem zOt{l:List Int}{i:Nat}(h:i<l.length):(l.map I64).getD i .any=I64 (l.getD i 0):=by simp[h]
mutual
def zaU:Ty->List Int->List Int
 | .mk k n l,out=>zaY l (if k=6/\n ∉ out then out++ [n]else out)
def zaY:List Ty->List Int->List Int
 | [],out=>out
 |t::l,out=>zaY l (zaU t out)
end
theorem zaV(t:Ty)(out:List Int):zaU t out=zaY t.kids (if t.kind=6/\t.num ∉ out then out++ [t.num]else out):=by cases t;rw[zaU];rfl
mutual
theorem zaW:∀(t:Ty) (out:List Int),(zaU t out).length<=out.length+nodes t
 | .mk k n l,out=>by
  rw[zaU]
  have:=zaZ l (if k=6/\n ∉ out then out++ [n]else out)
  have h2:(if k=6/\n ∉ out then out++ [n]else out).length<=out.length+1:=by split<;>simp
  simp only[nodes];omega
theorem zaZ:∀(l:List Ty) (out:List Int),(zaY l out).length<=out.length+zQW l
 | [],out=>by simp[zaY]
 |t::l,out=>by
  have h1:=zaZ l (zaU t out)
  have h2:=zaW t out
  simp only[zaY,zQW];omega
end
theorem zLc(l:List Int)(n:Int):zA0 Tryz.prog 77 [.sl (l.map I64) .no,.int .i64 n] (.bool (decide (n∈l))):=by
 refine eP C_ok Tryz.func77 Tryz.results77 fun ok H=> ?_
 repeat' simp only[WZ]
 have hmax:l.length<=maxLen:=by
  have:=ok.1;simp only[AV.okay,YAK]at this;exact this.1
 refine aloop_trim [5,0,1] ?_
 simp only[List.map_cons,List.map_nil,↓zaL,WZ,yA,reduceCtorEq]
 refine zJ3 1 (fun i:Nat=> [(5,.int .i64 i)]) (fun _=>_) (fun i=>i<=l.length/\n ∉ l.take i) (fun i=>l.length-i) C_ok 0 rfl rfl ⟨YAX _,by simp⟩ (by decide) ?_
 rintro i ⟨hi,hall⟩
 simp only[List.drop_succ_cons,List.drop_zero,List.cons_append,List.nil_append]
 simp only[↓zaL,↓zHC,WZ,yA,reduceCtorEq,W1]
 refine zJv (fun hlt=> ?_) (fun hlt=> ?_)
 ·have h:=YAN
  repeat' (first
   |(with_reducible first|apply bA|apply bB|apply bC|apply bD|apply bE|apply bF)<;>intro h
   |skip)<;>simp only[h,↓zaL,↓zHC,WZ,yA,reduceCtorEq,W1,hlt,zOt hlt,zLY]
  ·have h':l[i]=n:=by simpa [hlt]using h
   exact(decide_eq_true (by rw[<-h'];exact List.getElem_mem hlt)).symm
  ·have h':¬l[i]=n:=by simpa [hlt]using h
   refine⟨i+1,⟨hlt,?_⟩,by omega,zas rfl rfl rfl rfl ?_ ?_ ?_⟩
   ·rw[List.take_add_one,YAI hlt];simp only[Option.toList_some,List.mem_append,List.mem_singleton,not_or];exact⟨hall,fun h=>h' h.symm⟩
   all_goals simp only[WK,↓zaL,↓zHC,yA,yN,yR,yP,zbX hlt hmax,zLy]
 ·simp only[↓zaL,↓zHC,WZ,yA,reduceCtorEq]
  have:i=l.length:=by omega
  subst this
  rw[List.take_length]at hall
  exact(decide_eq_false hall).symm
abbrev zA9 (t:Ty):Prop:=∀(l:List Int) (a:AV) (F:List AObj),l.length+nodes t<=1048576->zAC 1 F (l.map I64) a->zAA Tryz.prog 50 [emb t,a] F fun r F'=>AccR 1 F a ((zaU t l).map I64) r F'
theorem zVG(t:Ty)(ih:∀x∈t.kids,zA9 x):zA9 t:=by
 intro l a F hl hacc
 have hlen:=zND t
 have hnod:=zQZ t
 have hb:F.length<=F.length:=YAV _
 have hmax:t.kids.length<=maxLen:=by rw[zPC];omega
 have hvf:=zaV t l
 rcases hacc with ⟨e1,rfl⟩|⟨q,rfl,hq⟩
 ·obtain rfl:l=[]:=List.map_eq_nil_iff.1 e1
  have hacc:zAC 1 F (([]:List Int).map I64) (.sl [] .full):= .inl ⟨rfl,rfl⟩
  refine eE C_ok Tryz.func50 Tryz.results50 fun ok=> ?_
  have h:=YAN
  repeat' (first
   |(with_reducible first|apply bA|apply bB|apply bC|apply bD|apply bE|apply bF)<;>intro h
   |((first|apply bG|apply bH);simp only[yP,yQ];refine zIf (zLc [] _) (.inl rfl) ?_)
   |skip)<;>simp only[h,↓zaL,WY,yA,yB,yC,yD,yE,yF,W1,WS]
  ·refine zCN [1,5,2] ?_
   simp only[List.map_cons,List.map_nil,↓zaL,WY,yA,WS]
   refine zJ1 2 (fun x:Nat×AV×List Int×List AObj=> [(1,x.2.1),(5,.int .i64 x.1)]) (fun x=>x.2.2.2) (fun x=>x.1<=t.kids.length/\AccR 1 F (.sl [] .full) (x.2.2.1.map I64) x.2.1 x.2.2.2/\x.2.2.2[F.length]?=some (.box (cellsOf (emb t)))/\zaY (t.kids.drop x.1) x.2.2.1=zaU t []/\x.2.2.1.length+zQW (t.kids.drop x.1)<=1048576) (fun x=>t.kids.length-x.1) C_ok (0,_,[t.num],_) rfl rfl ⟨YAX _,by have:=(AccR.junk (F:=F) hacc [.box (cellsOf (emb t))]).trans hacc (AccR.app0 (I64 t.num));simpa [zGy,I64]using this,by rw[zGy];simp,by rw[List.drop_zero,hvf];simp_all,by simp only[List.drop_zero,List.length_cons,List.length_nil];(try simp only[List.length_nil]at hl);omega⟩ (by decide) ?_
   rintro⟨i,a1,l1,F1⟩ ⟨hi,h1,h2,h3,h4⟩
   simp only at hi h1 h2 h3 h4
   rw[zGy]at h2
   have hacc1:=AccR.ok hacc h1
   have hb1:=h1.len
   simp only[List.drop_succ_cons,List.drop_zero,List.cons_append,List.nil_append]
   simp only[↓zaL,↓zHC,WY,yA,yB,W1,WS,h2]
   refine zJv (fun hlt=> ?_) (fun hlt=> ?_)
   ·simp only[↓zaL,↓zHC,WY,yA,yB,W1,WS,h2,hlt,zOr hlt]
    have hdr:=zFz hlt
    rw[hdr]at h3 h4
    simp only[zQW,zaY]at h3 h4
    refine fsCall (ih _ (zMb hlt) l1 a1 F1 (by omega) hacc1) (.inl rfl) fun r F2 hr hlen2=>⟨fun hbel=>hr.bel hacc1 hb1 hbel,?_⟩
    have hg:=hr.get hacc1 h2 (by intro m;simp)
    have hl2:=zaW (t.kid i) l1
    simp only[↓zaL,↓zHC,WY,yA,W1,WS]
    refine⟨(i+1,r,zaU (t.kid i) l1,F2),⟨hlt,h1.trans hacc hr,by first|exact hg|(rw[zGy];exact hg),h3,by simp only;omega⟩,by simp only;omega,zap rfl ?_⟩
    simp only[WK,↓zaL,↓zHC,yA,yP,zbX hlt hmax]
   ·simp only[↓zaL,↓zHC,WY,yA,WS]
    have hi':i=t.kids.length:=by omega
    subst hi'
    rw[List.drop_length]at h3
    simp only[zaY]at h3
    rw[<-h3];exact h1
  ·refine zCN [1,5,2] ?_
   simp only[List.map_cons,List.map_nil,↓zaL,WY,yA,WS]
   refine zJ1 2 (fun x:Nat×AV×List Int×List AObj=> [(1,x.2.1),(5,.int .i64 x.1)]) (fun x=>x.2.2.2) (fun x=>x.1<=t.kids.length/\AccR 1 F (.sl [] .full) (x.2.2.1.map I64) x.2.1 x.2.2.2/\x.2.2.2[F.length]?=some (.box (cellsOf (emb t)))/\zaY (t.kids.drop x.1) x.2.2.1=zaU t []/\x.2.2.1.length+zQW (t.kids.drop x.1)<=1048576) (fun x=>t.kids.length-x.1) C_ok (0,_,[],_) rfl rfl ⟨YAX _,AccR.junk hacc _,by rw[zGy];simp,by rw[List.drop_zero,hvf];simp_all,by simp only[List.drop_zero,List.length_nil];(try simp only[List.length_nil]at hl);omega⟩ (by decide) ?_
   rintro⟨i,a1,l1,F1⟩ ⟨hi,h1,h2,h3,h4⟩
   simp only at hi h1 h2 h3 h4
   rw[zGy]at h2
   have hacc1:=AccR.ok hacc h1
   have hb1:=h1.len
   simp only[List.drop_succ_cons,List.drop_zero,List.cons_append,List.nil_append]
   simp only[↓zaL,↓zHC,WY,yA,yB,W1,WS,h2]
   refine zJv (fun hlt=> ?_) (fun hlt=> ?_)
   ·simp only[↓zaL,↓zHC,WY,yA,yB,W1,WS,h2,hlt,zOr hlt]
    have hdr:=zFz hlt
    rw[hdr]at h3 h4
    simp only[zQW,zaY]at h3 h4
    refine fsCall (ih _ (zMb hlt) l1 a1 F1 (by omega) hacc1) (.inl rfl) fun r F2 hr hlen2=>⟨fun hbel=>hr.bel hacc1 hb1 hbel,?_⟩
    have hg:=hr.get hacc1 h2 (by intro m;simp)
    have hl2:=zaW (t.kid i) l1
    simp only[↓zaL,↓zHC,WY,yA,W1,WS]
    refine⟨(i+1,r,zaU (t.kid i) l1,F2),⟨hlt,h1.trans hacc hr,by first|exact hg|(rw[zGy];exact hg),h3,by simp only;omega⟩,by simp only;omega,zap rfl ?_⟩
    simp only[WK,↓zaL,↓zHC,yA,yP,zbX hlt hmax]
   ·simp only[↓zaL,↓zHC,WY,yA,WS]
    have hi':i=t.kids.length:=by omega
    subst hi'
    rw[List.drop_length]at h3
    simp only[zaY]at h3
    rw[<-h3];exact h1
 ·have hacc:zAC 1 F (l.map I64) (.sl (l.map I64) (.own q)):= .inr ⟨q,rfl,hq⟩
  have hql:=zIc hq
  rw[YAK]at hq
  refine eE C_ok Tryz.func50 Tryz.results50 fun ok=> ?_
  have h:=YAN
  repeat' (first
   |(with_reducible first|apply bA|apply bB|apply bC|apply bD|apply bE|apply bF)<;>intro h
   |((first|apply bG|apply bH);simp only[yP,yQ,zLz];refine zIf (zLc _ _) (.inl rfl) ?_)
   |skip)<;>simp only[h,↓zaL,WY,yA,yB,yC,yD,yE,yF,W1,WS,zCS hql,zCW hql,hq,zCE]
  ·refine zCN [1,5,2] ?_
   simp only[List.map_cons,List.map_nil,↓zaL,WY,yA,WS]
   refine zJ1 2 (fun x:Nat×AV×List Int×List AObj=> [(1,x.2.1),(5,.int .i64 x.1)]) (fun x=>x.2.2.2) (fun x=>x.1<=t.kids.length/\AccR 1 F (.sl (l.map I64) (.own q)) (x.2.2.1.map I64) x.2.1 x.2.2.2/\x.2.2.2[F.length]?=some (.box (cellsOf (emb t)))/\zaY (t.kids.drop x.1) x.2.2.1=zaU t l/\x.2.2.1.length+zQW (t.kids.drop x.1)<=1048576) (fun x=>t.kids.length-x.1) C_ok (0,_,l,_) rfl rfl ⟨YAX _,AccR.junk hacc _,by rw[zGy];simp,by rw[List.drop_zero,hvf];simp_all,by simp only[List.drop_zero];(try simp only[List.length_nil]at hl);omega⟩ (by decide) ?_
   rintro⟨i,a1,l1,F1⟩ ⟨hi,h1,h2,h3,h4⟩
   simp only at hi h1 h2 h3 h4
   rw[zGy]at h2
   have hacc1:=AccR.ok hacc h1
   have hb1:=h1.len
   simp only[List.drop_succ_cons,List.drop_zero,List.cons_append,List.nil_append]
   simp only[↓zaL,↓zHC,WY,yA,yB,W1,WS,h2]
   refine zJv (fun hlt=> ?_) (fun hlt=> ?_)
   ·simp only[↓zaL,↓zHC,WY,yA,yB,W1,WS,h2,hlt,zOr hlt]
    have hdr:=zFz hlt
    rw[hdr]at h3 h4
    simp only[zQW,zaY]at h3 h4
    refine fsCall (ih _ (zMb hlt) l1 a1 F1 (by omega) hacc1) (.inl rfl) fun r F2 hr hlen2=>⟨fun hbel=>hr.bel hacc1 hb1 hbel,?_⟩
    have hg:=hr.get hacc1 h2 (by intro m;simp)
    have hl2:=zaW (t.kid i) l1
    simp only[↓zaL,↓zHC,WY,yA,W1,WS]
    refine⟨(i+1,r,zaU (t.kid i) l1,F2),⟨hlt,h1.trans hacc hr,by first|exact hg|(rw[zGy];exact hg),h3,by simp only;omega⟩,by simp only;omega,zap rfl ?_⟩
    simp only[WK,↓zaL,↓zHC,yA,yP,zbX hlt hmax]
   ·simp only[↓zaL,↓zHC,WY,yA,WS]
    have hi':i=t.kids.length:=by omega
    subst hi'
    rw[List.drop_length]at h3
    simp only[zaY]at h3
    rw[<-h3];exact h1
  ·refine⟨⟨by omega,by omega⟩,?_⟩
   refine zCN [1,5,2] ?_
   simp only[List.map_cons,List.map_nil,↓zaL,WY,yA,WS]
   refine zJ1 2 (fun x:Nat×AV×List Int×List AObj=> [(1,x.2.1),(5,.int .i64 x.1)]) (fun x=>x.2.2.2) (fun x=>x.1<=t.kids.length/\AccR 1 F (.sl (l.map I64) (.own q)) (x.2.2.1.map I64) x.2.1 x.2.2.2/\x.2.2.2[F.length]?=some (.box (cellsOf (emb t)))/\zaY (t.kids.drop x.1) x.2.2.1=zaU t l/\x.2.2.1.length+zQW (t.kids.drop x.1)<=1048576) (fun x=>t.kids.length-x.1) C_ok (0,_,l++ [t.num],_) rfl rfl ⟨YAX _,by have h0:=AccR.app (sz:=1) (F:=F) (es:=l.map I64) (q:=q) (I64 t.num);have:=h0.trans hacc (AccR.junk (h0.ok hacc) [.box (cellsOf (emb t))]);simpa [zGy,I64]using this,by rw[zGy];simp,by rw[List.drop_zero,hvf];simp_all,by simp only[List.drop_zero,YAJ,List.length_cons,List.length_nil];(try simp only[List.length_nil]at hl);omega⟩ (by decide) ?_
   rintro⟨i,a1,l1,F1⟩ ⟨hi,h1,h2,h3,h4⟩
   simp only at hi h1 h2 h3 h4
   rw[zGy]at h2
   have hacc1:=AccR.ok hacc h1
   have hb1:=h1.len
   simp only[List.drop_succ_cons,List.drop_zero,List.cons_append,List.nil_append]
   simp only[↓zaL,↓zHC,WY,yA,yB,W1,WS,h2]
   refine zJv (fun hlt=> ?_) (fun hlt=> ?_)
   ·simp only[↓zaL,↓zHC,WY,yA,yB,W1,WS,h2,hlt,zOr hlt]
    have hdr:=zFz hlt
    rw[hdr]at h3 h4
    simp only[zQW,zaY]at h3 h4
    refine fsCall (ih _ (zMb hlt) l1 a1 F1 (by omega) hacc1) (.inl rfl) fun r F2 hr hlen2=>⟨fun hbel=>hr.bel hacc1 hb1 hbel,?_⟩
    have hg:=hr.get hacc1 h2 (by intro m;simp)
    have hl2:=zaW (t.kid i) l1
    simp only[↓zaL,↓zHC,WY,yA,W1,WS]
    refine⟨(i+1,r,zaU (t.kid i) l1,F2),⟨hlt,h1.trans hacc hr,by first|exact hg|(rw[zGy];exact hg),h3,by simp only;omega⟩,by simp only;omega,zap rfl ?_⟩
    simp only[WK,↓zaL,↓zHC,yA,yP,zbX hlt hmax]
   ·simp only[↓zaL,↓zHC,WY,yA,WS]
    have hi':i=t.kids.length:=by omega
    subst hi'
    rw[List.drop_length]at h3
    simp only[zaY]at h3
    rw[<-h3];exact h1
  ·refine zCN [1,5,2] ?_
   simp only[List.map_cons,List.map_nil,↓zaL,WY,yA,WS]
   refine zJ1 2 (fun x:Nat×AV×List Int×List AObj=> [(1,x.2.1),(5,.int .i64 x.1)]) (fun x=>x.2.2.2) (fun x=>x.1<=t.kids.length/\AccR 1 F (.sl (l.map I64) (.own q)) (x.2.2.1.map I64) x.2.1 x.2.2.2/\x.2.2.2[F.length]?=some (.box (cellsOf (emb t)))/\zaY (t.kids.drop x.1) x.2.2.1=zaU t l/\x.2.2.1.length+zQW (t.kids.drop x.1)<=1048576) (fun x=>t.kids.length-x.1) C_ok (0,_,l,_) rfl rfl ⟨YAX _,AccR.junk hacc _,by rw[zGy];simp,by rw[List.drop_zero,hvf];simp_all,by simp only[List.drop_zero];(try simp only[List.length_nil]at hl);omega⟩ (by decide) ?_
   rintro⟨i,a1,l1,F1⟩ ⟨hi,h1,h2,h3,h4⟩
   simp only at hi h1 h2 h3 h4
   rw[zGy]at h2
   have hacc1:=AccR.ok hacc h1
   have hb1:=h1.len
   simp only[List.drop_succ_cons,List.drop_zero,List.cons_append,List.nil_append]
   simp only[↓zaL,↓zHC,WY,yA,yB,W1,WS,h2]
   refine zJv (fun hlt=> ?_) (fun hlt=> ?_)
   ·simp only[↓zaL,↓zHC,WY,yA,yB,W1,WS,h2,hlt,zOr hlt]
    have hdr:=zFz hlt
    rw[hdr]at h3 h4
    simp only[zQW,zaY]at h3 h4
    refine fsCall (ih _ (zMb hlt) l1 a1 F1 (by omega) hacc1) (.inl rfl) fun r F2 hr hlen2=>⟨fun hbel=>hr.bel hacc1 hb1 hbel,?_⟩
    have hg:=hr.get hacc1 h2 (by intro m;simp)
    have hl2:=zaW (t.kid i) l1
    simp only[↓zaL,↓zHC,WY,yA,W1,WS]
    refine⟨(i+1,r,zaU (t.kid i) l1,F2),⟨hlt,h1.trans hacc hr,by first|exact hg|(rw[zGy];exact hg),h3,by simp only;omega⟩,by simp only;omega,zap rfl ?_⟩
    simp only[WK,↓zaL,↓zHC,yA,yP,zbX hlt hmax]
   ·simp only[↓zaL,↓zHC,WY,yA,WS]
    have hi':i=t.kids.length:=by omega
    subst hi'
    rw[List.drop_length]at h3
    simp only[zaY]at h3
    rw[<-h3];exact h1
theorem zVF(t:Ty):zA9 t:=Ty.ind zVG t
def zaa(t:Ty):List Int:=zaU t []
theorem zTI(t:Ty)(ht:nodes t<=1048576):zA0 Tryz.prog 21 [emb t] (.sl ((zaa t).map I64) .no):=by
 have hb:∀H:List AObj,H.length<=H.length:=fun H=>YAV _
 refine zSa C_ok Tryz.func21 rfl (by decide) (YAL rfl) (by decide) (by simp only[yN,zLy,Bool.and_self]) fun ok H=> ?_
 rw[Tryz.results21]
 rw[zLh]
 repeat' simp only[↓zaL,WY,yA,yB,W1,WS,hb]
 refine fsCall (zVF t [] _ _ (by simp only[List.length_nil];omega) (.inl ⟨rfl,rfl⟩)) (.inl rfl) fun r F' hr hlen=>⟨fun hbel=>hr.bel (.inl ⟨rfl,rfl⟩) (by simp) hbel,?_⟩
 obtain⟨h1,J,rfl⟩:=hr.out
 simp only[↓zaL,WY,yA,WS,h1,zLz]
 simp[zaa]
end
section
def zVK(a b:List Int):Bool:=decide (a=b)
theorem zeV(a b:List Int):zA0 Tryz.prog 16 [.sl (a.map I64) .no,.sl (b.map I64) .no] (.bool (decide (a=b))):=by
 refine eP C_ok Tryz.func16 Tryz.results16 fun ok H=> ?_
 have hmax:a.length<=maxLen:=by
  have:=ok.1;simp only[AV.okay,YAK]at this;exact this.1
 by_cases hlen:a.length=b.length
 ·have h:=YAN
  repeat' (first
   |(with_reducible first|apply bA|apply bB|apply bC|apply bD|apply bE|apply bF)<;>intro h
   |skip)<;>simp only[h,↓zaL,WZ,yA,reduceCtorEq,W1,hlen]
  ·simp at h
  refine aloop_trim [5,0,1] ?_
  simp only[List.map_cons,List.map_nil,↓zaL,WZ,yA,reduceCtorEq]
  refine zJ3 1 (fun i:Nat=> [(5,.int .i64 i)]) (fun _=>_) (fun i=>i<=a.length/\a.take i=b.take i) (fun i=>a.length-i) C_ok 0 rfl rfl ⟨YAX _,by simp⟩ (by decide) ?_
  rintro i ⟨hi,hall⟩
  simp only[List.drop_succ_cons,List.drop_zero,List.cons_append,List.nil_append]
  simp only[↓zaL,↓zHC,WZ,yA,reduceCtorEq,W1]
  refine zJv (fun hlt=> ?_) (fun hlt=> ?_)
  ·have hlt2:i<b.length:=by omega
   have h:=YAN
   repeat' (first
    |(with_reducible first|apply bA|apply bB|apply bC|apply bD|apply bE|apply bF)<;>intro h
    |refine zKg (id:=6) C_ok (fun _=>trivial) mixed 0 Tryz.f16.ntmps rfl (by kernel_rfl) (by decide) ?_
    |skip)<;>simp only[h,↓zaL,↓zHC,WZ,yA,reduceCtorEq,W1,hlt,hlt2,zOt hlt,zOt hlt2,zLY]
   ·have h':¬a[i]=b[i]:=by simpa [hlt,hlt2]using h
    exact(decide_eq_false (by rintro rfl;exact h' rfl)).symm
   ·have h':a[i]=b[i]:=by simpa [hlt,hlt2]using h
    refine⟨i+1,⟨hlt,?_⟩,by omega,zas rfl rfl rfl rfl ?_ ?_ ?_⟩
    ·rw[List.take_add_one,List.take_add_one,hall,YAI hlt,YAI hlt2,h']
    all_goals simp only[WK,↓zaL,↓zHC,yA,yN,yR,yP,zbX hlt hmax,zLy]
  ·simp only[↓zaL,↓zHC,WZ,yA,reduceCtorEq]
   have:i=a.length:=by omega
   subst this
   rw[List.take_length,hlen,List.take_length]at hall
   exact(decide_eq_true hall).symm
 ·have hne:((a.length:Int) !=(b.length:Int))=true:=by simp;omega
  repeat' simp only[↓zaL,WZ,yA,reduceCtorEq,W1,hne]
  exact(decide_eq_false (by rintro rfl;exact hlen rfl)).symm
def MInv(l:List Int)(m:List (Int×Int))(c:Nat):Prop:=∀n,match mget m n with
 |none=>n ∉ l
 |some v=>n∈l/\0<v/\v<=c
theorem MInv.get{l:List Int}{m:List (Int×Int)}{c:Nat}(h:MInv l m c)(n:Int):0<=(mget m n).getD 0/\(mget m n).getD 0<=c/\(((mget m n).getD 0==0)=decide (n ∉ l)):=by
 have:=h n
 cases hm:mget m n with
 |none=>rw[hm]at this;simp[this]
 |some v=>rw[hm]at this;obtain⟨h1,h2,h3⟩:=this;simp[h1];omega
theorem MInv.put{l:List Int}{m:List (Int×Int)}{c:Nat}(h:MInv l m c)(n:Int):MInv (if n ∉ l then l++ [n]else l) (mput m n ((mget m n).getD 0+1)) (c+1):=by
 intro k
 rw[zPO]
 have hg:=h.get n
 by_cases hk:n=k
 ·subst hk
  simp only[if_true]
  refine⟨?_,by omega,by omega⟩
  split<;>simp_all
 ·simp only[if_neg hk]
  have:=h k
  cases hm:mget m k with
  |none=>rw[hm]at this;simp only at this⊢;split<;>simp_all [Ne.symm hk]
  |some v=>rw[hm]at this;obtain⟨h1,h2,h3⟩:=this;exact⟨by split<;>simp_all,h2,by omega⟩
theorem MInv.mono{l:List Int}{m:List (Int×Int)}{c d:Nat}(h:MInv l m c)(hd:c<=d):MInv l m d:=by
 intro n
 have:=h n
 cases hm:mget m n with
 |none=>rw[hm]at this;exact this
 |some v=>rw[hm]at this;exact⟨this.1,this.2.1,by omega⟩
end
end Go.Proofs.YtdngjamjccjlmaaGreat
