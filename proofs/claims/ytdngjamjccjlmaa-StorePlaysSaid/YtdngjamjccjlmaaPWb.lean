/- Lemmas: the functions of stores, second part. No condition. -/
import Derived.Test.YtdngjamjccjlmaaPWa
import Derived.Test.YtdngjamjccjlmaaPSb
set_option linter.unusedSimpArgs false
set_option linter.unusedVariables false
set_option maxHeartbeats 4000000
set_option maxRecDepth 100000
namespace Go.Proofs.Ytdngjamjccjlmaa
open Go Go.Ab
open Nat renaming reduceEqDiff -> yA, reduceAdd -> yB, reduceLT -> yC, reduceLeDiff -> yD, reduceMul -> yE, reducePow -> yF
open AV renaming belL -> yO, bel -> yN, normL -> yQ, norm -> yP
open AObj renaming bel -> yR
attribute [local irreducible] zA0 zAA zAa zAi zAj GoIf GoGb zAk GoO GoD GoX GoDX GoG GoDG GoGv zAl Go zAB
section
def mkL(L:Mem)(rd:Int)(l:List Nat):Mem:=(List.range L.length).map fun i=>if i∈l then((L.getD i default).1,rd)else L.getD i default
theorem zPW(L:Mem)(rd:Int)(l:List Nat):(mkL L rd l).length=L.length:=by simp[mkL]
theorem zPV{L:Mem}{rd:Int}{l:List Nat}{i:Nat}(h:i<L.length):(mkL L rd l).getD i default=if i∈l then((L.getD i default).1,rd)else L.getD i default:=by simp[mkL,h]
theorem zPY(L:Mem)(rd:Int)(l:List Nat):(mkL L rd l).st=L.st:=by
 apply List.ext_getElem (by simp[Mem.st,mkL])
 intro i h1 h2
 have hi:i<L.length:=by simpa [Mem.st]using h2
 simp only[Mem.st,mkL,List.getElem_map,List.getElem_range]
 split<;>simp[hi]
theorem zPX(L:Mem)(rd:Int):mkL L rd []=L:=by
 apply List.ext_getElem (by simp[mkL])
 intro i h1 h2
 simp[mkL,h2]
theorem zPU{L:Mem}{rd:Int}{l:List Nat}{i:Nat}(h:i<L.length):(mkL L rd l).set i ((L.getD i default).1,rd)=mkL L rd (l++ [i]):=by
 apply List.ext_getElem (by simp[mkL])
 intro j h1 h2
 have hj:j<L.length:=by simpa [mkL]using h2
 rw[List.getElem_set]
 by_cases e:i=j
 ·subst e;simp[mkL]
 ·have e':¬j=i:=fun h=>e h.symm
  simp[mkL,e,e']
theorem zMZ(l:List Nat):(kidI l).length=l.length:=by simp[kidI]
theorem zMY{l:List Nat}{i:Nat}(h:i<l.length):((kidI l).map I64).getD i .any= .int .i64 ((l.getD i 0:Nat):Int):=by simp[kidI,h,I64]
theorem zHt{S:St}:∀(ks:List Nat) (l:List Nat),(∀k∈ks,∀l,∃m,S.look k l=l++m)->∃m,ks.foldl (fun l k=>S.look k l) l=l++m
 | [],l,_=>⟨[],by simp⟩
 |k::ks,l,h=>by
  obtain⟨m1,e1⟩:=h k YAU l
  obtain⟨m2,e2⟩:=zHt ks (S.look k l) fun x hx=>h x (YAT _ hx)
  exact⟨m1++m2,by rw[List.foldl_cons,e2,e1,List.append_assoc]⟩
theorem zNn{S:St}(h:Wf S):∀n,n<S.length->∀l,∃m,S.look n l=l++m:=by
 refine h.ind (p:=fun n=>n<S.length->∀l,∃m,S.look n l=l++m) fun n ih hn l=> ?_
 rw[h.look_eq hn]
 split
 ·exact⟨[],by simp⟩
 ·obtain⟨m,e⟩:=zHt (S:=S) (S.kids (S.root n)) (l++ [S.root n]) fun k hk l=>ih k hk (h.zMa hk) l
  exact⟨[S.root n]++m,by rw[e,List.append_assoc]⟩
section
variable {s r v : Nat} {L : Mem} {lim cnt rd : Int}
def Old(L:Mem)(rd:Int):Prop:=∀i,i<L.length->(L.getD i default).2≠rd
theorem reN(p:Nd×Int)(cs:List AV):zTS (embN p) cs= .agg cs:=rfl
def zAw(F:List AObj)(q:Nat):Prop:=∃x,F[q]?=some x/\∀m,x≠ .tok m 1
def zAp(s r v:Nat)(L:Mem)(lim cnt rd:Int)(n:Nat):Prop:=∀(F:List AObj) (l:List Nat) (a:AV),zAw F s->zAw F r->zAC 1 F ((kidI l).map I64) a->(L.st.look n l).length<=1000000->
 zAA Try.prog 133 [.bptr s 0,.int .i64 n,a] (hpS F s r v (mkL L rd l) lim cnt rd) fun x G=>∃F',G=hpS F' s r v (mkL L rd (L.st.look n l)) lim cnt rd/\AccR 1 F a ((kidI (L.st.look n l)).map I64) x F'
theorem zMX(l:List Nat)(n:Nat):(kidI (l++ [n])).map I64=(kidI l).map I64++ [.int .i64 (n:Int)]:=by simp[kidI,I64]
theorem zQO{F F':List AObj}{es es':List AV}{a a':AV}(h:zAC 1 F es a)(hr:AccR 1 F a es' a' F'){q:Nat}(hq:zAw F q):zAw F' q:=by
 obtain⟨x,h1,h2⟩:=hq;exact⟨x,hr.get h h1 h2,h2⟩
theorem zNj{F F':List AObj}{es es':List AV}{a a':AV}{b v v':Nat}{L L':Mem}{lim cnt rd:Int}(h:zAC 1 F es a)(hr:AccR 1 F a es' a' F')(hs:zAw F s)(hr':zAw F r)(hne:r≠s)(hb:b<=F.length)
 (hbel:∀x∈(hpS F s r v L lim cnt rd).take b,x.bel b=true):∀x∈(hpS F' s r v' L' lim cnt rd).take b,x.bel b=true:=by
 obtain⟨x,hx,hxt⟩:=hs
 obtain⟨y,hy,hyt⟩:=hr'
 have hsl:=zIc hx
 have hrl:=zIc hy
 have e:∀(G:List AObj) (bx ar:AObj),G[s]?=some bx->G[r]?=some ar->stF G s r bx ar=G:=fun G bx ar h1 h2=>by unfold stF;rw[zVm h1,zVm h2]
 have h1:=h.setO (x:=bxS r v L.length lim cnt rd) hx hxt
 have hy1:(F.set s (bxS r v L.length lim cnt rd))[r]?=some y:=by rw[zVk (fun h=>hne h.symm)];exact hy
 have h2:=h1.setO (x:=arS v L) hy1 hyt
 have k1:=hr.setO h (x:=bxS r v L.length lim cnt rd) hx hxt
 have k2:=k1.setO h1 (x:=arS v L) hy1 hyt
 have k3:=k2.bel h2 (b:=b) (by simpa using hb) hbel
 have hlen:=hr.len
 exact zLV (v:=v) (L:=L) (lim:=lim) (cnt:=cnt) (rd:=rd) (by omega) (by omega) hne k3
theorem zNp(hne:r≠s)(hw:Wf L.st)(hold:Old L rd)(n:Nat)(hn:n<L.length)(ih:∀k∈L.st.kids (L.st.root n),zAp s r v L lim cnt rd k):zAp s r v L lim cnt rd n:=by
 intro F l a hs0 hr0 hacc hbd
 have hs:s<F.length:=by obtain⟨x,h,_⟩:=hs0;exact zIc h
 have hr:r<F.length:=by obtain⟨x,h,_⟩:=hr0;exact zIc h
 have hw':Wf (mkL L rd l).st:=by rw[zPY];exact hw
 have hrt:=zUI (v:=v) (L:=mkL L rd l) (lim:=lim) (cnt:=cnt) (rd:=rd) hs hr hne hw' n (by rw[zPW];exact hn)
 rw[zPY]at hrt
 have hrl:L.st.root n<L.length:=by have:=hw.root_lt n (by rw[Mem.zXR];exact hn);rwa[Mem.zXR]at this
 have hrl':L.st.root n<(mkL L rd l).length:=by rw[zPW];exact hrl
 have hg:=zOf hrl'
 rw[zPV hrl]at hg
 have hlk:=hw.look_eq (n:=n) (by rw[Mem.zXR];exact hn) l
 by_cases hin:L.st.root n∈l
 ·rw[if_pos hin]at hg hlk
  rw[hlk]
  refine eE C_ok Try.func133 Try.results133 fun ok=> ?_
  have h:=YAN
  repeat' (first
   |(with_reducible first|apply bA|apply bB|apply bC|apply bD|apply bE|apply bF)<;>intro h
   |((first|apply bG|apply bH);simp only[yP,yQ,W2,hpS,bxS,arS,stP hs hr hne,zTh,zTg,yN,zOg,hrl',hg,zGZ];refine zIB (hrt) (.inl rfl) ?_)
   |refine drA C_ok 2 0 ?_
   |refine drA C_ok 4 0 ?_
   |skip)<;>simp only[h,↓zaL,↓zHC,WY,reduceIte,yA,yB,yC,yD,reduceCtorEq,yE,yF,W1,WS,hpS,bxS,arS,stP hs hr hne,zTh,zTg,yN,zOg,hrl',hg,zGZ]
  exact⟨F,rfl,AccR.refl hacc⟩
 ·rw[if_neg hin]at hg hlk
  have hrl2:L.st.root n<(mkL L rd (l++ [L.st.root n])).length:=by rw[zPW];exact hrl
  have hg2:=zOf hrl2
  rw[zPV hrl,if_pos (by simp)]at hg2
  have e1:((L.getD (L.st.root n) default).2==rd)=false:=by simpa using hold _ hrl
  have hset:(List.map embN (mkL L rd l)).set (L.st.root n) (.agg [.int .i64 (L.getD (L.st.root n) default).1.kind,.int .i64 (L.getD (L.st.root n) default).1.level,.int .i64 (lnk (L.getD (L.st.root n) default).1.link),.sl ((kidI (L.getD (L.st.root n) default).1.kids).map I64) .no,.int .i64 rd])=(mkL L rd (l++ [L.st.root n])).map embN:=by
   rw[<-zPU hrl,List.map_set];rfl
  have hkids:(L.getD (L.st.root n) default).1.kids=L.st.kids (L.st.root n):=by rw[<-L.nd];rfl
  rw[hkids]at hset
  have hml:(mkL L rd (l++ [L.st.root n])).length=(mkL L rd l).length:=by rw[zPW,zPW]
  have hkm:(L.st.kids (L.st.root n)).length<=maxLen:=by
   have:(L.st.kids (L.st.root n)).length<=2:=by
    rcases hw.shape (by rw[Mem.zXR];exact hrl) (hw.zUK n)with ⟨_,_,hc⟩|⟨_,_,hc⟩|⟨i,j,_,hc⟩|⟨i,_,hc⟩<;>rw[hc]<;>simp
   rw[zPC];omega
  rcases hacc with ⟨el,rfl⟩|⟨q,rfl,hq⟩
  ·obtain rfl:l=[]:=by simpa [kidI]using el
   have hacc:zAC 1 F ((kidI []).map I64) (.sl [] .full):= .inl ⟨rfl,rfl⟩
   simp only[List.nil_append]at hset hg2 hml hrl2 hlk
   refine eE C_ok Try.func133 Try.results133 fun ok=> ?_
   have h:=YAN
   repeat' (first
    |(with_reducible first|apply bA|apply bB|apply bC|apply bD|apply bE|apply bF)<;>intro h
    |((first|apply bG|apply bH);simp only[yP,yQ,W2,hpS,bxS,arS,stP hs hr hne,zTh,zTg,yN,zOg,hrl',hg,zGZ,reN,e1,hset,hg2,hrl2,hkids,hml,zMZ,YAK];refine zIB (hrt) (.inl rfl) ?_)
    |refine drA C_ok 2 0 ?_
    |refine drA C_ok 4 0 ?_
    |skip)<;>simp only[h,↓zaL,↓zHC,WY,reduceIte,yA,yB,yC,yD,reduceCtorEq,yE,yF,W1,WS,hpS,bxS,arS,stP hs hr hne,zTh,zTg,yN,zOg,hrl',hg,zGZ,reN,e1,hset,hg2,hrl2,hkids,hml,zMZ,YAK]
   refine zCN [2,51,0,49,50] ?_
   simp only[List.map_cons,List.map_nil,↓zaL,↓zHC,WY,reduceIte,yA,yB,yC,yD,reduceCtorEq,yE,yF,W1,WS]
   refine zJ1 2 (fun x:Nat×AV×List Nat×List AObj=> [(2,x.2.1),(51,.int .i64 x.1)]) (fun x=>hpS x.2.2.2 s r v (mkL L rd x.2.2.1) lim cnt rd) (fun x=>x.1<=(L.st.kids (L.st.root n)).length/\AccR 1 F (.sl [] .full) ((kidI x.2.2.1).map I64) x.2.1 x.2.2.2/\((L.st.kids (L.st.root n)).drop x.1).foldl (fun l k=>L.st.look k l) x.2.2.1=L.st.look n []) (fun x=>(L.st.kids (L.st.root n)).length-x.1) C_ok (0,_,[L.st.root n],_) rfl (by simp only[hpS,bxS,arS,zPW];rfl) ⟨YAX _,by have:=AccR.app0 (sz:=1) (F:=F) (I64 (L.st.root n));simpa [kidI,I64]using this,by rw[hlk];rfl⟩ (by decide) ?_
   rintro⟨i,a1,l1,F1⟩ ⟨hi,h1,h2⟩
   simp only at hi h1 h2
   have hacc1:=AccR.ok hacc h1
   have hb1:=h1.len
   have ns1:=zQO hacc h1 hs0
   have nr1:=zQO hacc h1 hr0
   have hs1:s<F1.length:=by omega
   have hr1:r<F1.length:=by omega
   simp only[List.drop_succ_cons,List.drop_zero,List.cons_append,List.nil_append]
   simp only[↓zaL,↓zHC,WY,reduceIte,yA,yB,yC,yD,reduceCtorEq,yE,yF,W1,WS,hpS,bxS,arS,stP hs1 hr1 hne,zMZ,YAK]
   refine zJv (fun hlt=> ?_) (fun hlt=> ?_)
   ·simp only[↓zaL,↓zHC,WY,reduceIte,yA,yB,yC,yD,reduceCtorEq,yE,yF,W1,WS,hpS,bxS,arS,stP hs1 hr1 hne,hlt,zMZ,zMY hlt,YAK]
    have hmem:(L.st.kids (L.st.root n)).getD i 0∈L.st.kids (L.st.root n):=by simp[hlt]
    have hbk:(L.st.look ((L.st.kids (L.st.root n)).getD i 0) l1).length<=1000000:=by
     have e:(L.st.kids (L.st.root n)).drop i=(L.st.kids (L.st.root n)).getD i 0::(L.st.kids (L.st.root n)).drop (i+1):=by rw[List.drop_eq_getElem_cons hlt];simp[hlt]
     rw[e,List.foldl_cons]at h2
     obtain⟨m,em⟩:=zHt (S:=L.st) ((L.st.kids (L.st.root n)).drop (i+1)) (L.st.look ((L.st.kids (L.st.root n)).getD i 0) l1) fun k hk l=>zNn hw k (hw.zMa (List.mem_of_mem_drop hk)) l
     rw[em]at h2
     have:=congrArg List.length h2
     rw[YAJ]at this
     omega
    refine fsCall (ih _ hmem F1 l1 a1 ns1 nr1 hacc1 hbk) (.inl rfl) fun x G hG hlen=> ?_
    obtain⟨F2,rfl,hx⟩:=hG
    refine⟨fun hbel=>zNj hacc1 hx ns1 nr1 hne hb1 hbel,?_⟩
    have hl2:=hx.len
    have hs2:s<F2.length:=by omega
    have hr2:r<F2.length:=by omega
    simp only[↓zaL,↓zHC,WY,reduceIte,yA,yB,yC,yD,reduceCtorEq,yE,yF,W1,WS,hpS,bxS,arS,stP hs2 hr2 hne]
    refine⟨(i+1,x,L.st.look ((L.st.kids (L.st.root n)).getD i 0) l1,F2),⟨hlt,h1.trans hacc hx,?_⟩,by simp only;omega,zap rfl ?_⟩
    ·rw[<-h2,List.drop_eq_getElem_cons hlt,List.foldl_cons];simp[hlt]
    ·simp only[WK,↓zaL,↓zHC,yA,reduceIte,yN,yO,yR,yP,yQ,yB,yC,zbX hlt hkm]
   ·simp only[↓zaL,↓zHC,WY,reduceIte,yA,yB,yC,yD,reduceCtorEq,yE,yF,W1,WS,hpS,bxS,arS,stP hs1 hr1 hne,zMZ,YAK]
    have hi':i=(L.st.kids (L.st.root n)).length:=by omega
    subst hi'
    rw[List.drop_length]at h2
    simp only[List.foldl_nil]at h2
    subst h2
    exact⟨F1,by simp only[zPW],h1⟩
  ·have hacc:zAC 1 F ((kidI l).map I64) (.sl ((kidI l).map I64) (.own q)):= .inr ⟨q,rfl,hq⟩
   have hql:=zIc hq
   have qs:s≠q:=by
    rintro rfl
    obtain⟨x,h1,h2⟩:=hs0
    rw[hq]at h1;exact h2 _ (Option.some.inj h1).symm
   have qr:r≠q:=by
    rintro rfl
    obtain⟨x,h1,h2⟩:=hr0
    rw[hq]at h1;exact h2 _ (Option.some.inj h1).symm
   rw[YAK,zMZ]at hq
   have f1:∀G bx ar,(stF G s r bx ar)[q]?=G[q]?:=fun _ _ _=>zXC qs qr
   have f2:∀G bx ar x,(stF G s r bx ar).set q x=stF (G.set q x) s r bx ar:=fun _ _ _ _=>zXG qs qr
   have f3:=stP (F:=F.set q (.tok (l.length+1) 1)) (s:=s) (r:=r) (by simpa using hs) (by simpa using hr) hne
   have f4:=zCE (kidI l)
   refine eE C_ok Try.func133 Try.results133 fun ok=> ?_
   have h:=YAN
   repeat' (first
    |(with_reducible first|apply bA|apply bB|apply bC|apply bD|apply bE|apply bF)<;>intro h
    |((first|apply bG|apply bH);simp only[yP,yQ,W2,hpS,bxS,arS,stP hs hr hne,zTh,zTg,yN,zOg,hrl',hg,zGZ,reN,e1,hset,hg2,hrl2,hkids,hml,zMZ,YAK,zLz,f1,f2,f3,f4,hq];refine zIB (hrt) (.inl rfl) ?_)
    |refine drA C_ok 2 0 ?_
    |refine drA C_ok 4 0 ?_
    |skip)<;>simp only[h,↓zaL,↓zHC,WY,reduceIte,yA,yB,yC,yD,reduceCtorEq,yE,yF,W1,WS,hpS,bxS,arS,stP hs hr hne,zTh,zTg,yN,zOg,hrl',hg,zGZ,reN,e1,hset,hg2,hrl2,hkids,hml,zMZ,YAK,zLz,f1,f2,f3,f4,hq]
   have hll:l.length<=999999:=by
    obtain⟨m,em⟩:=zHt (S:=L.st) (L.st.kids (L.st.root n)) (l++ [L.st.root n]) fun k hk l=>zNn hw k (hw.zMa hk) l
    rw[hlk,em]at hbd
    simp only[YAJ,List.length_cons,List.length_nil]at hbd
    omega
   refine⟨⟨by omega,by omega⟩,?_⟩
   refine zCN [2,51,0,49,50] ?_
   simp only[List.map_cons,List.map_nil,↓zaL,↓zHC,WY,reduceIte,yA,yB,yC,yD,reduceCtorEq,yE,yF,W1,WS]
   refine zJ1 2 (fun x:Nat×AV×List Nat×List AObj=> [(2,x.2.1),(51,.int .i64 x.1)]) (fun x=>hpS x.2.2.2 s r v (mkL L rd x.2.2.1) lim cnt rd) (fun x=>x.1<=(L.st.kids (L.st.root n)).length/\AccR 1 F (.sl ((kidI l).map I64) (.own q)) ((kidI x.2.2.1).map I64) x.2.1 x.2.2.2/\((L.st.kids (L.st.root n)).drop x.1).foldl (fun l k=>L.st.look k l) x.2.2.1=L.st.look n l) (fun x=>(L.st.kids (L.st.root n)).length-x.1) C_ok (0,_,l++ [L.st.root n],_) rfl (by simp only[hpS,bxS,arS,zPW];rfl) ⟨YAX _,by have:=AccR.app (sz:=1) (F:=F) (es:=(kidI l).map I64) (q:=q) (I64 (L.st.root n));simpa [kidI,I64]using this,by rw[hlk];rfl⟩ (by decide) ?_
   rintro⟨i,a1,l1,F1⟩ ⟨hi,h1,h2⟩
   simp only at hi h1 h2
   have hacc1:=AccR.ok hacc h1
   have hb1:=h1.len
   have ns1:=zQO hacc h1 hs0
   have nr1:=zQO hacc h1 hr0
   have hs1:s<F1.length:=by omega
   have hr1:r<F1.length:=by omega
   simp only[List.drop_succ_cons,List.drop_zero,List.cons_append,List.nil_append]
   simp only[↓zaL,↓zHC,WY,reduceIte,yA,yB,yC,yD,reduceCtorEq,yE,yF,W1,WS,hpS,bxS,arS,stP hs1 hr1 hne,zMZ,YAK]
   refine zJv (fun hlt=> ?_) (fun hlt=> ?_)
   ·simp only[↓zaL,↓zHC,WY,reduceIte,yA,yB,yC,yD,reduceCtorEq,yE,yF,W1,WS,hpS,bxS,arS,stP hs1 hr1 hne,hlt,zMZ,zMY hlt,YAK]
    have hmem:(L.st.kids (L.st.root n)).getD i 0∈L.st.kids (L.st.root n):=by simp[hlt]
    have hbk:(L.st.look ((L.st.kids (L.st.root n)).getD i 0) l1).length<=1000000:=by
     have e:(L.st.kids (L.st.root n)).drop i=(L.st.kids (L.st.root n)).getD i 0::(L.st.kids (L.st.root n)).drop (i+1):=by rw[List.drop_eq_getElem_cons hlt];simp[hlt]
     rw[e,List.foldl_cons]at h2
     obtain⟨m,em⟩:=zHt (S:=L.st) ((L.st.kids (L.st.root n)).drop (i+1)) (L.st.look ((L.st.kids (L.st.root n)).getD i 0) l1) fun k hk l=>zNn hw k (hw.zMa (List.mem_of_mem_drop hk)) l
     rw[em]at h2
     have:=congrArg List.length h2
     rw[YAJ]at this
     omega
    refine fsCall (ih _ hmem F1 l1 a1 ns1 nr1 hacc1 hbk) (.inl rfl) fun x G hG hlen=> ?_
    obtain⟨F2,rfl,hx⟩:=hG
    refine⟨fun hbel=>zNj hacc1 hx ns1 nr1 hne hb1 hbel,?_⟩
    have hl2:=hx.len
    have hs2:s<F2.length:=by omega
    have hr2:r<F2.length:=by omega
    simp only[↓zaL,↓zHC,WY,reduceIte,yA,yB,yC,yD,reduceCtorEq,yE,yF,W1,WS,hpS,bxS,arS,stP hs2 hr2 hne]
    refine⟨(i+1,x,L.st.look ((L.st.kids (L.st.root n)).getD i 0) l1,F2),⟨hlt,h1.trans hacc hx,?_⟩,by simp only;omega,zap rfl ?_⟩
    ·rw[<-h2,List.drop_eq_getElem_cons hlt,List.foldl_cons];simp[hlt]
    ·simp only[WK,↓zaL,↓zHC,yA,reduceIte,yN,yO,yR,yP,yQ,yB,yC,zbX hlt hkm]
   ·simp only[↓zaL,↓zHC,WY,reduceIte,yA,yB,yC,yD,reduceCtorEq,yE,yF,W1,WS,hpS,bxS,arS,stP hs1 hr1 hne,zMZ,YAK]
    have hi':i=(L.st.kids (L.st.root n)).length:=by omega
    subst hi'
    rw[List.drop_length]at h2
    simp only[List.foldl_nil]at h2
    subst h2
    exact⟨F1,by simp only[zPW],h1⟩
theorem look_ok(hne:r≠s)(hw:Wf L.st)(hold:Old L rd):∀n,n<L.length->zAp s r v L lim cnt rd n:=by
 refine hw.ind (p:=fun n=>n<L.length->zAp s r v L lim cnt rd n) fun n ih hn=>zNp hne hw hold n hn fun k hk=>ih k hk (by have:=hw.zMa hk;rwa[Mem.zXR]at this)
end
end
section
def MB(L:Mem)(rd:Int):Prop:=∀i,i<L.length->(L.getD i default).2<=rd
theorem MB.old{L:Mem}{rd:Int}(h:MB L rd):Old L (rd+1):=fun i hi e=>by have:=h i hi;omega
theorem MB.mk{L:Mem}{rd:Int}(h:MB L rd)(l:List Nat):MB (mkL L (rd+1) l) (rd+1):=fun i hi=>by
 rw[zPW]at hi
 rw[zPV hi]
 split
 ·exact YAQ _
 ·have:=h i hi;omega
theorem zCG{L:Mem}(hw:Wf L.st){n:Nat}(hn:n<L.length):(L.st.all n).length<=L.length:=by
 have h:=hw.zQc (n:=n) (by rw[Mem.zXR];exact hn)
 have hsub:L.st.all n ⊆ List.range L.length:=fun x hx=>by
  rw[List.mem_range]
  have:=((hw.zPE (by rw[Mem.zXR];exact hn)).1 hx).lt hw (by rw[Mem.zXR];exact hn)
  rwa[Mem.zXR]at this
 have:=h.length_le_of_subset hsub
 simpa using this
section
variable {F : List AObj} {s r v : Nat} {L : Mem} {lim cnt rd : Int}
theorem zXJ{bx ar:AObj}(hs:s<F.length)(hr:r<F.length)(hne:r≠s):stF (stF F s r bx ar) s r bx ar=stF F s r bx ar:=by
 have e1:=zXF (bx:=bx) (ar:=ar) hs hne
 have e2:=zXE (s:=s) (bx:=bx) (ar:=ar) hr
 conv=>lhs;unfold stF
 unfold stF at e1 e2⊢
 rw[zVm e1,zVm e2]
theorem zXD{bx ar bx' ar':AObj}(hne:r≠s):stF (stF F s r bx ar) s r bx' ar'=stF F s r bx' ar':=by
 unfold stF
 rw[List.set_comm _ _ hne,List.set_set,List.set_set]
theorem zUT(hs:s<F.length)(hr:r<F.length)(hne:r≠s)(hw:Wf L.st)(hm:MB L rd)(hL:L.length<=1000000)(hrd:0<=rd/\rd<=1000000000000)(n:Nat)(hn:n<L.length):
 DCalls Try.prog 84 [.bptr s 0,.int .i64 n] (hpS F s r v L lim cnt rd) (.sl ((kidI (L.st.all n)).map I64) .no) (hpS F s r v (mkL L (rd+1) (L.st.all n)) lim cnt (rd+1)):=by
 have w1:IntKind.wrap .i64 (rd+1)=rd+1:=zbT (by omega) (by omega)
 have hlen:(hpS F s r v L lim cnt (rd+1)).length=F.length:=zXB
 have hB:hpS (hpS F s r v L lim cnt (rd+1)) s r v (mkL L (rd+1) []) lim cnt (rd+1)=hpS F s r v L lim cnt (rd+1):=by
  rw[zPX];exact zXJ hs hr hne
 have hlk:=look_ok (v:=v) (lim:=lim) (cnt:=cnt) hne hw hm.old n hn (hpS F s r v L lim cnt (rd+1)) [] (.sl [] .full) ⟨_,zXF hs hne,fun m=>by simp[bxS]⟩ ⟨_,zXE hr,fun m=>by simp[arS]⟩ (.inl ⟨rfl,rfl⟩) (Nat.le_trans (zCG hw hn) hL)
 rw[hB]at hlk
 unfold DCalls
 refine eD C_ok Try.func84 Try.results84 fun ok=> ?_
 have h:=YAN
 repeat' (first
  |(with_reducible first|apply bA|apply bB|apply bC|apply bD|apply bE|apply bF)<;>intro h
  |skip)<;>simp only[h,↓zaL,↓zHC,WY,reduceIte,yA,yB,yC,yD,reduceCtorEq,yE,yF,W1,WS,hpS,bxS,arS,stP hs hr hne,zTh,zTg,yN,zOg,w1]
 refine fsCall hlk (.inl rfl) fun x G hG hlen=> ?_
 obtain⟨F',rfl,hx⟩:=hG
 obtain⟨hxn,J,rfl⟩:=hx.out
 rw[zLz]at hxn
 have hG:∀(v':Nat) (M:Mem) (a b c:Int),hpS (hpS F s r v L lim cnt (rd+1)++J) s r v' M a b c=hpS (F++J) s r v' M a b c:=fun v' M a b c=>by
  unfold hpS
  rw[zW9 hs hr,zXD hne]
 rw[hG]
 refine⟨fun hbel=> ?_,?_⟩
 ·rw[show F.length=F.length from rfl]
  have e:(hpS (F++J) s r v (mkL L (rd+1) (L.st.look n [])) lim cnt (rd+1)).take F.length=hpS F s r v (mkL L (rd+1) (L.st.look n [])) lim cnt (rd+1):=zXK hs hr
  have e2:∀bx ar,(stF F s r bx ar).take F.length=stF F s r bx ar:=fun bx ar=>by rw[List.take_of_length_le];simp
  rw[e]
  have:=zLV (v:=v) (v':=v) (L:=L) (L':=mkL L (rd+1) (L.st.look n [])) (lim:=lim) (lim':=lim) (cnt:=cnt) (cnt':=cnt) (rd:=rd+1) (rd':=rd+1) (b:=F.length) hs hr hne hbel
  rw[show(hpS F s r v (mkL L (rd+1) (L.st.look n [])) lim cnt (rd+1)).take F.length=_ from e2 _ _]at this
  exact this
 ·simp only[↓zaL,↓zHC,WY,reduceIte,yA,yB,yC,yD,reduceCtorEq,yE,yF,W1,WS,hpS,bxS,arS,stP hs hr hne,zTh,zTg,yN,zOg,hxn,zLy]
  exact⟨rfl,rfl⟩
end
end
section
def zHh:List Int->Int->Int->Int
 | [],_,_=> -1
 |x::l,n,i=>if n=x then i else zHh l n (i+1)
theorem zHi:∀(l:List Int) (n i:Int),0<=i->(0<=zHh l n i ↔ n∈l)
 | [],n,i,_=>by simp[zHh]
 |x::l,n,i,h=>by
  rw[zHh]
  split
  ·rename_i e;subst e;simp[h]
  ·rename_i e;rw[zHi l n (i+1) (by omega)];simp[e]
theorem zLd(l:List Int)(n:Int):zA0 Try.prog 134 [.sl (l.map I64) .no,.int .i64 n] (.int .i64 (zHh l n 0)):=by
 refine eP C_ok Try.func134 Try.results134 fun ok H=> ?_
 have hmax:l.length<=maxLen:=by
  have:=ok.1;simp only[AV.okay,YAK]at this;exact this.1
 have h:=YAN
 repeat' (first
  |(with_reducible first|apply bA|apply bB|apply bC|apply bD|apply bE|apply bF)<;>intro h
  |skip)<;>simp only[h,↓zaL,↓zHC,WZ,reduceIte,yA,yB,yC,yD,reduceCtorEq,yE,yF,W1,YAK]
 refine aloop_trim [8,0,1,7] ?_
 simp only[List.map_cons,List.map_nil,↓zaL,↓zHC,WZ,reduceIte,yA,yB,yC,yD,reduceCtorEq,yE,yF,W1]
 refine zJ3 1 (fun i:Nat=> [(8,.int .i64 i)]) (fun _=>_) (fun i=>i<=l.length/\zHh (l.drop i) n i=zHh l n 0) (fun i=>l.length-i) C_ok 0 rfl rfl ⟨YAX _,rfl⟩ (by decide) ?_
 rintro i ⟨hi,hall⟩
 simp only[List.drop_succ_cons,List.drop_zero,List.cons_append,List.nil_append]
 simp only[↓zaL,↓zHC,WZ,reduceIte,yA,yB,yC,yD,reduceCtorEq,yE,yF,W1]
 refine zJv (fun hlt=> ?_) (fun hlt=> ?_)
 ·have hd:l.drop i=l.getD i 0::l.drop (i+1):=by rw[List.drop_eq_getElem_cons hlt];simp[hlt]
  rw[hd,zHh]at hall
  by_cases e:n=l.getD i 0
  ·rw[if_pos e]at hall
   have e1:(n==l.getD i 0)=true:=by simpa using e
   rw[<-hall]
   have h:=YAN
   repeat' (first
    |(with_reducible first|apply bA|apply bB|apply bC|apply bD|apply bE|apply bF)<;>intro h
    |skip)<;>simp only[h,↓zaL,↓zHC,WZ,reduceIte,yA,yB,yC,yD,reduceCtorEq,yE,yF,W1,hlt,zOt hlt,zLY,e1,YAK]
  ·rw[if_neg e]at hall
   have e1:(n==l.getD i 0)=false:=by simpa using e
   have h:=YAN
   repeat' (first
    |(with_reducible first|apply bA|apply bB|apply bC|apply bD|apply bE|apply bF)<;>intro h
    |skip)<;>simp only[h,↓zaL,↓zHC,WZ,reduceIte,yA,yB,yC,yD,reduceCtorEq,yE,yF,W1,hlt,zOt hlt,zLY,e1,YAK]
   refine⟨i+1,⟨hlt,by rw[<-hall];simp⟩,by omega,zas rfl rfl rfl rfl ?_ ?_ ?_⟩
   all_goals simp only[WK,↓zaL,↓zHC,yA,reduceIte,yN,yO,yR,yP,yQ,yB,yC,zbX hlt hmax,zLy,yO,YAK]
 ·simp only[↓zaL,↓zHC,WZ,reduceIte,yA,yB,yC,yD,reduceCtorEq,yE,yF,W1]
  rw[List.drop_of_length_le (by omega)]at hall
  rw[<-hall];rfl
theorem zFI(l:List Int)(n:Int):zA0 Try.prog 88 [.sl (l.map I64) .no,.int .i64 n] (.bool (decide (n∈l))):=by
 have e:decide (zHh l n 0≥0)=decide (n∈l):=by rw[decide_eq_decide];exact zHi l n 0 (by omega)
 refine eP C_ok Try.func88 Try.results88 fun ok H=> ?_
 have h:=YAN
 repeat' (first
  |(with_reducible first|apply bA|apply bB|apply bC|apply bD|apply bE|apply bF)<;>intro h
  |((first|apply bG|apply bH);simp only[yP,yQ,W2,zLz,e];first|refine zIf (zLd _ _) (.inl rfl) ?_|refine zIj (zLd _ _) (.inl rfl) ?_)
  |skip)<;>simp only[h,↓zaL,↓zHC,WZ,reduceIte,yA,yB,yC,yD,reduceCtorEq,yE,yF,W1,zLz,e]
theorem zPF{l:List Nat}{n:Nat}:((n:Int)∈kidI l) ↔ n∈l:=by
 rw[kidI,List.mem_map]
 constructor
 ·rintro⟨a,h,e⟩
  have:a=n:=by omega
  exact this▸h
 ·intro h;exact⟨n,h,rfl⟩
section
variable {F : List AObj} {s r v : Nat} {L : Mem} {lim cnt rd : Int}
theorem zMI(hs:s<F.length)(hr:r<F.length)(hne:r≠s){n:Nat}(hn:n<L.length):DCalls Try.prog 83 [.bptr s 0,.int .i64 n] (hpS F s r v L lim cnt rd) (.bool true) (hpS F s r v L lim cnt rd):=by
 have:=zMH (v:=v) (L:=L) (lim:=lim) (cnt:=cnt) (rd:=rd) hs hr hne (n:Int)
 rwa[show(decide (0<=(n:Int))&&decide ((n:Int)<L.length))=true by simp;omega]at this
theorem za1(hs:s<F.length)(hr:r<F.length)(hne:r≠s)(hw:Wf L.st)(hm:MB L rd)(hL:L.length<=1000000)(hrd:0<=rd/\rd<=1000000000000)(a n:Nat)(ha:a<L.length)(hn:n<L.length):
 DCalls Try.prog 28 [.bptr s 0,.int .i64 a,.int .i64 n] (hpS F s r v L lim cnt rd) (.bool (decide (L.st.root a∈L.st.all n))) (hpS F s r v (mkL L (rd+1) (L.st.all n)) lim cnt (rd+1)):=by
 have q1:=zMI (v:=v) (L:=L) (lim:=lim) (cnt:=cnt) (rd:=rd) hs hr hne ha
 have q2:=zMI (v:=v) (L:=L) (lim:=lim) (cnt:=cnt) (rd:=rd) hs hr hne hn
 have q3:=zUT (v:=v) (lim:=lim) (cnt:=cnt) hs hr hne hw hm hL hrd n hn
 have q4:=zUI (v:=v) (L:=mkL L (rd+1) (L.st.all n)) (lim:=lim) (cnt:=cnt) (rd:=rd+1) hs hr hne (by rw[zPY];exact hw) a (by rw[zPW];exact ha)
 rw[zPY]at q4
 have q5:=zFI (kidI (L.st.all n)) (L.st.root a)
 rw[show decide ((L.st.root a:Int)∈kidI (L.st.all n))=decide (L.st.root a∈L.st.all n)by rw[decide_eq_decide];exact zPF]at q5
 unfold DCalls
 refine eD C_ok Try.func28 Try.results28 fun ok=> ?_
 have h:=YAN
 repeat' (first
  |(with_reducible first|apply bA|apply bB|apply bC|apply bD|apply bE|apply bF)<;>intro h
  |((first|apply bG|apply bH);simp only[yP,yQ,W2,hpS,bxS,arS,stP hs hr hne,zTh,zTg,yN,zOg,zLz];first|refine zIf (q5) (.inl rfl) ?_|refine zIj (q5) (.inl rfl) ?_|refine zIB (q1) (.inl rfl) ?_|refine zIB (q2) (.inl rfl) ?_|refine zIA (q3) (.inl rfl) (fun hb=>zLV (by first|exact hs|simp<;>omega) (by first|exact hr|simp<;>omega) hne hb) ?_|refine zIB (q4) (.inl rfl) ?_)
  |skip)<;>simp only[h,↓zaL,↓zHC,WY,reduceIte,yA,yB,yC,yD,reduceCtorEq,yE,yF,W1,WS,hpS,bxS,arS,stP hs hr hne,zTh,zTg,yN,zOg,zLz]
def accV(b:Nat)(l:List Nat):AV:=if l=[]then .sl [] .full else .sl ((kidI l).map I64) (.own b)
def tokV(l:List Nat):List AObj:=if l=[]then []else [.tok l.length 1]
theorem zBW{b:Nat}{l:List Nat}(h:l≠[]):accV b l= .sl ((kidI l).map I64) (.own b):=if_neg h
theorem zYZ{l:List Nat}(h:l≠[]):tokV l=[.tok l.length 1]:=if_neg h
theorem zYP{al:List Nat}{i:Nat}(h:i<al.length)(p:Nat->Bool):(al.take (i+1)).filter p=(al.take i).filter p++if p (al.getD i 0)=true then [al.getD i 0]else []:=by
 rw[List.take_add_one,YAI h,Option.toList_some,List.filter_append]
 simp only[List.filter_cons,List.filter_nil]
 simp[h]
theorem zag(hs:s<F.length)(hr:r<F.length)(hne:r≠s)(hw:Wf L.st)(hm:MB L rd)(hL:L.length<=1000000)(hrd:0<=rd/\rd<=1000000000000)(n:Nat)(hn:n<L.length):
 DCalls Try.prog 23 [.bptr s 0,.int .i64 n] (hpS F s r v L lim cnt rd) (.sl ((kidI (L.st.vars n)).map I64) .no) (hpS F s r v (mkL L (rd+1) (L.st.all n)) lim cnt (rd+1)):=by
 have q2:=zMI (v:=v) (L:=L) (lim:=lim) (cnt:=cnt) (rd:=rd) hs hr hne hn
 have q3:=zUT (v:=v) (lim:=lim) (cnt:=cnt) hs hr hne hw hm hL hrd n hn
 have hal:(L.st.all n).length<=1000000:=Nat.le_trans (zCG hw hn) hL
 have hmem:∀x∈L.st.all n,x<(mkL L (rd+1) (L.st.all n)).length:=fun x hx=>by
  rw[zPW]
  have:=((hw.zPE (by rw[Mem.zXR];exact hn)).1 hx).lt hw (by rw[Mem.zXR];exact hn)
  rwa[Mem.zXR]at this
 have hkd:∀x,((mkL L (rd+1) (L.st.all n)).getD x default).1.kind=L.st.kind x:=fun x=>by
  rw[<-Mem.nd,zPY];rfl
 have hvars:L.st.vars n=(L.st.all n).filter fun m=>decide (L.st.kind m=6):=rfl
 rw[hvars]
 generalize hM:mkL L (rd+1) (L.st.all n)=M at*
 generalize L.st.all n=al at*
 have hmax:al.length<=maxLen:=by rw[zPC];omega
 unfold DCalls
 refine eD C_ok Try.func23 Try.results23 fun ok=> ?_
 have h:=YAN
 repeat' (first
  |(with_reducible first|apply bA|apply bB|apply bC|apply bD|apply bE|apply bF)<;>intro h
  |((first|apply bG|apply bH);simp only[yP,yQ,W2,hpS,bxS,arS,stP hs hr hne,zTh,zTg,yN,zOg,zLz,zMZ,YAK];first|refine zIB (q2) (.inl rfl) ?_|refine zIA (q3) (.inl rfl) (fun hb=>zLV (by first|exact hs|simp<;>omega) (by first|exact hr|simp<;>omega) hne hb) ?_)
  |skip)<;>simp only[h,↓zaL,↓zHC,WY,reduceIte,yA,yB,yC,yD,reduceCtorEq,yE,yF,W1,WS,hpS,bxS,arS,stP hs hr hne,zTh,zTg,yN,zOg,zLz,zMZ,YAK]
 refine zCN [5,16,0,14,15] ?_
 simp only[List.map_cons,List.map_nil,↓zaL,↓zHC,WY,reduceIte,yA,yB,yC,yD,reduceCtorEq,yE,yF,W1,WS]
 refine zJ1 2 (fun x:Nat×List Nat=> [(5,accV F.length x.2),(16,.int .i64 x.1)]) (fun x=>hpS (F++tokV x.2) s r v M lim cnt (rd+1)) (fun x=>x.1<=al.length/\x.2=(al.take x.1).filter fun m=>decide (L.st.kind m=6)) (fun x=>al.length-x.1) C_ok (0,[]) rfl (by simp[tokV,hpS,bxS,arS]) ⟨YAX _,rfl⟩ (by decide) ?_
 rintro⟨i,l1⟩ ⟨hi,h1⟩
 simp only at hi h1
 simp only[List.drop_succ_cons,List.drop_zero,List.cons_append,List.nil_append]
 by_cases hlt:i<al.length
 ·have hmm:al.getD i 0∈al:=by simp[hlt]
  have hml:=hmem _ hmm
  have hk:=hkd (al.getD i 0)
  have htf:=zYP hlt fun m=>decide (L.st.kind m=6)
  rw[<-h1]at htf
  by_cases h6:L.st.kind (al.getD i 0)=6
  ·have e6:(L.st.kind (al.getD i 0)==6)=true:=by rw[beq_iff_eq];exact h6
   simp only[h6,decide_true,if_true]at htf
   by_cases hl:l1=[]
   ·subst hl
    simp only[accV,tokV,if_true,List.append_nil]
    have h:=YAN
    repeat' (first
     |(with_reducible first|apply bA|apply bB|apply bC|apply bD|apply bE|apply bF)<;>intro h
     |skip)<;>simp only[h,↓zaL,↓zHC,WY,reduceIte,yA,yB,yC,yD,reduceCtorEq,yE,yF,W1,WS,hpS,bxS,arS,stP hs hr hne,zTh,zTg,yN,zOg,hlt,zMZ,YAK,zMY hlt,hml,zOf hml,zGZ,hk,e6]
    refine⟨(i+1,[al.getD i 0]),⟨hlt,by rw[htf];rfl⟩,by simp only;omega,zap ?_ ?_⟩
    ·simp[tokV]
    ·simp only[WK,↓zaL,↓zHC,yA,reduceIte,yN,yO,yR,yP,yQ,yB,yC,zbX hlt hmax]
     exact .inl (by rw[if_neg (by simp)];rfl)
   ·rw[zBW hl,zYZ hl]
    have b1:l1.length<=999999:=by
     have k1:l1.length<=(al.take i).length:=by rw[h1];exact List.length_filter_le _ _
     rw[List.length_take]at k1
     omega
    have b2:(l1.length+1<=9223372036854775807)=True:=by simp only[YAb,iff_true];omega
    have b3:((l1.length+1)*8<=140737488355328)=True:=by simp only[YAb,iff_true];omega
    have h:=YAN
    repeat' (first
     |(with_reducible first|apply bA|apply bB|apply bC|apply bD|apply bE|apply bF)<;>intro h
     |skip)<;>simp only[h,↓zaL,↓zHC,WY,reduceIte,yA,yB,yC,yD,reduceCtorEq,yE,yF,W1,WS,hpS,bxS,arS,stP hs hr hne,zTh,zTg,yN,zOg,hlt,zMZ,YAK,zMY hlt,hml,zOf hml,zGZ,hk,e6,b2,b3,zCE (kidI l1),List.getElem?_cons_zero,List.set_cons_zero]
    refine⟨(i+1,l1++ [al.getD i 0]),⟨hlt,by rw[htf]⟩,by simp only;omega,zap ?_ ?_⟩
    ·simp only[zYZ (l:=l1++ [al.getD i 0]) (by simp),YAJ,List.length_cons,List.length_nil]
    ·simp only[WK,↓zaL,↓zHC,yA,reduceIte,yN,yO,yR,yP,yQ,yB,yC,zbX hlt hmax]
     exact .inl (by rw[zBW (by simp),zMX])
  ·have e6:(L.st.kind (al.getD i 0)==6)=false:=by rw[YAZ];exact h6
   simp only[h6,decide_false,YAB,if_false,List.append_nil]at htf
   by_cases hl:l1=[]
   ·subst hl
    simp only[accV,tokV,if_true,List.append_nil]
    have h:=YAN
    repeat' (first
     |(with_reducible first|apply bA|apply bB|apply bC|apply bD|apply bE|apply bF)<;>intro h
     |skip)<;>simp only[h,↓zaL,↓zHC,WY,reduceIte,yA,yB,yC,yD,reduceCtorEq,yE,yF,W1,WS,hpS,bxS,arS,stP hs hr hne,zTh,zTg,yN,zOg,hlt,zMZ,YAK,zMY hlt,hml,zOf hml,zGZ,hk,e6]
    refine⟨(i+1,[]),⟨hlt,by rw[htf]⟩,by simp only;omega,zap ?_ ?_⟩
    ·simp[tokV]
    ·simp only[WK,↓zaL,↓zHC,yA,reduceIte,yN,yO,yR,yP,yQ,yB,yC,zbX hlt hmax]
   ·rw[zBW hl,zYZ hl]
    have h:=YAN
    repeat' (first
     |(with_reducible first|apply bA|apply bB|apply bC|apply bD|apply bE|apply bF)<;>intro h
     |skip)<;>simp only[h,↓zaL,↓zHC,WY,reduceIte,yA,yB,yC,yD,reduceCtorEq,yE,yF,W1,WS,hpS,bxS,arS,stP hs hr hne,zTh,zTg,yN,zOg,hlt,zMZ,YAK,zMY hlt,hml,zOf hml,zGZ,hk,e6]
    refine⟨(i+1,l1),⟨hlt,by rw[htf]⟩,by simp only;omega,zap ?_ ?_⟩
    ·simp only[zYZ hl]
    ·simp only[WK,↓zaL,↓zHC,yA,reduceIte,yN,yO,yR,yP,yQ,yB,yC,zbX hlt hmax]
     exact .inl (by rw[zBW hl])
 ·have hi':i=al.length:=by omega
  subst hi'
  rw[List.take_length]at h1
  rw[<-h1]
  by_cases hl:l1=[]
  ·subst hl
   simp only[accV,tokV,if_true,List.append_nil]
   have h:=YAN
   repeat' (first
    |(with_reducible first|apply bA|apply bB|apply bC|apply bD|apply bE|apply bF)<;>intro h
    |skip)<;>simp only[h,↓zaL,↓zHC,WY,reduceIte,yA,yB,yC,yD,reduceCtorEq,yE,yF,W1,WS,hpS,bxS,arS,stP hs hr hne,zTh,zTg,yN,zOg,zMZ,YAK,Nat.lt_irrefl,Int.lt_irrefl]
   exact⟨rfl,rfl⟩
  ·rw[zBW hl,zYZ hl]
   have h:=YAN
   repeat' (first
    |(with_reducible first|apply bA|apply bB|apply bC|apply bD|apply bE|apply bF)<;>intro h
    |skip)<;>simp only[h,↓zaL,↓zHC,WY,reduceIte,yA,yB,yC,yD,reduceCtorEq,yE,yF,W1,WS,hpS,bxS,arS,stP hs hr hne,zTh,zTg,yN,zOg,zMZ,YAK,Nat.lt_irrefl,Int.lt_irrefl,zLz,zLy]
end
end
section
def low1(L:Mem)(lv:Int)(x:Nat):Mem:=L.set x ({(L.getD x default).1 with level:=if lv<(L.getD x default).1.level then lv else(L.getD x default).1.level},(L.getD x default).2)
def lowL(L:Mem)(lv:Int)(vs:List Nat):Mem:=vs.foldl (fun L x=>low1 L lv x) L
theorem zNq(L:Mem)(lv:Int)(x:Nat):(low1 L lv x).length=L.length:=by simp[low1]
theorem zNt(lv:Int):∀(vs:List Nat) (L:Mem),(lowL L lv vs).length=L.length
 | [],L=>rfl
 |x::vs,L=>by show(lowL (low1 L lv x) lv vs).length=_;rw[zNt,zNq]
theorem zNw{L:Mem}{lv:Int}{vs:List Nat}{i:Nat}(h:i<vs.length):low1 (lowL L lv (vs.take i)) lv (vs.getD i 0)=lowL L lv (vs.take (i+1)):=by
 rw[List.take_add_one,YAI h,Option.toList_some]
 simp only[lowL,List.foldl_append,List.foldl_cons,List.foldl_nil]
 simp[h]
section
variable {F : List AObj} {s r v : Nat} {L : Mem} {lim cnt rd : Int}
theorem zaf(hw:Wf L.st){n:Nat}(hn:n<L.length):∀x∈L.st.vars n,x<L.length:=fun x hx=>by
 have:=((hw.zPJ (by rw[Mem.zXR];exact hn)).1 hx).1.lt hw (by rw[Mem.zXR];exact hn)
 rwa[Mem.zXR]at this
theorem zN1(hs:s<F.length)(hr:r<F.length)(hne:r≠s)(hw:Wf L.st)(hm:MB L rd)(hL:L.length<=1000000)(hrd:0<=rd/\rd<=1000000000000)(n:Nat)(hn:n<L.length)(lv:Int):
 DCalls Try.prog 86 [.bptr s 0,.int .i64 n,.int .i64 lv] (hpS F s r v L lim cnt rd) (.tup []) (hpS F s r v (lowL (mkL L (rd+1) (L.st.all n)) lv (L.st.vars n)) lim cnt (rd+1)):=by
 have q:=zag (v:=v) (lim:=lim) (cnt:=cnt) hs hr hne hw hm hL hrd n hn
 have hvl:(L.st.vars n).length<=1000000:=Nat.le_trans (List.length_filter_le _ _) (Nat.le_trans (zCG hw hn) hL)
 have hlt':=zaf hw hn
 have hML:(mkL L (rd+1) (L.st.all n)).length=L.length:=zPW _ _ _
 generalize mkL L (rd+1) (L.st.all n)=M at*
 generalize L.st.vars n=vs at*
 have hmax:vs.length<=maxLen:=by rw[zPC];omega
 unfold DCalls
 refine eD C_ok Try.func86 Try.results86 fun ok=> ?_
 have h:=YAN
 repeat' (first
  |(with_reducible first|apply bA|apply bB|apply bC|apply bD|apply bE|apply bF)<;>intro h
  |((first|apply bG|apply bH);simp only[yP,yQ,W2,hpS,bxS,arS,stP hs hr hne,zTh,zTg,yN,zOg,zLz,zMZ,YAK];refine zIA (q) (.inl rfl) (fun hb=>zLV (by first|exact hs|simp<;>omega) (by first|exact hr|simp<;>omega) hne hb) ?_)
  |refine drA C_ok 3 0 ?_
  |skip)<;>simp only[h,↓zaL,↓zHC,WY,reduceIte,yA,yB,yC,yD,reduceCtorEq,yE,yF,W1,WS,hpS,bxS,arS,stP hs hr hne,zTh,zTg,yN,zOg,zLz,zMZ,YAK]
 refine zCN [12,0,2,10,11] ?_
 simp only[List.map_cons,List.map_nil,↓zaL,↓zHC,WY,reduceIte,yA,yB,yC,yD,reduceCtorEq,yE,yF,W1,WS]
 refine zJ1 1 (fun i:Nat=> [(12,.int .i64 i)]) (fun i=>hpS F s r v (lowL M lv (vs.take i)) lim cnt (rd+1)) (fun i=>i<=vs.length) (fun i=>vs.length-i) C_ok 0 rfl rfl (YAX _) (by decide) ?_
 rintro i hi
 simp only[List.drop_succ_cons,List.drop_zero,List.cons_append,List.nil_append]
 by_cases hlt:i<vs.length
 ·have hml:vs.getD i 0<(lowL M lv (vs.take i)).length:=by rw[zNt,hML];exact hlt' _ (by simp[hlt])
  have ht:=zNw (L:=M) (lv:=lv) hlt
  have hset:((lowL M lv (vs.take i)).map embN).set (vs.getD i 0) (.agg [.int .i64 ((lowL M lv (vs.take i)).getD (vs.getD i 0) default).1.kind,.int .i64 (if lv<((lowL M lv (vs.take i)).getD (vs.getD i 0) default).1.level then lv else((lowL M lv (vs.take i)).getD (vs.getD i 0) default).1.level),.int .i64 (lnk ((lowL M lv (vs.take i)).getD (vs.getD i 0) default).1.link),.sl ((kidI ((lowL M lv (vs.take i)).getD (vs.getD i 0) default).1.kids).map I64) .no,.int .i64 ((lowL M lv (vs.take i)).getD (vs.getD i 0) default).2])=(lowL M lv (vs.take (i+1))).map embN:=by
   rw[<-ht,low1,List.map_set];rfl
  have hl2:(lowL M lv (vs.take (i+1))).length=(lowL M lv (vs.take i)).length:=by rw[zNt,zNt]
  generalize hX':lowL M lv (vs.take (i+1))=X' at*
  generalize hX:lowL M lv (vs.take i)=X at*
  have h:=YAN
  repeat' (first
   |(with_reducible first|apply bA|apply bB|apply bC|apply bD|apply bE|apply bF)<;>intro h
   |refine drA C_ok 3 0 ?_
   |skip)<;>simp only[h,↓zaL,↓zHC,WY,reduceIte,yA,yB,yC,yD,reduceCtorEq,yE,yF,W1,WS,hpS,bxS,arS,stP hs hr hne,zTh,zTg,yN,zOg,hlt,zMZ,YAK,zMY hlt,hml,zOf hml,zGZ,reN,hset]
  refine⟨i+1,hlt,by omega,zap ?_ ?_⟩
  ·rw[hX',hl2]
  ·simp only[WK,↓zaL,↓zHC,yA,reduceIte,yN,yO,yR,yP,yQ,yB,yC,zbX hlt hmax]
 ·have hi':i=vs.length:=by omega
  subst hi'
  have h:=YAN
  repeat' (first
   |(with_reducible first|apply bA|apply bB|apply bC|apply bD|apply bE|apply bF)<;>intro h
   |refine drA C_ok 3 0 ?_
   |skip)<;>simp only[h,↓zaL,↓zHC,WY,reduceIte,yA,yB,yC,yD,reduceCtorEq,yE,yF,W1,WS,hpS,bxS,arS,stP hs hr hne,zTh,zTg,yN,zOg,zMZ,YAK,Nat.lt_irrefl,Int.lt_irrefl,List.take_length,yO]
  exact⟨rfl,rfl⟩
theorem zoe(hs:s<F.length)(hr:r<F.length)(hne:r≠s)(hw:Wf L.st)(a n:Nat)(ha:a<L.length)(hn:n<L.length)(h:L.st.kind (L.st.root a)≠6\/L.st.root a=L.st.root n):
 DCalls Try.prog 25 [.bptr s 0,.int .i64 a,.int .i64 n] (hpS F s r v L lim cnt rd) (.int .i64 1) (hpS F s r v L lim cnt rd):=by
 have q1:=zUI (v:=v) (lim:=lim) (cnt:=cnt) (rd:=rd) hs hr hne hw a ha
 have q2:=zUI (v:=v) (lim:=lim) (cnt:=cnt) (rd:=rd) hs hr hne hw n hn
 have hrl:L.st.root a<L.length:=by have:=hw.root_lt a (by rw[Mem.zXR];exact ha);rwa[Mem.zXR]at this
 have hk:(L.getD (L.st.root a) default).1.kind=L.st.kind (L.st.root a):=by rw[<-L.nd];rfl
 generalize L.st.root a=x at*
 generalize L.st.root n=y at*
 have e0:((x:Int)<0)=False:=by simp only[YAb,iff_false];omega
 have e1:((y:Int)<0)=False:=by simp only[YAb,iff_false];omega
 unfold DCalls
 by_cases h6:L.st.kind x=6
 ·have e2:(L.st.kind x !=6)=false:=by simp[h6]
  have e3:((x:Int)==(y:Int))=true:=by rw[h.resolve_left (fun h=>h h6)];exact beq_self_eq_true _
  refine eD C_ok Try.func25 Try.results25 fun ok=> ?_
  have h:=YAN
  repeat' (first
   |(with_reducible first|apply bA|apply bB|apply bC|apply bD|apply bE|apply bF)<;>intro h
   |((first|apply bG|apply bH);simp only[yP,yQ,W2,hpS,bxS,arS,stP hs hr hne,zTh,zTg,yN,zOg,e0,e1,e2,e3,hk,hrl,zOf hrl,zGZ];first|refine zIB (q1) (.inl rfl) ?_|refine zIB (q2) (.inl rfl) ?_)
   |skip)<;>simp only[h,↓zaL,↓zHC,WY,reduceIte,yA,yB,yC,yD,reduceCtorEq,yE,yF,W1,WS,hpS,bxS,arS,stP hs hr hne,zTh,zTg,yN,zOg,e0,e1,e2,e3,hk,hrl,zOf hrl,zGZ]
 ·have e2:(L.st.kind x !=6)=true:=by simp[h6]
  refine eD C_ok Try.func25 Try.results25 fun ok=> ?_
  have h:=YAN
  repeat' (first
   |(with_reducible first|apply bA|apply bB|apply bC|apply bD|apply bE|apply bF)<;>intro h
   |((first|apply bG|apply bH);simp only[yP,yQ,W2,hpS,bxS,arS,stP hs hr hne,zTh,zTg,yN,zOg,e0,e1,e2,hk,hrl,zOf hrl,zGZ];first|refine zIB (q1) (.inl rfl) ?_|refine zIB (q2) (.inl rfl) ?_)
   |skip)<;>simp only[h,↓zaL,↓zHC,WY,reduceIte,yA,yB,yC,yD,reduceCtorEq,yE,yF,W1,WS,hpS,bxS,arS,stP hs hr hne,zTh,zTg,yN,zOg,e0,e1,e2,hk,hrl,zOf hrl,zGZ]
theorem zNT(hs:s<F.length)(hr:r<F.length)(hne:r≠s)(hw:Wf L.st)(hm:MB L rd)(hL:L.length<=1000000)(hrd:0<=rd/\rd<=1000000000000)(a n:Nat)(ha:a<L.length)(hn:n<L.length)(h6:L.st.kind (L.st.root a)=6)(hxy:L.st.root a≠L.st.root n)(hin:L.st.root a∈L.st.all (L.st.root n)):
 DCalls Try.prog 25 [.bptr s 0,.int .i64 a,.int .i64 n] (hpS F s r v L lim cnt rd) (.int .i64 5) (hpS F s r v (mkL L (rd+1) (L.st.all (L.st.root n))) lim cnt (rd+1)):=by
 have q1:=zUI (v:=v) (lim:=lim) (cnt:=cnt) (rd:=rd) hs hr hne hw a ha
 have q2:=zUI (v:=v) (lim:=lim) (cnt:=cnt) (rd:=rd) hs hr hne hw n hn
 have hrl:L.st.root a<L.length:=by have:=hw.root_lt a (by rw[Mem.zXR];exact ha);rwa[Mem.zXR]at this
 have hrl2:L.st.root n<L.length:=by have:=hw.root_lt n (by rw[Mem.zXR];exact hn);rwa[Mem.zXR]at this
 have q3:=za1 (v:=v) (lim:=lim) (cnt:=cnt) hs hr hne hw hm hL hrd (L.st.root a) (L.st.root n) hrl hrl2
 rw[hw.zUQ,decide_eq_true hin]at q3
 have hk:(L.getD (L.st.root a) default).1.kind=L.st.kind (L.st.root a):=by rw[<-L.nd];rfl
 have e2:(L.st.kind (L.st.root a) !=6)=false:=by simp[h6]
 clear hin
 generalize L.st.root a=x at*
 generalize L.st.root n=y at*
 have e0:((x:Int)<0)=False:=by simp only[YAb,iff_false];omega
 have e1:((y:Int)<0)=False:=by simp only[YAb,iff_false];omega
 have e3:((x:Int)==(y:Int))=false:=by rw[YAZ];omega
 unfold DCalls
 refine eD C_ok Try.func25 Try.results25 fun ok=> ?_
 have h:=YAN
 repeat' (first
  |(with_reducible first|apply bA|apply bB|apply bC|apply bD|apply bE|apply bF)<;>intro h
  |((first|apply bG|apply bH);simp only[yP,yQ,W2,hpS,bxS,arS,stP hs hr hne,zTh,zTg,yN,zOg,e0,e1,e2,e3,hk,hrl,zOf hrl,zGZ];first|refine zIB (q1) (.inl rfl) ?_|refine zIB (q2) (.inl rfl) ?_|refine zIA (q3) (.inl rfl) (fun hb=>zLV (by first|exact hs|simp<;>omega) (by first|exact hr|simp<;>omega) hne hb) ?_)
  |skip)<;>simp only[h,↓zaL,↓zHC,WY,reduceIte,yA,yB,yC,yD,reduceCtorEq,yE,yF,W1,WS,hpS,bxS,arS,stP hs hr hne,zTh,zTg,yN,zOg,e0,e1,e2,e3,hk,hrl,zOf hrl,zGZ]
end
end
section
def zVR(L:Mem)(x y:Nat):Mem:=L.set x ({(L.getD x default).1 with link:=some y},(L.getD x default).2)
theorem zVT(L:Mem)(x y:Nat):(zVR L x y).length=L.length:=by simp[zVR]
theorem zVV(L:Mem)(x y:Nat):(zVR L x y).st=L.st.lk x y:=by
 rw[zVR,Mem.st,List.map_set,St.lk,L.nd];rfl
theorem zVU{L:Mem}{rd:Int}{x y:Nat}(h:MB L rd):MB (zVR L x y) rd:=fun i hi=>by
 rw[zVT]at hi
 have h1:=h i hi
 simp only[zVR,YAF,List.getElem?_set]
 by_cases e:x=i
 ·subst e;simp only[if_true,hi,Option.getD_some];rw[YAF]at h1;exact h1
 ·simp only[e,if_false];rw[YAF]at h1;exact h1
theorem zVS{L:Mem}{x y:Nat}(h:x<L.length):(zVR L x y).getD x default=({(L.getD x default).1 with link:=some y},(L.getD x default).2):=by
 simp[zVR,h]
def zNL(L:Mem)(rd:Int)(x y:Nat):Mem:=
 lowL (mkL (zVR (mkL L (rd+1) (L.st.all y)) x y) (rd+2) ((L.st.lk x y).all y)) (L.st.nd x).level ((L.st.lk x y).vars y)
section
variable {F : List AObj} {s r v : Nat} {L : Mem} {lim cnt rd : Int}
theorem zNU(hs:s<F.length)(hr:r<F.length)(hne:r≠s)(hw:Wf L.st)(hm:MB L rd)(hL:L.length<=1000000)(hrd:0<=rd/\rd<=100000000000)(a n:Nat)(ha:a<L.length)(hn:n<L.length)(h6:L.st.kind (L.st.root a)=6)(hxy:L.st.root a≠L.st.root n)(hin:L.st.root a ∉ L.st.all (L.st.root n)):
 DCalls Try.prog 25 [.bptr s 0,.int .i64 a,.int .i64 n] (hpS F s r v L lim cnt rd) (.int .i64 0) (hpS F s r v (zNL L rd (L.st.root a) (L.st.root n)) lim cnt (rd+2)):=by
 have q1:=zUI (v:=v) (lim:=lim) (cnt:=cnt) (rd:=rd) hs hr hne hw a ha
 have q2:=zUI (v:=v) (lim:=lim) (cnt:=cnt) (rd:=rd) hs hr hne hw n hn
 have hrl:L.st.root a<L.length:=by have:=hw.root_lt a (by rw[Mem.zXR];exact ha);rwa[Mem.zXR]at this
 have hrl2:L.st.root n<L.length:=by have:=hw.root_lt n (by rw[Mem.zXR];exact hn);rwa[Mem.zXR]at this
 have q3:=za1 (v:=v) (lim:=lim) (cnt:=cnt) hs hr hne hw hm hL ⟨hrd.1,by omega⟩ (L.st.root a) (L.st.root n) hrl hrl2
 rw[hw.zUQ,decide_eq_false hin]at q3
 have hk:(L.getD (L.st.root a) default).1.kind=L.st.kind (L.st.root a):=by rw[<-L.nd];rfl
 have e2:(L.st.kind (L.st.root a) !=6)=false:=by simp[h6]
 have hlx:=hw.zUK a
 have hly:=hw.zUK n
 generalize L.st.root a=x at*
 generalize L.st.root n=y at*
 have hwl:Wf (L.st.lk x y):=hw.lk (by rw[Mem.zXR];exact hrl) (by rw[Mem.zXR];exact hrl2) hlx h6 hly hin
 have e0:((x:Int)<0)=False:=by simp only[YAb,iff_false];omega
 have e1:((y:Int)<0)=False:=by simp only[YAb,iff_false];omega
 have e3:((x:Int)==(y:Int))=false:=by rw[YAZ];omega
 have hM1:mkL L (rd+1) (L.st.all y)=mkL L (rd+1) (L.st.all y):=rfl
 unfold zNL
 have hst1:(mkL L (rd+1) (L.st.all y)).st=L.st:=zPY _ _ _
 have hmb1:MB (mkL L (rd+1) (L.st.all y)) (rd+1):=hm.mk _
 have hl1:(mkL L (rd+1) (L.st.all y)).length=L.length:=zPW _ _ _
 have hlv:(L.st.nd x).level=((mkL L (rd+1) (L.st.all y)).getD x default).1.level:=by rw[<-Mem.nd,hst1]
 rw[hlv]
 generalize mkL L (rd+1) (L.st.all y)=M at*
 have hst2:(zVR M x y).st=L.st.lk x y:=by rw[zVV,hst1]
 have q4:=zN1 (v:=v) (L:=zVR M x y) (lim:=lim) (cnt:=cnt) (rd:=rd+1) hs hr hne (by rw[hst2];exact hwl) (zVU hmb1) (by rw[zVT,hl1];exact hL) ⟨by omega,by omega⟩ y (by rw[zVT,hl1];exact hrl2) (M.getD x default).1.level
 rw[hst2,show rd+1+1=rd+2 by omega]at q4
 have hset:(M.map embN).set x (.agg [.int .i64 (M.getD x default).1.kind,.int .i64 (M.getD x default).1.level,.int .i64 (y:Int),.sl ((kidI (M.getD x default).1.kids).map I64) .no,.int .i64 (M.getD x default).2])=(zVR M x y).map embN:=by
  rw[zVR,List.map_set];rfl
 have hx1:x<M.length:=by rw[hl1];exact hrl
 have hx2:x<(zVR M x y).length:=by rw[zVT];exact hx1
 have hg2:=zOf hx2
 rw[zVS hx1]at hg2
 have hll:(zVR M x y).length=M.length:=zVT _ _ _
 generalize zVR M x y=M2 at*
 generalize lowL (mkL M2 (rd+2) ((L.st.lk x y).all y)) (M.getD x default).1.level ((L.st.lk x y).vars y)=M4 at*
 clear hin
 unfold DCalls
 refine eD C_ok Try.func25 Try.results25 fun ok=> ?_
 have h:=YAN
 repeat' (first
  |(with_reducible first|apply bA|apply bB|apply bC|apply bD|apply bE|apply bF)<;>intro h
  |((first|apply bG|apply bH);simp only[yP,yQ,W2,hpS,bxS,arS,stP hs hr hne,zTh,zTg,yN,zOg,e0,e1,e2,e3,hk,hrl,zOf hrl,hx1,zOf hx1,zGZ,reN,hset,hg2,<-hll,hx2];first|refine zIB (q1) (.inl rfl) ?_|refine zIB (q2) (.inl rfl) ?_|refine zIA (q3) (.inl rfl) (fun hb=>zLV (by first|exact hs|simp<;>omega) (by first|exact hr|simp<;>omega) hne hb) ?_|refine zIA (q4) (.inl rfl) (fun hb=>zLV (by first|exact hs|simp<;>omega) (by first|exact hr|simp<;>omega) hne hb) ?_)
  |skip)<;>simp only[h,↓zaL,↓zHC,WY,reduceIte,yA,yB,yC,yD,reduceCtorEq,yE,yF,W1,WS,hpS,bxS,arS,stP hs hr hne,zTh,zTg,yN,zOg,e0,e1,e2,e3,hk,hrl,zOf hrl,hx1,zOf hx1,zGZ,reN,hset,hg2,<-hll,hx2]
end
end
end Go.Proofs.Ytdngjamjccjlmaa
