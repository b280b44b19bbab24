/- The document's store, walked: what is within a node. No condition. -/
import Derived.Test.YtdngjamjccjlmaaR2
import Derived.Test.YtdngjamjccjlmaaPWb
import Derived.Test.YtdngjamjccjlmaaPAe
set_option linter.unusedSimpArgs false
set_option linter.unusedVariables false
set_option maxHeartbeats 4000000
set_option maxRecDepth 100000
namespace Go.Proofs.Ytdngjamjccjlmaa
open Go Go.Ab
open Nat renaming reduceEqDiff -> yA, reduceAdd -> yB, reduceLT -> yC, reduceLeDiff -> yD, reduceMul -> yE, reducePow -> yF, reduceBEq -> yG
open Int renaming reduceAdd -> yH, reduceLT -> yI, reduceToNat -> yJ, reduceBEq -> yK, reduceBNe -> yL, reduceLE -> yM
attribute [local irreducible] zA0 zAA zAa zAi zAj GoIf GoGb zAk GoO GoD GoX GoDX GoG GoDG GoGv zAl Go zAB
def snB(S:St)(l:List Nat):List AV:=(List.range S.length).map fun i=> .bool (decide (i∈l))
def snO(S:St)(l:List Nat):AObj:= .arr 0 1 (snB S l)
theorem zgp(S:St)(l:List Nat):(snB S l).length=S.length:=by simp[snB]
theorem zgo{S:St}{l:List Nat}{i:Nat}(h:i<S.length):(snB S l).getD i .any= .bool (decide (i∈l)):=by simp[snB,h]
theorem zgr{S:St}{l:List Nat}{i:Nat}(h:i<S.length):(snB S l).set i (.bool true)=snB S (l++ [i]):=by
 apply List.ext_getElem (by simp[snB])
 intro j h1 h2
 have hj:j<S.length:=by simpa [snB]using h2
 rw[List.getElem_set]
 by_cases e:i=j
 ·subst e;simp[snB]
 ·have e':¬j=i:=fun h=>e h.symm
  simp[snB,e,e']
theorem zgq(S:St):snB S []=List.replicate S.length (.bool false):=by
 apply List.ext_getElem (by simp[snB])
 intro i h1 h2
 simp[snB]
theorem zgs(m:Nat)(S:St)(l:List Nat):(snO S l).bel m=true:=by
 simp only[snO,AObj.bel,snB]
 generalize List.range S.length=xs
 induction xs with
 |nil=>rfl
 |cons a xs ih=>simp only[List.map_cons,AV.belL,AV.bel,ih,Bool.and_self]
def tR(F:List AObj)(s r q v:Nat)(S:St)(lim cnt:Int)(l:List Nat):List AObj:=tri F s r q (bxR r v S.length lim cnt) (arR v S) (snO S l)
section
variable {s r q v : Nat} {S : St} {lim cnt : Int}
def RAll(s r q v:Nat)(S:St)(lim cnt:Int)(n:Nat):Prop:=∀(F:List AObj) (l:List Nat) (a:AV),zAw F s->zAw F r->zAw F q->zAC 1 F ((kidI l).map I64) a->(S.look n l).length<=1000000->
 zAA Try.prog 146 [.bptr s 0,.int .i64 n,.ms q 0 S.length,a] (tR F s r q v S lim cnt l) fun x G=>∃F',G=tR F' s r q v S lim cnt (S.look n l)/\AccR 1 F a ((kidI (S.look n l)).map I64) x F'
theorem zfT{F F':List AObj}{es es':List AV}{a a':AV}{b:Nat}{l l':List Nat}(h:zAC 1 F es a)(hr:AccR 1 F a es' a' F')(hs:zAw F s)(hr':zAw F r)(hq:zAw F q)(hD:TriD F s r q)(hb:b<=F.length)
 (hbel:∀x∈(tR F s r q v S lim cnt l).take b,x.bel b=true):∀x∈(tR F' s r q v S lim cnt l').take b,x.bel b=true:=by
 obtain⟨x,hx,hxt⟩:=hs
 obtain⟨y,hy,hyt⟩:=hr'
 obtain⟨z,hz,hzt⟩:=hq
 have hlen:=hr.len
 have h0:=h.setO (x:=snO S l) hz hzt
 have hx0:(F.set q (snO S l))[s]?=some x:=by rw[zVk (fun e=>hD.d2 e.symm)];exact hx
 have h1:=h0.setO (x:=bxR r v S.length lim cnt) hx0 hxt
 have hy1:((F.set q (snO S l)).set s (bxR r v S.length lim cnt))[r]?=some y:=by rw[zVk hD.d1,zVk (fun e=>hD.d3 e.symm)];exact hy
 have h2:=h1.setO (x:=arR v S) hy1 hyt
 have k0:=hr.setO h (x:=snO S l) hz hzt
 have k1:=k0.setO h0 (x:=bxR r v S.length lim cnt) hx0 hxt
 have k2:=k1.setO h1 (x:=arR v S) hy1 hyt
 have k3:=k2.bel h2 (b:=b) (by simpa using hb) hbel
 have hD':TriD F' s r q:=⟨by have:=hD.hp;omega,by have:=hD.hq;omega,by have:=hD.hm;omega,hD.d1,hD.d2,hD.d3⟩
 exact zc6 hD' (fun h=>zeB h) (zd4 _ _ _) (zgs _ _ _) k3
theorem zfX(hw:Wf S)(n:Nat)(hn:n<S.length)(ih:∀k∈S.kids (S.root n),RAll s r q v S lim cnt k)(hne:s≠r/\s≠q/\r≠q):RAll s r q v S lim cnt n:=by
 intro F l a hs0 hr0 hq0 hacc hbd
 have hD:TriD F s r q:=by
  obtain⟨_,h1,_⟩:=hs0
  obtain⟨_,h2,_⟩:=hr0
  obtain⟨_,h3,_⟩:=hq0
  exact⟨zIc h1,zIc h2,zIc h3,hne.1,hne.2.1,hne.2.2⟩
 have hrl:=hw.root_lt n hn
 have hlk:=hw.look_eq (n:=n) hn l
 have hrr:=hw.zUQ n
 have qr:=fun(G:List AObj) (hs:s<G.length) (hr:r<G.length)=>zgO (F:=G) (v:=v) (lim:=lim) (cnt:=cnt) hs hr (fun e=>hD.d1 e.symm) hw n hn
 have qk:=fun(G:List AObj) (hs:s<G.length) (hr:r<G.length)=>zfo (F:=G) (v:=v) (lim:=lim) (cnt:=cnt) hs hr (fun e=>hD.d1 e.symm) hw (S.root n) hrl
 rw[hrr]at qk
 have hg:=zgo (l:=l) hrl
 have hkm:(S.kids (S.root n)).length<=maxLen:=by
  have:(S.kids (S.root n)).length<=2:=by
   rcases hw.shape hrl (hw.zUK n)with ⟨_,_,hc⟩|⟨_,_,hc⟩|⟨i,j,_,hc⟩|⟨i,_,hc⟩<;>rw[hc]<;>simp
  rw[zPC];omega
 by_cases hin:S.root n∈l
 ·rw[if_pos hin]at hlk
  rw[hlk]
  rw[decide_eq_true hin]at hg
  have q1:zAd Try.prog 102 [.bptr s 0,.int .i64 n] (tri F s r q (bxR r v S.length lim cnt) (arR v S) (snO S l)) (.int .i64 (S.root n)) (tri F s r q (bxR r v S.length lim cnt) (arR v S) (snO S l)):=qr (F.set q (snO S l)) (by simpa using hD.hp) (by simpa using hD.hq)
  refine zBU C_ok Try.func146 rfl (by decide) (YAL rfl) (by decide) fun ok=> ?_
  rw[Try.results146]
  have h:=YAN
  repeat' (first
   |(with_reducible first|apply bA|apply bB|apply bC|apply bD|apply bE|apply bF)<;>intro h
   |((first|apply bG|apply bH);simp only[AV.norm,AV.zQg,W2,tR,bxR,arR,snO,triP hD,zTi,AV.bel,zgp,hrl,hg];first|refine zIB (q1) (.inl rfl) ?_)
   |skip)<;>simp only[h,↓zaL,↓zHC,WY,reduceIte,yA,yB,yC,yD,reduceCtorEq,yE,yF,W1,WS,tR,bxR,arR,snO,triP hD,zTi,AV.bel,zgp,hrl,hg]
  exact⟨F,rfl,AccR.refl hacc⟩
 ·rw[if_neg hin]at hlk
  rw[decide_eq_false hin]at hg
  have hset:=zgr (l:=l) hrl
  have hre:∀b,zTS (AV.bool b) [.bool true]= .bool true:=fun _=>rfl
  have q1:zAd Try.prog 102 [.bptr s 0,.int .i64 n] (tri F s r q (bxR r v S.length lim cnt) (arR v S) (snO S l)) (.int .i64 (S.root n)) (tri F s r q (bxR r v S.length lim cnt) (arR v S) (snO S l)):=qr (F.set q (snO S l)) (by simpa using hD.hp) (by simpa using hD.hq)
  have q2:∀G:List AObj,TriD G s r q->zAd Try.prog 107 [.bptr s 0,.int .i64 (S.root n)] (tri G s r q (bxR r v S.length lim cnt) (arR v S) (snO S (l++ [S.root n]))) (.sl ((kidI (S.kids (S.root n))).map I64) .no) (tri G s r q (bxR r v S.length lim cnt) (arR v S) (snO S (l++ [S.root n]))):=fun G hG=>qk (G.set q _) (by simpa using hG.hp) (by simpa using hG.hq)
  unfold bxR arR snO at q2
  rcases hacc with ⟨el,rfl⟩|⟨p,rfl,hp⟩
  ·obtain rfl:l=[]:=by simpa [kidI]using el
   have hacc:zAC 1 F ((kidI []).map I64) (.sl [] .full):= .inl ⟨rfl,rfl⟩
   simp only[List.nil_append]at hset hlk q2
   refine zBU C_ok Try.func146 rfl (by decide) (YAL rfl) (by decide) fun ok=> ?_
   rw[Try.results146]
   have h:=YAN
   repeat' (first
    |(with_reducible first|apply bA|apply bB|apply bC|apply bD|apply bE|apply bF)<;>intro h
    |((first|apply bG|apply bH);simp only[AV.norm,AV.zQg,W2,tR,bxR,arR,snO,triP hD,zTi,AV.bel,zgp,hrl,hg,hre,hset,zLz,zMZ,YAK];first|refine zIB (q1) (.inl rfl) ?_|refine zIB (q2 _ (hD.app _)) (.inl rfl) ?_)
    |skip)<;>simp only[h,↓zaL,↓zHC,WY,reduceIte,yA,yB,yC,yD,reduceCtorEq,yE,yF,W1,WS,tR,bxR,arR,snO,triP hD,zTi,AV.bel,zgp,hrl,hg,hre,hset,zLz,zMZ,YAK]
   refine zCN [3,10,0,2,9] ?_
   simp only[List.map_cons,List.map_nil,↓zaL,↓zHC,WY,reduceIte,yA,yB,yC,yD,reduceCtorEq,yE,yF,W1,WS]
   refine zJ1 2 (fun x:Nat×AV×List Nat×List AObj=> [(3,x.2.1),(10,.int .i64 x.1)]) (fun x=>tR x.2.2.2 s r q v S lim cnt x.2.2.1) (fun x=>x.1<=(S.kids (S.root n)).length/\AccR 1 F (.sl [] .full) ((kidI x.2.2.1).map I64) x.2.1 x.2.2.2/\((S.kids (S.root n)).drop x.1).foldl (fun l k=>S.look k l) x.2.2.1=S.look n []) (fun x=>(S.kids (S.root n)).length-x.1) C_ok (0,.sl [.int .i64 (S.root n)] (.own F.length),[S.root n],F++ [.tok 1 1]) rfl (by simp only[tR,snO];first|rfl|simp[kidI,I64]) ⟨YAX _,by have:=AccR.app0 (sz:=1) (F:=F) (I64 (S.root n));simpa [kidI,I64]using this,by rw[List.drop_zero,hlk]⟩ (by decide) ?_
   rintro⟨i,a1,l1,F1⟩ ⟨hi,h1,h2⟩
   simp only at hi h1 h2
   have hacc1:=AccR.ok hacc h1
   have hb1:=h1.len
   have ns1:=zQO hacc h1 hs0
   have nr1:=zQO hacc h1 hr0
   have nq1:=zQO hacc h1 hq0
   have hD1:TriD F1 s r q:=⟨by have:=hD.hp;omega,by have:=hD.hq;omega,by have:=hD.hm;omega,hD.d1,hD.d2,hD.d3⟩
   simp only[List.drop_succ_cons,List.drop_zero,List.cons_append,List.nil_append]
   simp only[↓zaL,↓zHC,WY,reduceIte,yA,yB,yC,yD,reduceCtorEq,yE,yF,W1,WS,tR,bxR,arR,snO,triP hD1,zMZ,YAK]
   refine zJv (fun hlt=> ?_) (fun hlt=> ?_)
   ·simp only[↓zaL,↓zHC,WY,reduceIte,yA,yB,yC,yD,reduceCtorEq,yE,yF,W1,WS,tR,bxR,arR,snO,triP hD1,hlt,zMZ,zMY hlt,YAK]
    have hmem:(S.kids (S.root n)).getD i 0∈S.kids (S.root n):=by simp[hlt]
    have hbk:(S.look ((S.kids (S.root n)).getD i 0) l1).length<=1000000:=by
     have e:(S.kids (S.root n)).drop i=(S.kids (S.root n)).getD i 0::(S.kids (S.root n)).drop (i+1):=by rw[List.drop_eq_getElem_cons hlt];simp[hlt]
     rw[e,List.foldl_cons]at h2
     obtain⟨m,em⟩:=zHt (S:=S) ((S.kids (S.root n)).drop (i+1)) (S.look ((S.kids (S.root n)).getD i 0) l1) fun k hk l=>zNn hw k (hw.zMa (List.mem_of_mem_drop hk)) l
     rw[em]at h2
     have:=congrArg List.length h2
     rw[YAJ]at this
     omega
    refine fsCall (ih _ hmem F1 l1 a1 ns1 nr1 nq1 hacc1 hbk) (.inl rfl) fun x G hG hlen=> ?_
    obtain⟨F2,rfl,hx⟩:=hG
    refine⟨fun hbel=>zfT hacc1 hx ns1 nr1 nq1 hD1 hb1 hbel,?_⟩
    have hl2:=hx.len
    have hD2:TriD F2 s r q:=⟨by have:=hD1.hp;omega,by have:=hD1.hq;omega,by have:=hD1.hm;omega,hD.d1,hD.d2,hD.d3⟩
    simp only[↓zaL,↓zHC,WY,reduceIte,yA,yB,yC,yD,reduceCtorEq,yE,yF,W1,WS,tR,bxR,arR,snO,triP hD2]
    refine⟨(i+1,x,S.look ((S.kids (S.root n)).getD i 0) l1,F2),⟨hlt,h1.trans hacc hx,?_⟩,by simp only;omega,zap rfl ?_⟩
    ·rw[<-h2,List.drop_eq_getElem_cons hlt,List.foldl_cons];simp[hlt]
    ·simp only[WK,↓zaL,↓zHC,yA,reduceIte,AV.bel,AV.belL,AObj.bel,AV.norm,AV.zQg,yB,yC,zbX hlt hkm]
   ·simp only[↓zaL,↓zHC,WY,reduceIte,yA,yB,yC,yD,reduceCtorEq,yE,yF,W1,WS,tR,bxR,arR,snO,triP hD1,zMZ,YAK]
    have hi':i=(S.kids (S.root n)).length:=by omega
    subst hi'
    rw[List.drop_length]at h2
    simp only[List.foldl_nil]at h2
    subst h2
    exact⟨F1,rfl,h1⟩
  ·have hacc:zAC 1 F ((kidI l).map I64) (.sl ((kidI l).map I64) (.own p)):= .inr ⟨p,rfl,hp⟩
   have hpl:=zIc hp
   have np:∀x,zAw F x->x≠p:=by
    rintro x ⟨y,h1,h2⟩ rfl
    rw[hp]at h1;exact h2 _ (Option.some.inj h1).symm
   have ps:=np _ hs0
   have pr:=np _ hr0
   have pq:=np _ hq0
   rw[YAK,zMZ]at hp
   have f1:∀G x y z,(tri G s r q x y z)[p]?=G[p]?:=fun _ _ _ _=>zc9 ps pr pq
   have f2:∀G x y z u,(tri G s r q x y z).set p u=tri (G.set p u) s r q x y z:=fun _ _ _ _ _=>zc8 ps pr pq
   have hDp:TriD (F.set p (.tok (l.length+1) 1)) s r q:=⟨by simpa using hD.hp,by simpa using hD.hq,by simpa using hD.hm,hD.d1,hD.d2,hD.d3⟩
   have f3:=triP hDp
   have f4:=zCE (kidI l)
   refine zBU C_ok Try.func146 rfl (by decide) (YAL rfl) (by decide) fun ok=> ?_
   rw[Try.results146]
   have h:=YAN
   repeat' (first
    |(with_reducible first|apply bA|apply bB|apply bC|apply bD|apply bE|apply bF)<;>intro h
    |((first|apply bG|apply bH);simp only[AV.norm,AV.zQg,W2,tR,bxR,arR,snO,triP hD,zTi,AV.bel,zgp,hrl,hg,hre,hset,zMZ,YAK,zLz,f1,f2,f3,f4,hp];first|refine zIB (q1) (.inl rfl) ?_|refine zIB (q2 _ hDp) (.inl rfl) ?_)
    |skip)<;>simp only[h,↓zaL,↓zHC,WY,reduceIte,yA,yB,yC,yD,reduceCtorEq,yE,yF,W1,WS,tR,bxR,arR,snO,triP hD,zTi,AV.bel,zgp,hrl,hg,hre,hset,zMZ,YAK,zLz,f1,f2,f3,f4,hp]
   have hll:l.length<=999999:=by
    obtain⟨m,em⟩:=zHt (S:=S) (S.kids (S.root n)) (l++ [S.root n]) fun k hk l=>zNn hw k (hw.zMa hk) l
    rw[hlk,em]at hbd
    simp only[YAJ,List.length_cons,List.length_nil]at hbd
    omega
   refine⟨⟨by omega,by omega⟩,?_⟩
   have h:=YAN
   repeat' (first
    |(with_reducible first|apply bA|apply bB|apply bC|apply bD|apply bE|apply bF)<;>intro h
    |((first|apply bG|apply bH);simp only[AV.norm,AV.zQg,W2,tR,bxR,arR,snO,triP hD,zTi,AV.bel,zgp,hrl,hg,hre,hset,zMZ,YAK,zLz,f1,f2,f3,f4,hp];first|refine zIB (q2 _ hDp) (.inl rfl) ?_)
    |skip)<;>simp only[h,↓zaL,↓zHC,WY,reduceIte,yA,yB,yC,yD,reduceCtorEq,yE,yF,W1,WS,tR,bxR,arR,snO,triP hD,zTi,AV.bel,zgp,hrl,hg,hre,hset,zMZ,YAK,zLz,f1,f2,f3,f4,hp]
   refine zCN [3,10,0,2,9] ?_
   simp only[List.map_cons,List.map_nil,↓zaL,↓zHC,WY,reduceIte,yA,yB,yC,yD,reduceCtorEq,yE,yF,W1,WS]
   refine zJ1 2 (fun x:Nat×AV×List Nat×List AObj=> [(3,x.2.1),(10,.int .i64 x.1)]) (fun x=>tR x.2.2.2 s r q v S lim cnt x.2.2.1) (fun x=>x.1<=(S.kids (S.root n)).length/\AccR 1 F (.sl ((kidI l).map I64) (.own p)) ((kidI x.2.2.1).map I64) x.2.1 x.2.2.2/\((S.kids (S.root n)).drop x.1).foldl (fun l k=>S.look k l) x.2.2.1=S.look n l) (fun x=>(S.kids (S.root n)).length-x.1) C_ok (0,.sl ((kidI l).map I64++ [.int .i64 (S.root n)]) (.own p),l++ [S.root n],F.set p (.tok (l.length+1) 1)) rfl (by simp only[tR,snO];first|rfl|simp[kidI,I64]) ⟨YAX _,by have:=AccR.app (sz:=1) (F:=F) (es:=(kidI l).map I64) (q:=p) (I64 (S.root n));simpa [kidI,I64]using this,by rw[List.drop_zero,hlk]⟩ (by decide) ?_
   rintro⟨i,a1,l1,F1⟩ ⟨hi,h1,h2⟩
   simp only at hi h1 h2
   have hacc1:=AccR.ok hacc h1
   have hb1:=h1.len
   have ns1:=zQO hacc h1 hs0
   have nr1:=zQO hacc h1 hr0
   have nq1:=zQO hacc h1 hq0
   have hD1:TriD F1 s r q:=⟨by have:=hD.hp;omega,by have:=hD.hq;omega,by have:=hD.hm;omega,hD.d1,hD.d2,hD.d3⟩
   simp only[List.drop_succ_cons,List.drop_zero,List.cons_append,List.nil_append]
   simp only[↓zaL,↓zHC,WY,reduceIte,yA,yB,yC,yD,reduceCtorEq,yE,yF,W1,WS,tR,bxR,arR,snO,triP hD1,zMZ,YAK]
   refine zJv (fun hlt=> ?_) (fun hlt=> ?_)
   ·simp only[↓zaL,↓zHC,WY,reduceIte,yA,yB,yC,yD,reduceCtorEq,yE,yF,W1,WS,tR,bxR,arR,snO,triP hD1,hlt,zMZ,zMY hlt,YAK]
    have hmem:(S.kids (S.root n)).getD i 0∈S.kids (S.root n):=by simp[hlt]
    have hbk:(S.look ((S.kids (S.root n)).getD i 0) l1).length<=1000000:=by
     have e:(S.kids (S.root n)).drop i=(S.kids (S.root n)).getD i 0::(S.kids (S.root n)).drop (i+1):=by rw[List.drop_eq_getElem_cons hlt];simp[hlt]
     rw[e,List.foldl_cons]at h2
     obtain⟨m,em⟩:=zHt (S:=S) ((S.kids (S.root n)).drop (i+1)) (S.look ((S.kids (S.root n)).getD i 0) l1) fun k hk l=>zNn hw k (hw.zMa (List.mem_of_mem_drop hk)) l
     rw[em]at h2
     have:=congrArg List.length h2
     rw[YAJ]at this
     omega
    refine fsCall (ih _ hmem F1 l1 a1 ns1 nr1 nq1 hacc1 hbk) (.inl rfl) fun x G hG hlen=> ?_
    obtain⟨F2,rfl,hx⟩:=hG
    refine⟨fun hbel=>zfT hacc1 hx ns1 nr1 nq1 hD1 hb1 hbel,?_⟩
    have hl2:=hx.len
    have hD2:TriD F2 s r q:=⟨by have:=hD1.hp;omega,by have:=hD1.hq;omega,by have:=hD1.hm;omega,hD.d1,hD.d2,hD.d3⟩
    simp only[↓zaL,↓zHC,WY,reduceIte,yA,yB,yC,yD,reduceCtorEq,yE,yF,W1,WS,tR,bxR,arR,snO,triP hD2]
    refine⟨(i+1,x,S.look ((S.kids (S.root n)).getD i 0) l1,F2),⟨hlt,h1.trans hacc hx,?_⟩,by simp only;omega,zap rfl ?_⟩
    ·rw[<-h2,List.drop_eq_getElem_cons hlt,List.foldl_cons];simp[hlt]
    ·simp only[WK,↓zaL,↓zHC,yA,reduceIte,AV.bel,AV.belL,AObj.bel,AV.norm,AV.zQg,yB,yC,zbX hlt hkm]
   ·simp only[↓zaL,↓zHC,WY,reduceIte,yA,yB,yC,yD,reduceCtorEq,yE,yF,W1,WS,tR,bxR,arR,snO,triP hD1,zMZ,YAK]
    have hi':i=(S.kids (S.root n)).length:=by omega
    subst hi'
    rw[List.drop_length]at h2
    simp only[List.foldl_nil]at h2
    subst h2
    exact⟨F1,rfl,h1⟩
theorem zfV(hw:Wf S)(hne:s≠r/\s≠q/\r≠q):∀n,n<S.length->RAll s r q v S lim cnt n:=by
 refine hw.ind (p:=fun n=>n<S.length->RAll s r q v S lim cnt n) fun n ih hn=>zfX hw n hn (fun k hk=>ih k hk (hw.zMa hk)) hne
end
end Go.Proofs.Ytdngjamjccjlmaa
