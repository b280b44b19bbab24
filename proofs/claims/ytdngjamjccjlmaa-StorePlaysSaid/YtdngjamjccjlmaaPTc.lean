/- Lemmas: copies, all cases. No condition. -/
import Derived.Test.YtdngjamjccjlmaaW24
import Derived.Test.YtdngjamjccjlmaaPTb
import Derived.Test.YtdngjamjccjlmaaPRc
set_option linter.unusedSimpArgs false
set_option linter.unusedVariables false
set_option maxHeartbeats 4000000
set_option maxRecDepth 100000
namespace Go.Proofs.Ytdngjamjccjlmaa
open Go Go.Ab
open Nat renaming reduceEqDiff -> yA, reduceAdd -> yB, reduceLT -> yC, reduceLeDiff -> yD, reduceMul -> yE, reducePow -> yF
open AV renaming belL -> yO, bel -> yN, normL -> yQ, norm -> yP
open AObj renaming bel -> yR
attribute [local irreducible] zA0 zAA zAa zAi zAj GoIf GoGb zAk GoO GoD GoX GoDX GoG GoDG GoGv zAl Go zAB
section
theorem zoQ{l m:List Nat}{i:Nat}(h:i<l.length):(l++m).getD i 0=l.getD i 0:=by simp[YAG h]
structure FrG (L:Mem) (fr tt:List Int) (rs xs:List Nat):Prop where
 le:rs.length=xs.length
 lf:rs.length<=fr.length
 lt:fr.length=tt.length
 nd:rs.Nodup
 g:∀i,i<rs.length->∃f:Nat,fr.getD i 0=(f:Int)/\f<L.length/\L.st.root f=rs.getD i 0/\L.st.kind (rs.getD i 0)=6/\tt.getD i 0=((xs.getD i 0:Nat):Int)/\xs.getD i 0<L.length
def BadF(L:Mem)(fr tt:List Int)(rs:List Nat):Prop:=rs.length<fr.length/\((fr.getD rs.length 0<0\/(L.length:Int)<=fr.getD rs.length 0)\/∃f:Nat,fr.getD rs.length 0=(f:Int)/\f<L.length/\
 ((tt.getD rs.length 0<0\/(L.length:Int)<=tt.getD rs.length 0)\/∃x:Nat,tt.getD rs.length 0=(x:Int)/\x<L.length/\(L.st.kind (L.st.root f)≠6\/L.st.kind (L.st.root f)=6/\L.st.root f∈rs)))
theorem zoN(L:Mem)(hw:Wf L.st)(fr tt:List Int)(hl:fr.length=tt.length):∃rs xs,FrG L fr tt rs xs/\(rs.length=fr.length\/BadF L fr tt rs):=by
 have key:∀k,k<=fr.length->∃rs xs,FrG L fr tt rs xs/\(rs.length=k\/BadF L fr tt rs):=by
  intro k
  induction k with
  |zero=>intro _;exact⟨[],[],⟨rfl,YAX _,hl,List.nodup_nil,fun i hi=>by simp at hi⟩,.inl rfl⟩
  |succ k ih=>
   intro hk
   obtain⟨rs,xs,hg,h|h⟩:=ih (by omega)
   ·by_cases hb:BadF L fr tt rs
    ·exact⟨rs,xs,hg,.inr hb⟩
    ·have hlt:rs.length<fr.length:=by omega
     simp only[BadF,hlt,true_and,not_or,not_exists,not_and]at hb
     obtain⟨⟨h1,h2⟩,h3⟩:=hb
     have h3:=h3 (fr.getD rs.length 0).toNat (by omega) (by omega)
     obtain⟨⟨h4,h5⟩,h6⟩:=h3
     have h6:=h6 (tt.getD rs.length 0).toNat (by omega) (by omega)
     have h7:L.st.kind (L.st.root (fr.getD rs.length 0).toNat)=6:=Decidable.not_not.1 h6.1
     have h8:=h6.2 h7
     refine⟨rs++ [L.st.root (fr.getD rs.length 0).toNat],xs++ [(tt.getD rs.length 0).toNat],⟨by simp[hg.le],by simp;omega,hl,?_,fun i hi=> ?_⟩,.inl (by simp;omega)⟩
     ·rw[List.nodup_append]
      refine⟨hg.nd,by simp,fun a ha b hb=> ?_⟩
      simp only[List.mem_singleton]at hb
      subst hb
      intro e;subst e;exact h8 ha
     ·simp only[YAJ,List.length_cons,List.length_nil]at hi
      have hle:=hg.le
      by_cases e:i<rs.length
      ·rw[zoQ e,zoQ (by omega)];exact hg.g i e
      ·have e:i=rs.length:=by omega
       subst e
       have ex:(xs++ [(tt.getD rs.length 0).toNat]).getD rs.length 0=(tt.getD rs.length 0).toNat:=by rw[hg.le];simp
       have er:(rs++ [L.st.root (fr.getD rs.length 0).toNat]).getD rs.length 0=L.st.root (fr.getD rs.length 0).toNat:=by simp
       rw[ex,er]
       exact⟨(fr.getD rs.length 0).toNat,by omega,by omega,rfl,h7,by omega,by omega⟩
   ·exact⟨rs,xs,hg,.inr h⟩
 exact key fr.length (YAV _)
section
variable {F : List AObj} {s r v : Nat} {L : Mem} {lim cnt rd : Int}
theorem zn8(hs:s<F.length)(hr:r<F.length)(hne:r≠s)(n:Int)(fr tt:List Int)(h:(n<0\/(L.length:Int)<=n)\/0<=n/\n<L.length/\fr.length≠tt.length):
 DCalls Try.prog 38 [.bptr s 0,.int .i64 n,.sl (fr.map I64) .no,.sl (tt.map I64) .no] (hpS F s r v L lim cnt rd) (.tup [.int .i64 0,.int .i64 1]) (hpS F s r v L lim cnt rd):=by
 unfold DCalls
 rcases h with h|⟨h1,h2,h3⟩
 ·have q1:=fun F hs hr=>zeW (F:=F) (s:=s) (r:=r) (v:=v) (L:=L) (lim:=lim) (cnt:=cnt) (rd:=rd) hs hr hne h
  refine eD C_ok Try.func38 Try.results38 fun ok=> ?_
  have h:=YAN
  repeat' (first
   |(with_reducible first|apply bA|apply bB|apply bC|apply bD|apply bE|apply bF)<;>intro h
   |((first|apply bG|apply bH);simp only[yP,yQ,W2,hpS,bxS,arS,stP hs hr hne,zTh,zTg,yN,zOg,yO];refine zIB (q1 _ (by first|exact hs|simp<;>omega) (by first|exact hr|simp<;>omega)) (.inl rfl) ?_)
   |refine drA C_ok 13 0 ?_
   |refine drA C_ok 22 0 ?_
   |skip)<;>simp only[h,↓zaL,↓zHC,WY,reduceIte,yA,yB,yC,yD,reduceCtorEq,yE,yF,W1,WS,hpS,bxS,arS,stP hs hr hne,zTh,zTg,yN,zOg,yO]
  all_goals first|exact⟨rfl,rfl⟩|rfl
 ·obtain⟨m,rfl⟩:∃m:Nat,n=m:=⟨n.toNat,by omega⟩
  have q1:=fun F hs hr=>zMI (F:=F) (s:=s) (r:=r) (v:=v) (L:=L) (lim:=lim) (cnt:=cnt) (rd:=rd) hs hr hne (n:=m) (by omega)
  have h4:((fr.length:Int) !=(tt.length:Int))=true:=by rw[bne_iff_ne];omega
  refine eD C_ok Try.func38 Try.results38 fun ok=> ?_
  have h:=YAN
  repeat' (first
   |(with_reducible first|apply bA|apply bB|apply bC|apply bD|apply bE|apply bF)<;>intro h
   |((first|apply bG|apply bH);simp only[yP,yQ,W2,hpS,bxS,arS,stP hs hr hne,zTh,zTg,yN,zOg,yO,YAK,h4];refine zIB (q1 _ (by first|exact hs|simp<;>omega) (by first|exact hr|simp<;>omega)) (.inl rfl) ?_)
   |refine drA C_ok 13 0 ?_
   |refine drA C_ok 22 0 ?_
   |skip)<;>simp only[h,↓zaL,↓zHC,WY,reduceIte,yA,yB,yC,yD,reduceCtorEq,yE,yF,W1,WS,hpS,bxS,arS,stP hs hr hne,zTh,zTg,yN,zOg,yO,YAK,h4]
  all_goals first|exact⟨rfl,rfl⟩|rfl
theorem zn9(hs:s<F.length)(hr:r<F.length)(hne:r≠s)(hSI:SI L rd)(n:Nat)(hn:n<L.length){fr tt:List Int}(hfl:fr.length<=1000000){rs xs:List Nat}(hG:FrG L fr tt rs xs)(hB:BadF L fr tt rs):
 DCalls Try.prog 38 [.bptr s 0,.int .i64 n,.sl (fr.map I64) .no,.sl (tt.map I64) .no] (hpS F s r v L lim cnt rd) (.tup [.int .i64 0,.int .i64 1]) (hpS F s r v L lim cnt rd):=by
 have q1:=fun F hs hr=>zMI (F:=F) (s:=s) (r:=r) (v:=v) (L:=L) (lim:=lim) (cnt:=cnt) (rd:=rd) hs hr hne hn
 have hmx0:=hG.lt
 unfold DCalls
 refine eD C_ok Try.func38 Try.results38 fun ok=> ?_
 have h:=YAN
 repeat' (first
  |(with_reducible first|apply bA|apply bB|apply bC|apply bD|apply bE|apply bF)<;>intro h
  |((first|apply bG|apply bH);simp only[yP,yQ,W2,hpS,bxS,arS,stP hs hr hne,zTh,zTg,yN,zOg,YAK,hG.lt,YAO];refine zIB (q1 _ (by first|exact hs|simp<;>omega) (by first|exact hr|simp<;>omega)) (.inl rfl) ?_)
  |refine drA C_ok 13 0 ?_
  |refine drA C_ok 22 0 ?_
  |skip)<;>simp only[h,↓zaL,↓zHC,WY,reduceIte,yA,yB,yC,yD,reduceCtorEq,yE,yF,W1,WS,hpS,bxS,arS,stP hs hr hne,zTh,zTg,yN,zOg,YAK,hG.lt,YAO]
 refine zCN [38,0,1,3,10,36,37] ?_
 simp only[List.map_cons,List.map_nil,↓zaL,↓zHC,WY,reduceIte,yA,yB,yC,yD,reduceCtorEq,yE,yF,W1,WS]
 have hl0:F.length<=F.length:=YAV _
 have hmx:fr.length<=maxLen:=by rw[zPC];omega
 refine zJ1 1 (fun i:Nat=> [(38,.int .i64 i)]) (fun i=>hpS (F++ [.map (embM (toM (rs.take i) (xs.take i))),.map [],.map [],.box [.bptr s 0,.mp F.length,.mp (F.length+1),.mp (F.length+2)]]) s r v L lim cnt rd) (fun i=>i<=rs.length) (fun i=>rs.length-i) C_ok 0 rfl rfl (YAX _) (by decide) ?_
 rintro i hi
 simp only[List.drop_succ_cons,List.drop_zero,List.cons_append,List.nil_append]
 have hlf:=hG.lf
 by_cases hltr:i<rs.length
 ·obtain⟨f,ef,hf1,hf2,hf3,ex,ht1⟩:=hG.g i hltr
  have hlt:i<fr.length:=by omega
  have hlt2:i<tt.length:=by omega
  have qr:=fun F hs hr=>zUI (F:=F) (s:=s) (r:=r) (v:=v) (L:=L) (lim:=lim) (cnt:=cnt) (rd:=rd) hs hr hne hSI.wf f hf1
  rw[hf2]at qr
  have hrl:rs.getD i 0<L.length:=by rw[<-hf2];have:=hSI.wf.root_lt f (by rw[Mem.zXR];exact hf1);rwa[Mem.zXR]at this
  have qi:=fun F hs hr=>zMI (F:=F) (s:=s) (r:=r) (v:=v) (L:=L) (lim:=lim) (cnt:=cnt) (rd:=rd) hs hr hne ht1
  have hk6:(L.getD (rs.getD i 0) default).1.kind=6:=by rw[<-L.nd];exact hf3
  obtain⟨hg,hp⟩:=zqD hG.le hG.nd hltr
  have hneg:(((rs.getD i 0:Nat):Int)<0)=False:=by simp
  have g1:(fr.map I64).getD i .any= .int .i64 f:=by rw[zOt hlt,ef];rfl
  have g2:(tt.map I64).getD i .any= .int .i64 ((xs.getD i 0:Nat):Int):=by rw[zOt hlt2,ex];rfl
  have h:=YAN
  repeat' (first
   |(with_reducible first|apply bA|apply bB|apply bC|apply bD|apply bE|apply bF)<;>intro h
   |((first|apply bG|apply bH);simp only[yP,yQ,W2,hpS,bxS,arS,stP hs hr hne,zTh,zTg,yN,zOg,YAK,hlt,hlt2,g1,g2,hneg,hrl,zOf hrl,zGZ,hk6,YAO,zHe,zHx,zPN,zOl,zMT,hg,hp,Option.getD_none,Option.isSome_none,yN,implies_true];first|refine zIB (qr _ (by first|exact hs|simp<;>omega) (by first|exact hr|simp<;>omega)) (.inl rfl) ?_|refine zIB (qi _ (by first|exact hs|simp<;>omega) (by first|exact hr|simp<;>omega)) (.inl rfl) ?_)
   |refine drA C_ok 13 0 ?_
   |refine drA C_ok 22 0 ?_
   |skip)<;>simp only[h,↓zaL,↓zHC,WY,reduceIte,yA,yB,yC,yD,reduceCtorEq,yE,yF,W1,WS,hpS,bxS,arS,stP hs hr hne,zTh,zTg,yN,zOg,YAK,hlt,hlt2,g1,g2,hneg,hrl,zOf hrl,zGZ,hk6,YAO,zHe,zHx,zPN,zOl,zMT,hg,hp,Option.getD_none,Option.isSome_none,yN,implies_true]
  refine⟨i+1,by omega,by omega,zap rfl ?_⟩
  simp only[WK,↓zaL,↓zHC,yA,reduceIte,yN,yO,yR,yP,yQ,yB,yC,zbX hlt hmx]
 have hi':i=rs.length:=by omega
 subst hi'
 obtain⟨hlt,hB⟩:=hB
 have hlt2:rs.length<tt.length:=by omega
 have g1:(fr.map I64).getD rs.length .any= .int .i64 (fr.getD rs.length 0):=zOt hlt
 have g2:(tt.map I64).getD rs.length .any= .int .i64 (tt.getD rs.length 0):=zOt hlt2
 have e1:rs.take rs.length=rs:=List.take_length
 have e2:xs.take rs.length=xs:=by rw[hG.le,List.take_length]
 simp only[e1,e2]
 have hm1:((-1:Int)<0)=True:=by simp
 rcases hB with hB|⟨f,ef,hf,hB⟩
 ·have qr:=fun F hs hr=>zgJ (F:=F) (s:=s) (r:=r) (v:=v) (L:=L) (lim:=lim) (cnt:=cnt) (rd:=rd) hs hr hne _ hB
  have h:=YAN
  repeat' (first
   |(with_reducible first|apply bA|apply bB|apply bC|apply bD|apply bE|apply bF)<;>intro h
   |((first|apply bG|apply bH);simp only[yP,yQ,W2,hpS,bxS,arS,stP hs hr hne,zTh,zTg,yN,zOg,YAK,hlt,hlt2,g1,g2,hm1,yO];refine zIB (qr _ (by first|exact hs|simp<;>omega) (by first|exact hr|simp<;>omega)) (.inl rfl) ?_)
   |refine drA C_ok 13 0 ?_
   |refine drA C_ok 22 0 ?_
   |skip)<;>simp only[h,↓zaL,↓zHC,WY,reduceIte,yA,yB,yC,yD,reduceCtorEq,yE,yF,W1,WS,hpS,bxS,arS,stP hs hr hne,zTh,zTg,yN,zOg,YAK,hlt,hlt2,g1,g2,hm1,yO]
  all_goals first|exact⟨rfl,rfl⟩|rfl
 rw[ef]at g1
 have qr:=fun F hs hr=>zUI (F:=F) (s:=s) (r:=r) (v:=v) (L:=L) (lim:=lim) (cnt:=cnt) (rd:=rd) hs hr hne hSI.wf f hf
 have hrl:L.st.root f<L.length:=by have:=hSI.wf.root_lt f (by rw[Mem.zXR];exact hf);rwa[Mem.zXR]at this
 have hkd:(L.getD (L.st.root f) default).1.kind=L.st.kind (L.st.root f):=by rw[<-L.nd];rfl
 generalize L.st.root f=w at*
 generalize L.st.kind w=kd at*
 have hneg:((w:Int)<0)=False:=by simp
 rcases hB with hB|⟨x,ex,hx,hB⟩
 ·have qi:=fun F hs hr=>zeW (F:=F) (s:=s) (r:=r) (v:=v) (L:=L) (lim:=lim) (cnt:=cnt) (rd:=rd) hs hr hne hB
  have h:=YAN
  repeat' (first
   |(with_reducible first|apply bA|apply bB|apply bC|apply bD|apply bE|apply bF)<;>intro h
   |((first|apply bG|apply bH);simp only[yP,yQ,W2,hpS,bxS,arS,stP hs hr hne,zTh,zTg,yN,zOg,YAK,hlt,hlt2,g1,g2,hneg,yO];first|refine zIB (qr _ (by first|exact hs|simp<;>omega) (by first|exact hr|simp<;>omega)) (.inl rfl) ?_|refine zIB (qi _ (by first|exact hs|simp<;>omega) (by first|exact hr|simp<;>omega)) (.inl rfl) ?_)
   |refine drA C_ok 13 0 ?_
   |refine drA C_ok 22 0 ?_
   |skip)<;>simp only[h,↓zaL,↓zHC,WY,reduceIte,yA,yB,yC,yD,reduceCtorEq,yE,yF,W1,WS,hpS,bxS,arS,stP hs hr hne,zTh,zTg,yN,zOg,YAK,hlt,hlt2,g1,g2,hneg,yO]
  all_goals first|exact⟨rfl,rfl⟩|rfl
 rw[ex]at g2
 have qi:=fun F hs hr=>zMI (F:=F) (s:=s) (r:=r) (v:=v) (L:=L) (lim:=lim) (cnt:=cnt) (rd:=rd) hs hr hne hx
 rcases hB with h6|⟨h6,hin⟩
 ·have h6':(kd !=6)=true:=bne_iff_ne.2 h6
  have h:=YAN
  repeat' (first
   |(with_reducible first|apply bA|apply bB|apply bC|apply bD|apply bE|apply bF)<;>intro h
   |((first|apply bG|apply bH);simp only[yP,yQ,W2,hpS,bxS,arS,stP hs hr hne,zTh,zTg,yN,zOg,YAK,hlt,hlt2,g1,g2,hneg,hrl,zOf hrl,zGZ,hkd,h6',yO];first|refine zIB (qr _ (by first|exact hs|simp<;>omega) (by first|exact hr|simp<;>omega)) (.inl rfl) ?_|refine zIB (qi _ (by first|exact hs|simp<;>omega) (by first|exact hr|simp<;>omega)) (.inl rfl) ?_)
   |refine drA C_ok 13 0 ?_
   |refine drA C_ok 22 0 ?_
   |skip)<;>simp only[h,↓zaL,↓zHC,WY,reduceIte,yA,yB,yC,yD,reduceCtorEq,yE,yF,W1,WS,hpS,bxS,arS,stP hs hr hne,zTh,zTg,yN,zOg,YAK,hlt,hlt2,g1,g2,hneg,hrl,zOf hrl,zGZ,hkd,h6',yO]
  all_goals first|exact⟨rfl,rfl⟩|rfl
 ·have h6':(kd !=6)=false:=bne_eq_false_iff_eq.2 h6
  obtain⟨y,hy⟩:∃y,mget (toM rs xs) (w:Int)=some y:=by
   have hk:(w:Int)∈(toM rs xs).map Prod.fst:=by rw[zqC _ _ hG.le];exact zPF.2 hin
   exact Option.isSome_iff_exists.1 ((zoo _ _).2 hk)
  have h:=YAN
  repeat' (first
   |(with_reducible first|apply bA|apply bB|apply bC|apply bD|apply bE|apply bF)<;>intro h
   |((first|apply bG|apply bH);simp only[yP,yQ,W2,hpS,bxS,arS,stP hs hr hne,zTh,zTg,yN,zOg,YAK,hlt,hlt2,g1,g2,hneg,hrl,zOf hrl,zGZ,hkd,h6',zHe,zHx,zPN,zMT,hy,Option.getD_some,Option.isSome_some,yO];first|refine zIB (qr _ (by first|exact hs|simp<;>omega) (by first|exact hr|simp<;>omega)) (.inl rfl) ?_|refine zIB (qi _ (by first|exact hs|simp<;>omega) (by first|exact hr|simp<;>omega)) (.inl rfl) ?_)
   |refine drA C_ok 13 0 ?_
   |refine drA C_ok 22 0 ?_
   |skip)<;>simp only[h,↓zaL,↓zHC,WY,reduceIte,yA,yB,yC,yD,reduceCtorEq,yE,yF,W1,WS,hpS,bxS,arS,stP hs hr hne,zTh,zTg,yN,zOg,YAK,hlt,hlt2,g1,g2,hneg,hrl,zOf hrl,zGZ,hkd,h6',zHe,zHx,zPN,zMT,hy,Option.getD_some,Option.isSome_some,yO]
  all_goals first|exact⟨rfl,rfl⟩|rfl
theorem zoA(hs:s<F.length)(hr:r<F.length)(hne:r≠s)(hSI:SI L rd)(hL:L.length+inn L.st<=1000000)(hrd:rd<=1000000000)(hc:0<=cnt)(hlim:lim<=65536)(hcnt:cnt<=lim)(n:Nat)(hn:n<L.length){fr tt:List Int}(hfl:fr.length<=1000000){rs xs:List Nat}(hG:FrG L fr tt rs xs)(hlF:rs.length=fr.length){Zs:Nat->List (Int×Int)}(hz0:Zs 0=[])
 (hzs:∀i,i<(L.st.all n).length->(L.st.kind ((L.st.all n).getD i 0)=6->Zs (i+1)=Zs i)/\(L.st.kind ((L.st.all n).getD i 0)≠6->∀G:List AObj,G[F.length+3]?=some (cpB s F.length (F.length+1) (F.length+2))->G[s]?=some (bxS r v L.length lim cnt (rd+1))->G[r]?=some (arS v (mkL L (rd+1) (L.st.all n)))->G[F.length]?=some (.map (embM (toM rs xs)))->G[F.length+1]?=some (.map (embM (Zs i)))->
  DCalls Try.prog 92 [.bptr (F.length+3) 0,.int .i64 ((L.st.all n).getD i 0:Nat)] G (.bool (hld L.st (toM rs xs) ((L.st.all n).getD i 0))) (G.set (F.length+1) (.map (embM (Zs (i+1)))))))
 (hk:lim-cnt<(cntH L.st (toM rs xs) (L.st.all n):Int)):
 DCalls Try.prog 38 [.bptr s 0,.int .i64 n,.sl (fr.map I64) .no,.sl (tt.map I64) .no] (hpS F s r v L lim cnt rd) (.tup [.int .i64 0,.int .i64 7]) (hpS F s r v (mkL L (rd+1) (L.st.all n)) lim cnt (rd+1)):=by
 have q1:=fun F hs hr=>zMI (F:=F) (s:=s) (r:=r) (v:=v) (L:=L) (lim:=lim) (cnt:=cnt) (rd:=rd) hs hr hne hn
 have hmx0:=hG.lt
 unfold DCalls
 refine eD C_ok Try.func38 Try.results38 fun ok=> ?_
 have h:=YAN
 repeat' (first
  |(with_reducible first|apply bA|apply bB|apply bC|apply bD|apply bE|apply bF)<;>intro h
  |((first|apply bG|apply bH);simp only[yP,yQ,W2,hpS,bxS,arS,stP hs hr hne,zTh,zTg,yN,zOg,YAK,hG.lt,YAO];refine zIB (q1 _ (by first|exact hs|simp<;>omega) (by first|exact hr|simp<;>omega)) (.inl rfl) ?_)
  |refine drA C_ok 13 0 ?_
  |refine drA C_ok 22 0 ?_
  |skip)<;>simp only[h,↓zaL,↓zHC,WY,reduceIte,yA,yB,yC,yD,reduceCtorEq,yE,yF,W1,WS,hpS,bxS,arS,stP hs hr hne,zTh,zTg,yN,zOg,YAK,hG.lt,YAO]
 refine zCN [38,0,1,3,10,36,37] ?_
 simp only[List.map_cons,List.map_nil,↓zaL,↓zHC,WY,reduceIte,yA,yB,yC,yD,reduceCtorEq,yE,yF,W1,WS]
 have hl0:F.length<=F.length:=YAV _
 have hmx:fr.length<=maxLen:=by rw[zPC];omega
 refine zJ1 1 (fun i:Nat=> [(38,.int .i64 i)]) (fun i=>hpS (F++ [.map (embM (toM (rs.take i) (xs.take i))),.map [],.map [],.box [.bptr s 0,.mp F.length,.mp (F.length+1),.mp (F.length+2)]]) s r v L lim cnt rd) (fun i=>i<=rs.length) (fun i=>rs.length-i) C_ok 0 rfl rfl (YAX _) (by decide) ?_
 rintro i hi
 simp only[List.drop_succ_cons,List.drop_zero,List.cons_append,List.nil_append]
 have hlf:=hG.lf
 by_cases hltr:i<rs.length
 ·obtain⟨f,ef,hf1,hf2,hf3,ex,ht1⟩:=hG.g i hltr
  have hlt:i<fr.length:=by omega
  have hlt2:i<tt.length:=by omega
  have qr:=fun F hs hr=>zUI (F:=F) (s:=s) (r:=r) (v:=v) (L:=L) (lim:=lim) (cnt:=cnt) (rd:=rd) hs hr hne hSI.wf f hf1
  rw[hf2]at qr
  have hrl:rs.getD i 0<L.length:=by rw[<-hf2];have:=hSI.wf.root_lt f (by rw[Mem.zXR];exact hf1);rwa[Mem.zXR]at this
  have qi:=fun F hs hr=>zMI (F:=F) (s:=s) (r:=r) (v:=v) (L:=L) (lim:=lim) (cnt:=cnt) (rd:=rd) hs hr hne ht1
  have hk6:(L.getD (rs.getD i 0) default).1.kind=6:=by rw[<-L.nd];exact hf3
  obtain⟨hg,hp⟩:=zqD hG.le hG.nd hltr
  have hneg:(((rs.getD i 0:Nat):Int)<0)=False:=by simp
  have g1:(fr.map I64).getD i .any= .int .i64 f:=by rw[zOt hlt,ef];rfl
  have g2:(tt.map I64).getD i .any= .int .i64 ((xs.getD i 0:Nat):Int):=by rw[zOt hlt2,ex];rfl
  have h:=YAN
  repeat' (first
   |(with_reducible first|apply bA|apply bB|apply bC|apply bD|apply bE|apply bF)<;>intro h
   |((first|apply bG|apply bH);simp only[yP,yQ,W2,hpS,bxS,arS,stP hs hr hne,zTh,zTg,yN,zOg,YAK,hlt,hlt2,g1,g2,hneg,hrl,zOf hrl,zGZ,hk6,YAO,zHe,zHx,zPN,zOl,zMT,hg,hp,Option.getD_none,Option.isSome_none,yN,implies_true];first|refine zIB (qr _ (by first|exact hs|simp<;>omega) (by first|exact hr|simp<;>omega)) (.inl rfl) ?_|refine zIB (qi _ (by first|exact hs|simp<;>omega) (by first|exact hr|simp<;>omega)) (.inl rfl) ?_)
   |refine drA C_ok 13 0 ?_
   |refine drA C_ok 22 0 ?_
   |skip)<;>simp only[h,↓zaL,↓zHC,WY,reduceIte,yA,yB,yC,yD,reduceCtorEq,yE,yF,W1,WS,hpS,bxS,arS,stP hs hr hne,zTh,zTg,yN,zOg,YAK,hlt,hlt2,g1,g2,hneg,hrl,zOf hrl,zGZ,hk6,YAO,zHe,zHx,zPN,zOl,zMT,hg,hp,Option.getD_none,Option.isSome_none,yN,implies_true]
  refine⟨i+1,by omega,by omega,zap rfl ?_⟩
  simp only[WK,↓zaL,↓zHC,yA,reduceIte,yN,yO,yR,yP,yQ,yB,yC,zbX hlt hmx]
 have hi':i=rs.length:=by omega
 subst hi'
 have e1:rs.take rs.length=rs:=List.take_length
 have e2:xs.take rs.length=xs:=by rw[hG.le,List.take_length]
 have qa:=fun F hs hr=>zUT (F:=F) (s:=s) (r:=r) (v:=v) (L:=L) (lim:=lim) (cnt:=cnt) (rd:=rd) hs hr hne hSI.wf hSI.mb (by omega) ⟨hSI.rd0,by omega⟩ n hn
 have hal:=zCG hSI.wf hn
 have hmx2:(L.st.all n).length<=maxLen:=by rw[zPC];omega
 have hrl:∀x∈L.st.all n,x<L.length:=fun x hx=>by
  have:=((hSI.wf.zPE (by rw[Mem.zXR];exact hn)).1 hx).lt hSI.wf (by rw[Mem.zXR];exact hn)
  rwa[Mem.zXR]at this
 simp only[e1,e2]
 generalize toM rs xs=to at*
 have hst1:(mkL L (rd+1) (L.st.all n)).st=L.st:=zPY _ _ _
 have hlen1:(mkL L (rd+1) (L.st.all n)).length=L.length:=zPW _ _ _
 generalize mkL L (rd+1) (L.st.all n)=L1 at*
 skip
 generalize hS:L.st=S at*
 generalize S.all n=ks at*
 have h:=YAN
 repeat' (first
  |(with_reducible first|apply bA|apply bB|apply bC|apply bD|apply bE|apply bF)<;>intro h
  |((first|apply bG|apply bH);simp only[yP,yQ,W2,hpS,bxS,arS,stP hs hr hne,zTh,zTg,yN,zOg,zMZ,YAK,hlF,hG.lt,Nat.lt_irrefl,Int.lt_irrefl];refine zIA (qa _ (by first|exact hs|simp<;>omega) (by first|exact hr|simp<;>omega)) (.inl rfl) (fun hb=>zLV (by first|exact hs|simp<;>omega) (by first|exact hr|simp<;>omega) hne hb) ?_)
  |refine drA C_ok 13 0 ?_
  |refine drA C_ok 22 0 ?_
  |skip)<;>simp only[h,↓zaL,↓zHC,WY,reduceIte,yA,yB,yC,yD,reduceCtorEq,yE,yF,W1,WS,hpS,bxS,arS,stP hs hr hne,zTh,zTg,yN,zOg,zMZ,YAK,hlF,hG.lt,Nat.lt_irrefl,Int.lt_irrefl]
 refine zCN [16,92,0,1,10,90,91] ?_
 simp only[List.map_cons,List.map_nil,↓zaL,↓zHC,WY,reduceIte,yA,yB,yC,yD,reduceCtorEq,yE,yF,W1,WS]
 refine zJ1 2 (fun i:Nat=> [(16,.int .i64 (cntH S to (ks.take i):Nat)),(92,.int .i64 i)]) (fun i=>hpS (F++ [.map (embM to),.map (embM (Zs i)),.map [],.box [.bptr s 0,.mp F.length,.mp (F.length+1),.mp (F.length+2)]]) s r v L1 lim cnt (rd+1)) (fun i=>i<=ks.length) (fun i=>ks.length-i) C_ok 0 rfl (by rw[hz0];rfl) (YAX _) (by decide) ?_
 rintro i hi
 simp only[List.drop_succ_cons,List.drop_zero,List.cons_append,List.nil_append]
 by_cases hlt:i<ks.length
 ·have hri:ks.getD i 0<L1.length:=by rw[hlen1];exact hrl _ (by simp[hlt])
  have hki:(L1.getD (ks.getD i 0) default).1.kind=S.kind (ks.getD i 0):=by rw[<-L1.nd,hst1];rfl
  have hstep:cntH S to (ks.take (i+1))=cntH S to (ks.take i)+if(decide (S.kind (ks.getD i 0)≠6)&&hld S to (ks.getD i 0))=true then 1 else 0:=by
   simp only[cntH]
   rw[List.take_add_one,YAI hlt,Option.toList_some,List.countP_append,List.countP_singleton]
   simp[hlt]
  have hle:cntH S to (ks.take i)<=1000000:=Nat.le_trans List.countP_le_length (by simp;omega)
  obtain⟨z1,z2⟩:=hzs i hlt
  by_cases h6:S.kind (ks.getD i 0)=6
  ·have h6':(S.kind (ks.getD i 0) !=6)=false:=bne_eq_false_iff_eq.2 h6
   rw[if_neg (by simp only[h6,ne_eq,not_true_eq_false,decide_false,Bool.false_and,YAB,not_false_eq_true]),Nat.add_zero]at hstep
   have h:=YAN
   repeat' (first
    |(with_reducible first|apply bA|apply bB|apply bC|apply bD|apply bE|apply bF)<;>intro h
    |refine drA C_ok 13 0 ?_
    |refine drA C_ok 22 0 ?_
    |skip)<;>simp only[h,↓zaL,↓zHC,WY,reduceIte,yA,yB,yC,yD,reduceCtorEq,yE,yF,W1,WS,hpS,bxS,arS,stP hs hr hne,zTh,zTg,yN,zOg,zMZ,YAK,hlt,zMY hlt,hri,zOf hri,zGZ,hki,h6']
   refine⟨i+1,by omega,by omega,zap (by rw[z1 h6]) ?_⟩
   simp only[WK,↓zaL,↓zHC,yA,reduceIte,yN,yO,yR,yP,yQ,yB,yC,zbX hlt hmx2,hstep,Nat.add_zero]
  ·have h6':(S.kind (ks.getD i 0) !=6)=true:=bne_iff_ne.2 h6
   have qh:=z2 h6 (hpS (F++ [.map (embM to),.map (embM (Zs i)),.map [],.box [.bptr s 0,.mp F.length,.mp (F.length+1),.mp (F.length+2)]]) s r v L1 lim cnt (rd+1)) (by simp only[hpS,bxS,arS,stP hs hr hne,zTh,zTg,yN,zOg,cpB];rfl) (by simp only[hpS,bxS,arS,stP hs hr hne,zTh,zTg,yN,zOg,hlen1]) (by simp only[hpS,bxS,arS,stP hs hr hne,zTh,zTg,yN,zOg]) (by simp only[hpS,bxS,arS,stP hs hr hne,zTh,zTg,yN,zOg];rfl) (by simp only[hpS,bxS,arS,stP hs hr hne,zTh,zTg,yN,zOg];rfl)
   have w1:IntKind.wrap .i64 ((cntH S to (ks.take i):Nat)+1:Int)=((cntH S to (ks.take i)+1:Nat):Int):=by rw[zbT (by omega) (by omega)];omega
   cases hh:hld S to (ks.getD i 0)
   ·rw[hh]at qh hstep
    rw[if_neg (by simp only[Bool.and_false,YAB,not_false_eq_true]),Nat.add_zero]at hstep
    have h:=YAN
    repeat' (first
     |(with_reducible first|apply bA|apply bB|apply bC|apply bD|apply bE|apply bF)<;>intro h
     |((first|apply bG|apply bH);simp only[yP,yQ,W2,hpS,bxS,arS,stP hs hr hne,zTh,zTg,yN,zOg,zMZ,YAK,hlt,zMY hlt,hri,zOf hri,zGZ,hki,h6'];refine zIA (qh) (.inl rfl) (fun hb=>zd9 (zGW _ _) hb) ?_)
     |refine drA C_ok 13 0 ?_
     |refine drA C_ok 22 0 ?_
     |skip)<;>simp only[h,↓zaL,↓zHC,WY,reduceIte,yA,yB,yC,yD,reduceCtorEq,yE,yF,W1,WS,hpS,bxS,arS,stP hs hr hne,zTh,zTg,yN,zOg,zMZ,YAK,hlt,zMY hlt,hri,zOf hri,zGZ,hki,h6']
    refine⟨i+1,by omega,by omega,zap rfl ?_⟩
    simp only[WK,↓zaL,↓zHC,yA,reduceIte,yN,yO,yR,yP,yQ,yB,yC,zbX hlt hmx2,hstep,Nat.add_zero]
   ·rw[hh]at qh hstep
    rw[if_pos (by simp only[ne_eq,h6,not_false_eq_true,decide_true,Bool.true_and])]at hstep
    have h:=YAN
    repeat' (first
     |(with_reducible first|apply bA|apply bB|apply bC|apply bD|apply bE|apply bF)<;>intro h
     |((first|apply bG|apply bH);simp only[yP,yQ,W2,hpS,bxS,arS,stP hs hr hne,zTh,zTg,yN,zOg,zMZ,YAK,hlt,zMY hlt,hri,zOf hri,zGZ,hki,h6',w1];refine zIA (qh) (.inl rfl) (fun hb=>zd9 (zGW _ _) hb) ?_)
     |refine drA C_ok 13 0 ?_
     |refine drA C_ok 22 0 ?_
     |skip)<;>simp only[h,↓zaL,↓zHC,WY,reduceIte,yA,yB,yC,yD,reduceCtorEq,yE,yF,W1,WS,hpS,bxS,arS,stP hs hr hne,zTh,zTg,yN,zOg,zMZ,YAK,hlt,zMY hlt,hri,zOf hri,zGZ,hki,h6',w1]
    refine⟨i+1,by omega,by omega,zap rfl ?_⟩
    simp only[WK,↓zaL,↓zHC,yA,reduceIte,yN,yO,yR,yP,yQ,yB,yC,zbX hlt hmx2,hstep,Nat.add_zero]
 ·have hi':i=ks.length:=by omega
  subst hi'
  rw[List.take_length]
  have w2:IntKind.wrap .i64 (lim-cnt)=lim-cnt:=zbT (by omega) (by omega)
  have hng:(lim-cnt<(cntH S to ks:Nat))=True:=by simp only[YAb,iff_true];omega
  have h:=YAN
  repeat' (first
   |(with_reducible first|apply bA|apply bB|apply bC|apply bD|apply bE|apply bF)<;>intro h
   |refine drA C_ok 13 0 ?_
   |refine drA C_ok 22 0 ?_
   |skip)<;>simp only[h,↓zaL,↓zHC,WY,reduceIte,yA,yB,yC,yD,reduceCtorEq,yE,yF,W1,WS,hpS,bxS,arS,stP hs hr hne,zTh,zTg,yN,zOg,zMZ,YAK,Nat.lt_irrefl,Int.lt_irrefl,w2,hng,zTh,zTg]
  all_goals first|exact⟨rfl,rfl⟩|rfl
theorem zn7(hs:s<F.length)(hr:r<F.length)(hne:r≠s)(hSI:SI L rd)(hL:L.length+inn L.st<=1000000)(hrd:rd<=1000000000)(hc:0<=cnt)(hlim:lim<=65536)(hcnt:cnt<=lim)(n:Nat)(hn:n<L.length){fr tt:List Int}(hfl:fr.length<=1000000){rs xs:List Nat}(hG:FrG L fr tt rs xs)(hlF:rs.length=fr.length){Zs:Nat->List (Int×Int)}(hz0:Zs 0=[])
 (hzs:∀i,i<(L.st.all n).length->(L.st.kind ((L.st.all n).getD i 0)=6->Zs (i+1)=Zs i)/\(L.st.kind ((L.st.all n).getD i 0)≠6->∀G:List AObj,G[F.length+3]?=some (cpB s F.length (F.length+1) (F.length+2))->G[s]?=some (bxS r v L.length lim cnt (rd+1))->G[r]?=some (arS v (mkL L (rd+1) (L.st.all n)))->G[F.length]?=some (.map (embM (toM rs xs)))->G[F.length+1]?=some (.map (embM (Zs i)))->
  DCalls Try.prog 92 [.bptr (F.length+3) 0,.int .i64 ((L.st.all n).getD i 0:Nat)] G (.bool (hld L.st (toM rs xs) ((L.st.all n).getD i 0))) (G.set (F.length+1) (.map (embM (Zs (i+1)))))))
 (hk:(cntH L.st (toM rs xs) (L.st.all n):Int)<=lim-cnt) {v':Nat} {L':Mem} {cnt':Int} {Z' M':List (Int×Int)} {m:Nat}
 (hcp:∀G:List AObj,SixD G s r (F.length+3) F.length (F.length+1) (F.length+2)->DCalls Try.prog 93 [.bptr (F.length+3) 0,.int .i64 n] (hpC G s r (F.length+3) F.length (F.length+1) (F.length+2) v (mkL L (rd+1) (L.st.all n)) lim cnt (rd+1) (toM rs xs) (Zs (L.st.all n).length) []) (.int .i64 m) (hpC G s r (F.length+3) F.length (F.length+1) (F.length+2) v' L' lim cnt' (rd+1) (toM rs xs) Z' M')):
 DCalls Try.prog 38 [.bptr s 0,.int .i64 n,.sl (fr.map I64) .no,.sl (tt.map I64) .no] (hpS F s r v L lim cnt rd) (.tup [.int .i64 m,.int .i64 0]) (hpS F s r v' L' lim cnt' (rd+1)):=by
 have q1:=fun F hs hr=>zMI (F:=F) (s:=s) (r:=r) (v:=v) (L:=L) (lim:=lim) (cnt:=cnt) (rd:=rd) hs hr hne hn
 have hmx0:=hG.lt
 unfold DCalls
 refine eD C_ok Try.func38 Try.results38 fun ok=> ?_
 have h:=YAN
 repeat' (first
  |(with_reducible first|apply bA|apply bB|apply bC|apply bD|apply bE|apply bF)<;>intro h
  |((first|apply bG|apply bH);simp only[yP,yQ,W2,hpS,bxS,arS,stP hs hr hne,zTh,zTg,yN,zOg,YAK,hG.lt,YAO];refine zIB (q1 _ (by first|exact hs|simp<;>omega) (by first|exact hr|simp<;>omega)) (.inl rfl) ?_)
  |refine drA C_ok 13 0 ?_
  |refine drA C_ok 22 0 ?_
  |skip)<;>simp only[h,↓zaL,↓zHC,WY,reduceIte,yA,yB,yC,yD,reduceCtorEq,yE,yF,W1,WS,hpS,bxS,arS,stP hs hr hne,zTh,zTg,yN,zOg,YAK,hG.lt,YAO]
 refine zCN [38,0,1,3,10,36,37] ?_
 simp only[List.map_cons,List.map_nil,↓zaL,↓zHC,WY,reduceIte,yA,yB,yC,yD,reduceCtorEq,yE,yF,W1,WS]
 have hl0:F.length<=F.length:=YAV _
 have hmx:fr.length<=maxLen:=by rw[zPC];omega
 refine zJ1 1 (fun i:Nat=> [(38,.int .i64 i)]) (fun i=>hpS (F++ [.map (embM (toM (rs.take i) (xs.take i))),.map [],.map [],.box [.bptr s 0,.mp F.length,.mp (F.length+1),.mp (F.length+2)]]) s r v L lim cnt rd) (fun i=>i<=rs.length) (fun i=>rs.length-i) C_ok 0 rfl rfl (YAX _) (by decide) ?_
 rintro i hi
 simp only[List.drop_succ_cons,List.drop_zero,List.cons_append,List.nil_append]
 have hlf:=hG.lf
 by_cases hltr:i<rs.length
 ·obtain⟨f,ef,hf1,hf2,hf3,ex,ht1⟩:=hG.g i hltr
  have hlt:i<fr.length:=by omega
  have hlt2:i<tt.length:=by omega
  have qr:=fun F hs hr=>zUI (F:=F) (s:=s) (r:=r) (v:=v) (L:=L) (lim:=lim) (cnt:=cnt) (rd:=rd) hs hr hne hSI.wf f hf1
  rw[hf2]at qr
  have hrl:rs.getD i 0<L.length:=by rw[<-hf2];have:=hSI.wf.root_lt f (by rw[Mem.zXR];exact hf1);rwa[Mem.zXR]at this
  have qi:=fun F hs hr=>zMI (F:=F) (s:=s) (r:=r) (v:=v) (L:=L) (lim:=lim) (cnt:=cnt) (rd:=rd) hs hr hne ht1
  have hk6:(L.getD (rs.getD i 0) default).1.kind=6:=by rw[<-L.nd];exact hf3
  obtain⟨hg,hp⟩:=zqD hG.le hG.nd hltr
  have hneg:(((rs.getD i 0:Nat):Int)<0)=False:=by simp
  have g1:(fr.map I64).getD i .any= .int .i64 f:=by rw[zOt hlt,ef];rfl
  have g2:(tt.map I64).getD i .any= .int .i64 ((xs.getD i 0:Nat):Int):=by rw[zOt hlt2,ex];rfl
  have h:=YAN
  repeat' (first
   |(with_reducible first|apply bA|apply bB|apply bC|apply bD|apply bE|apply bF)<;>intro h
   |((first|apply bG|apply bH);simp only[yP,yQ,W2,hpS,bxS,arS,stP hs hr hne,zTh,zTg,yN,zOg,YAK,hlt,hlt2,g1,g2,hneg,hrl,zOf hrl,zGZ,hk6,YAO,zHe,zHx,zPN,zOl,zMT,hg,hp,Option.getD_none,Option.isSome_none,yN,implies_true];first|refine zIB (qr _ (by first|exact hs|simp<;>omega) (by first|exact hr|simp<;>omega)) (.inl rfl) ?_|refine zIB (qi _ (by first|exact hs|simp<;>omega) (by first|exact hr|simp<;>omega)) (.inl rfl) ?_)
   |refine drA C_ok 13 0 ?_
   |refine drA C_ok 22 0 ?_
   |skip)<;>simp only[h,↓zaL,↓zHC,WY,reduceIte,yA,yB,yC,yD,reduceCtorEq,yE,yF,W1,WS,hpS,bxS,arS,stP hs hr hne,zTh,zTg,yN,zOg,YAK,hlt,hlt2,g1,g2,hneg,hrl,zOf hrl,zGZ,hk6,YAO,zHe,zHx,zPN,zOl,zMT,hg,hp,Option.getD_none,Option.isSome_none,yN,implies_true]
  refine⟨i+1,by omega,by omega,zap rfl ?_⟩
  simp only[WK,↓zaL,↓zHC,yA,reduceIte,yN,yO,yR,yP,yQ,yB,yC,zbX hlt hmx]
 have hi':i=rs.length:=by omega
 subst hi'
 have e1:rs.take rs.length=rs:=List.take_length
 have e2:xs.take rs.length=xs:=by rw[hG.le,List.take_length]
 have qa:=fun F hs hr=>zUT (F:=F) (s:=s) (r:=r) (v:=v) (L:=L) (lim:=lim) (cnt:=cnt) (rd:=rd) hs hr hne hSI.wf hSI.mb (by omega) ⟨hSI.rd0,by omega⟩ n hn
 have hal:=zCG hSI.wf hn
 have hmx2:(L.st.all n).length<=maxLen:=by rw[zPC];omega
 have hrl:∀x∈L.st.all n,x<L.length:=fun x hx=>by
  have:=((hSI.wf.zPE (by rw[Mem.zXR];exact hn)).1 hx).lt hSI.wf (by rw[Mem.zXR];exact hn)
  rwa[Mem.zXR]at this
 simp only[e1,e2]
 generalize toM rs xs=to at*
 have hst1:(mkL L (rd+1) (L.st.all n)).st=L.st:=zPY _ _ _
 have hlen1:(mkL L (rd+1) (L.st.all n)).length=L.length:=zPW _ _ _
 generalize mkL L (rd+1) (L.st.all n)=L1 at*
 (have hcp':=hcp (F++cpJ F s to (Zs (L.st.all n).length) []) (locD hs hr hne (by simp[cpJ]));rw[zob hs hr,zob hs hr]at hcp')
 generalize hS:L.st=S at*
 generalize S.all n=ks at*
 have h:=YAN
 repeat' (first
  |(with_reducible first|apply bA|apply bB|apply bC|apply bD|apply bE|apply bF)<;>intro h
  |((first|apply bG|apply bH);simp only[yP,yQ,W2,hpS,bxS,arS,stP hs hr hne,zTh,zTg,yN,zOg,zMZ,YAK,hlF,hG.lt,Nat.lt_irrefl,Int.lt_irrefl];refine zIA (qa _ (by first|exact hs|simp<;>omega) (by first|exact hr|simp<;>omega)) (.inl rfl) (fun hb=>zLV (by first|exact hs|simp<;>omega) (by first|exact hr|simp<;>omega) hne hb) ?_)
  |refine drA C_ok 13 0 ?_
  |refine drA C_ok 22 0 ?_
  |skip)<;>simp only[h,↓zaL,↓zHC,WY,reduceIte,yA,yB,yC,yD,reduceCtorEq,yE,yF,W1,WS,hpS,bxS,arS,stP hs hr hne,zTh,zTg,yN,zOg,zMZ,YAK,hlF,hG.lt,Nat.lt_irrefl,Int.lt_irrefl]
 refine zCN [16,92,0,1,10,90,91] ?_
 simp only[List.map_cons,List.map_nil,↓zaL,↓zHC,WY,reduceIte,yA,yB,yC,yD,reduceCtorEq,yE,yF,W1,WS]
 refine zJ1 2 (fun i:Nat=> [(16,.int .i64 (cntH S to (ks.take i):Nat)),(92,.int .i64 i)]) (fun i=>hpS (F++ [.map (embM to),.map (embM (Zs i)),.map [],.box [.bptr s 0,.mp F.length,.mp (F.length+1),.mp (F.length+2)]]) s r v L1 lim cnt (rd+1)) (fun i=>i<=ks.length) (fun i=>ks.length-i) C_ok 0 rfl (by rw[hz0];rfl) (YAX _) (by decide) ?_
 rintro i hi
 simp only[List.drop_succ_cons,List.drop_zero,List.cons_append,List.nil_append]
 by_cases hlt:i<ks.length
 ·have hri:ks.getD i 0<L1.length:=by rw[hlen1];exact hrl _ (by simp[hlt])
  have hki:(L1.getD (ks.getD i 0) default).1.kind=S.kind (ks.getD i 0):=by rw[<-L1.nd,hst1];rfl
  have hstep:cntH S to (ks.take (i+1))=cntH S to (ks.take i)+if(decide (S.kind (ks.getD i 0)≠6)&&hld S to (ks.getD i 0))=true then 1 else 0:=by
   simp only[cntH]
   rw[List.take_add_one,YAI hlt,Option.toList_some,List.countP_append,List.countP_singleton]
   simp[hlt]
  have hle:cntH S to (ks.take i)<=1000000:=Nat.le_trans List.countP_le_length (by simp;omega)
  obtain⟨z1,z2⟩:=hzs i hlt
  by_cases h6:S.kind (ks.getD i 0)=6
  ·have h6':(S.kind (ks.getD i 0) !=6)=false:=bne_eq_false_iff_eq.2 h6
   rw[if_neg (by simp only[h6,ne_eq,not_true_eq_false,decide_false,Bool.false_and,YAB,not_false_eq_true]),Nat.add_zero]at hstep
   have h:=YAN
   repeat' (first
    |(with_reducible first|apply bA|apply bB|apply bC|apply bD|apply bE|apply bF)<;>intro h
    |refine drA C_ok 13 0 ?_
    |refine drA C_ok 22 0 ?_
    |skip)<;>simp only[h,↓zaL,↓zHC,WY,reduceIte,yA,yB,yC,yD,reduceCtorEq,yE,yF,W1,WS,hpS,bxS,arS,stP hs hr hne,zTh,zTg,yN,zOg,zMZ,YAK,hlt,zMY hlt,hri,zOf hri,zGZ,hki,h6']
   refine⟨i+1,by omega,by omega,zap (by rw[z1 h6]) ?_⟩
   simp only[WK,↓zaL,↓zHC,yA,reduceIte,yN,yO,yR,yP,yQ,yB,yC,zbX hlt hmx2,hstep,Nat.add_zero]
  ·have h6':(S.kind (ks.getD i 0) !=6)=true:=bne_iff_ne.2 h6
   have qh:=z2 h6 (hpS (F++ [.map (embM to),.map (embM (Zs i)),.map [],.box [.bptr s 0,.mp F.length,.mp (F.length+1),.mp (F.length+2)]]) s r v L1 lim cnt (rd+1)) (by simp only[hpS,bxS,arS,stP hs hr hne,zTh,zTg,yN,zOg,cpB];rfl) (by simp only[hpS,bxS,arS,stP hs hr hne,zTh,zTg,yN,zOg,hlen1]) (by simp only[hpS,bxS,arS,stP hs hr hne,zTh,zTg,yN,zOg]) (by simp only[hpS,bxS,arS,stP hs hr hne,zTh,zTg,yN,zOg];rfl) (by simp only[hpS,bxS,arS,stP hs hr hne,zTh,zTg,yN,zOg];rfl)
   have w1:IntKind.wrap .i64 ((cntH S to (ks.take i):Nat)+1:Int)=((cntH S to (ks.take i)+1:Nat):Int):=by rw[zbT (by omega) (by omega)];omega
   cases hh:hld S to (ks.getD i 0)
   ·rw[hh]at qh hstep
    rw[if_neg (by simp only[Bool.and_false,YAB,not_false_eq_true]),Nat.add_zero]at hstep
    have h:=YAN
    repeat' (first
     |(with_reducible first|apply bA|apply bB|apply bC|apply bD|apply bE|apply bF)<;>intro h
     |((first|apply bG|apply bH);simp only[yP,yQ,W2,hpS,bxS,arS,stP hs hr hne,zTh,zTg,yN,zOg,zMZ,YAK,hlt,zMY hlt,hri,zOf hri,zGZ,hki,h6'];refine zIA (qh) (.inl rfl) (fun hb=>zd9 (zGW _ _) hb) ?_)
     |refine drA C_ok 13 0 ?_
     |refine drA C_ok 22 0 ?_
     |skip)<;>simp only[h,↓zaL,↓zHC,WY,reduceIte,yA,yB,yC,yD,reduceCtorEq,yE,yF,W1,WS,hpS,bxS,arS,stP hs hr hne,zTh,zTg,yN,zOg,zMZ,YAK,hlt,zMY hlt,hri,zOf hri,zGZ,hki,h6']
    refine⟨i+1,by omega,by omega,zap rfl ?_⟩
    simp only[WK,↓zaL,↓zHC,yA,reduceIte,yN,yO,yR,yP,yQ,yB,yC,zbX hlt hmx2,hstep,Nat.add_zero]
   ·rw[hh]at qh hstep
    rw[if_pos (by simp only[ne_eq,h6,not_false_eq_true,decide_true,Bool.true_and])]at hstep
    have h:=YAN
    repeat' (first
     |(with_reducible first|apply bA|apply bB|apply bC|apply bD|apply bE|apply bF)<;>intro h
     |((first|apply bG|apply bH);simp only[yP,yQ,W2,hpS,bxS,arS,stP hs hr hne,zTh,zTg,yN,zOg,zMZ,YAK,hlt,zMY hlt,hri,zOf hri,zGZ,hki,h6',w1];refine zIA (qh) (.inl rfl) (fun hb=>zd9 (zGW _ _) hb) ?_)
     |refine drA C_ok 13 0 ?_
     |refine drA C_ok 22 0 ?_
     |skip)<;>simp only[h,↓zaL,↓zHC,WY,reduceIte,yA,yB,yC,yD,reduceCtorEq,yE,yF,W1,WS,hpS,bxS,arS,stP hs hr hne,zTh,zTg,yN,zOg,zMZ,YAK,hlt,zMY hlt,hri,zOf hri,zGZ,hki,h6',w1]
    refine⟨i+1,by omega,by omega,zap rfl ?_⟩
    simp only[WK,↓zaL,↓zHC,yA,reduceIte,yN,yO,yR,yP,yQ,yB,yC,zbX hlt hmx2,hstep,Nat.add_zero]
 ·have hi':i=ks.length:=by omega
  subst hi'
  rw[List.take_length]
  have w2:IntKind.wrap .i64 (lim-cnt)=lim-cnt:=zbT (by omega) (by omega)
  have hng:(lim-cnt<(cntH S to ks:Nat))=False:=by simp only[YAb,iff_false];omega
  have h:=YAN
  repeat' (first
   |(with_reducible first|apply bA|apply bB|apply bC|apply bD|apply bE|apply bF)<;>intro h
   |((first|apply bG|apply bH);simp only[yP,yQ,W2,hpS,bxS,arS,stP hs hr hne,zTh,zTg,yN,zOg,zMZ,YAK,Nat.lt_irrefl,Int.lt_irrefl,w2,hng,zTh,zTg];refine zIA (hcp') (.inl rfl) (fun hb=>belJ hs hr hne hl0 hb) ?_)
   |refine drA C_ok 13 0 ?_
   |refine drA C_ok 22 0 ?_
   |skip)<;>simp only[h,↓zaL,↓zHC,WY,reduceIte,yA,yB,yC,yD,reduceCtorEq,yE,yF,W1,WS,hpS,bxS,arS,stP hs hr hne,zTh,zTg,yN,zOg,zMZ,YAK,Nat.lt_irrefl,Int.lt_irrefl,w2,hng,zTh,zTg]
  all_goals first|exact⟨rfl,rfl⟩|rfl
end
end
section
theorem CpR.det{S:St}{to:List (Int×Int)}{n v:Nat}{L:Mem}{M:List (Int×Int)}{v1:Nat}{L1:Mem}{M1:List (Int×Int)}{x1:Nat}(h:CpR S to n v L M v1 L1 M1 x1):
 ∀ {v2:Nat} {L2:Mem} {M2:List (Int×Int)} {x2:Nat},CpR S to n v L M v2 L2 M2 x2->v1=v2/\L1=L2/\M1=M2/\x1=x2:=by
 induction h with
 |to n v L M x h1=>
  intro v2 L2 M2 x2 k
  cases k with
  |to _ _ _ _ _ k1=>rw[h1]at k1;cases k1;exact⟨rfl,rfl,rfl,by omega⟩
  |old _ _ _ _ k1=>rw[h1]at k1;cases k1
  |made _ _ _ _ _ k1=>rw[h1]at k1;cases k1
  |two _ _ _ _ _ _ _ _ _ _ _ _ _ _ k1=>rw[h1]at k1;cases k1
  |one _ _ _ _ _ _ _ _ _ k1=>rw[h1]at k1;cases k1
 |old n v L M h1 h2=>
  intro v2 L2 M2 x2 k
  cases k with
  |to _ _ _ _ _ k1=>rw[h1]at k1;cases k1
  |old _ _ _ _ k1=>exact⟨rfl,rfl,rfl,rfl⟩
  |made _ _ _ _ _ k1 k2=>rw[h2]at k2;cases k2
  |two _ _ _ _ _ _ _ _ _ _ _ _ _ _ k1 k2=>rw[h2]at k2;cases k2
  |one _ _ _ _ _ _ _ _ _ k1 k2=>rw[h2]at k2;cases k2
 |made n v L M x h1 h2 h3=>
  intro v2 L2 M2 x2 k
  cases k with
  |to _ _ _ _ _ k1=>rw[h1]at k1;cases k1
  |old _ _ _ _ k1 k2=>rw[h2]at k2;cases k2
  |made _ _ _ _ _ k1 k2 k3=>rw[h3]at k3;cases k3;exact⟨rfl,rfl,rfl,by omega⟩
  |two _ _ _ _ _ _ _ _ _ _ _ _ _ _ k1 k2 k3=>rw[h3]at k3;cases k3
  |one _ _ _ _ _ _ _ _ _ k1 k2 k3=>rw[h3]at k3;cases k3
 |two n v L M i j v1 L1 M1 a1 w1 L2 M2 a2 h1 h2 h3 h4 h5 h6 h7 h8 ih1 ih2=>
  intro v2 K2 N2 x2 k
  cases k with
  |to _ _ _ _ _ k1=>rw[h1]at k1;cases k1
  |old _ _ _ _ k1 k2=>rw[h2]at k2;cases k2
  |made _ _ _ _ _ k1 k2 k3=>rw[h3]at k3;cases k3
  |two _ _ _ _ i' j' _ _ _ _ _ _ _ _ k1 k2 k3 k4 k5 k6 k7 k8=>
   rw[h4]at k4
   obtain⟨rfl,rfl⟩:i=i'/\j=j':=by simpa using k4
   obtain⟨rfl,rfl,rfl,rfl⟩:=ih1 k6
   obtain⟨rfl,rfl,rfl,rfl⟩:=ih2 k7
   exact⟨rfl,rfl,rfl,rfl⟩
  |one _ _ _ _ _ _ _ _ _ k1 k2 k3 k4=>rw[h4]at k4;simp at k4
 |one n v L M i v1 L1 M1 a1 h1 h2 h3 h4 h5 h6 h7 ih1=>
  intro v2 K2 N2 x2 k
  cases k with
  |to _ _ _ _ _ k1=>rw[h1]at k1;cases k1
  |old _ _ _ _ k1 k2=>rw[h2]at k2;cases k2
  |made _ _ _ _ _ k1 k2 k3=>rw[h3]at k3;cases k3
  |two _ _ _ _ _ _ _ _ _ _ _ _ _ _ k1 k2 k3 k4=>rw[h4]at k4;simp at k4
  |one _ _ _ _ i' _ _ _ _ k1 k2 k3 k4 k5 k6 k7=>
   rw[h4]at k4
   obtain rfl:i=i':=by simpa using k4
   obtain⟨rfl,rfl,rfl,rfl⟩:=ih1 k6
   exact⟨rfl,rfl,rfl,rfl⟩
inductive CopyQ (L:Mem) (v:Nat) (lim cnt rd:Int) (n:Int) (fr tt:List Int):Int->Int->Nat->Mem->Int->Int->Prop
 |arg:(n<0\/(L.length:Int)<=n)\/0<=n/\n<L.length/\fr.length≠tt.length->CopyQ L v lim cnt rd n fr tt 0 1 v L cnt rd
 |bad (m:Nat) (rs xs:List Nat):n=m->m<L.length->FrG L fr tt rs xs->BadF L fr tt rs->CopyQ L v lim cnt rd n fr tt 0 1 v L cnt rd
 |full (m:Nat) (rs xs:List Nat):n=m->m<L.length->FrG L fr tt rs xs->rs.length=fr.length->lim-cnt<(cntH L.st (toM rs xs) (L.st.all m):Int)->CopyQ L v lim cnt rd n fr tt 0 7 v (mkL L (rd+1) (L.st.all m)) cnt (rd+1)
 |done (m:Nat) (rs xs:List Nat) (v':Nat) (L':Mem) (M':List (Int×Int)) (x:Nat):n=m->m<L.length->FrG L fr tt rs xs->rs.length=fr.length->(cntH L.st (toM rs xs) (L.st.all m):Int)<=lim-cnt->
  CpR L.st (toM rs xs) m v (mkL L (rd+1) (L.st.all m)) [] v' L' M' x->SI L' (rd+1)->L'.length<=L.length+inn L.st->CopyQ L v lim cnt rd n fr tt x 0 v' L' (cnt+(M'.length:Nat)) (rd+1)
theorem FrG.zoP{L:Mem}{fr tt:List Int}{rs xs:List Nat}(hG:FrG L fr tt rs xs)(hw:Wf L.st):TOK L.st (toM rs xs):=fun k x e=>by
 obtain⟨i,h1,h2,h3⟩:=zqB hG.le e
 obtain⟨f,e1,e2,e3,e4,e5,e6⟩:=hG.g i h1
 exact⟨_,_,h2,h3,e4,by rw[Mem.zXR];exact e6⟩
theorem zn6{s r v:Nat}{L:Mem}{lim cnt rd:Int}(hne:r≠s)(hSI:SI L rd)(hL:L.length+inn L.st<=1000000)(hrd:rd<=1000000000)(hc:0<=cnt)(hlim:lim<=65536)(hcnt:cnt<=lim)
 (hb:cnt+((inn L.st:Nat):Int)<=1000000) (n:Int) (fr tt:List Int) (hfl:fr.length<=1000000):
 ∃x e v' L' cnt' rd',CopyQ L v lim cnt rd n fr tt x e v' L' cnt' rd'/\∀F:List AObj,s<F.length->r<F.length->DCalls Try.prog 38 [.bptr s 0,.int .i64 n,.sl (fr.map I64) .no,.sl (tt.map I64) .no] (hpS F s r v L lim cnt rd) (.tup [.int .i64 x,.int .i64 e]) (hpS F s r v' L' lim cnt' rd'):=by
 by_cases h0:(n<0\/(L.length:Int)<=n)\/0<=n/\n<L.length/\fr.length≠tt.length
 ·exact⟨0,1,v,L,cnt,rd,.arg h0,fun F hs hr=>zn8 hs hr hne n fr tt h0⟩
 obtain⟨m,rfl⟩:∃m:Nat,n=m:=⟨n.toNat,by omega⟩
 have hn:m<L.length:=by omega
 have hl:fr.length=tt.length:=by omega
 obtain⟨rs,xs,hG,hB|hB⟩:=zoN L hSI.wf fr tt hl
 rotate_left
 ·exact⟨0,1,v,L,cnt,rd,.bad m rs xs rfl hn hG hB,fun F hs hr=>zn9 hs hr hne hSI m hn hfl hG hB⟩
 have hst1:(mkL L (rd+1) (L.st.all m)).st=L.st:=zPY _ _ _
 have hlen1:(mkL L (rd+1) (L.st.all m)).length=L.length:=zPW _ _ _
 have hrl:∀x∈L.st.all m,x<L.st.length/\L.st.root x=x:=fun x hx=>by
  have:=(hSI.wf.zPE (by rw[Mem.zXR];exact hn)).1 hx
  exact⟨this.lt hSI.wf (by rw[Mem.zXR];exact hn),this.root hSI.wf⟩
 have hX0:CX L.st (toM rs xs) (rd+1) (mkL L (rd+1) (L.st.all m)) [] []:=⟨hSI.mark _,by rw[Mem.zXR,hlen1];exact YAV _,fun i hi=>by rw[hst1],fun i hi=>by rw[hst1];exact⟨rfl,rfl⟩,fun k x e=>by simp[mget]at e,fun k x e=>by simp[mget]at e⟩
 have hz:=fun F:List AObj=>zoW (s:=s) (r:=r) (v:=v) (c:=F.length+3) (m1:=F.length) (m2:=F.length+1) (m3:=F.length+2) (lim:=lim) (cnt:=cnt) (rd:=rd+1) (hX0.sm hSI.wf) (by omega) (L.st.all m) hrl [] hX0.vh
 rw[hlen1]at hz
 by_cases hk:lim-cnt<(cntH L.st (toM rs xs) (L.st.all m):Int)
 ·refine⟨0,7,v,_,cnt,rd+1,.full m rs xs rfl hn hG hB hk,fun F hs hr=> ?_⟩
  obtain⟨Zs,z0,z1,z2⟩:=hz F
  exact zoA hs hr hne hSI hL hrd hc hlim hcnt m hn hfl hG hB z0 (fun i hi=>z2 i hi) hk
 have hK0:KM L.st []:=⟨List.nodup_nil,fun k hk=>by cases hk⟩
 have hcp:=fun F:List AObj=>zoB (s:=s) (r:=r) (c:=F.length+3) (m1:=F.length) (m2:=F.length+1) (m3:=F.length+2) (lim:=lim) (rd:=rd+1) hSI.wf (hG.zoP hSI.wf) (by omega) m (by rw[Mem.zXR];exact hn) v (mkL L (rd+1) (L.st.all m)) cnt
 obtain⟨Z0,y0,y1,y2⟩:=hz []
 obtain⟨v',L',cnt',Z',M',x,o, -⟩:=hcp [] (Z0 (L.st.all m).length) [] (hX0.putH (y1 _ (YAV _))) hK0 (by rw[hlen1];simpa using hL) hc (by simpa using hb)
 have h1:=o.len
 have h3:=o.km.le
 simp only[List.length_nil,Nat.sub_zero]at h1
 refine⟨x,0,v',L',cnt+(M'.length:Nat),rd+1,.done m rs xs v' L' M' x rfl hn hG hB (by omega) o.cr o.cx.si (by omega),fun F hs hr=> ?_⟩
 obtain⟨Zs,z0,z1,z2⟩:=hz F
 obtain⟨v2,L2,cnt2,Z2,M2,x2,o2,q⟩:=hcp F (Zs (L.st.all m).length) [] (hX0.putH (z1 _ (YAV _))) hK0 (by rw[hlen1];simpa using hL) hc (by simpa using hb)
 obtain⟨rfl,rfl,rfl,rfl⟩:=o2.cr.det o.cr
 have h2:=o2.cn
 simp only[List.length_nil,Nat.sub_zero]at h2
 rw[<-h2]
 exact zn7 hs hr hne hSI hL hrd hc hlim hcnt m hn hfl hG hB z0 (fun i hi=>z2 i hi) (by omega) (fun G hG=>q G hG)
theorem CopyQ.det{L:Mem}{v:Nat}{lim cnt rd n:Int}{fr tt:List Int}{x e:Int}{v':Nat}{L':Mem}{cnt' rd':Int}(h:CopyQ L v lim cnt rd n fr tt x e v' L' cnt' rd'){x2 e2:Int}{v2:Nat}{L2:Mem}{cnt2 rd2:Int}(k:CopyQ L v lim cnt rd n fr tt x2 e2 v2 L2 cnt2 rd2):x=x2/\e=e2/\v'=v2/\L'=L2/\cnt'=cnt2/\rd'=rd2:=by
 have uniq:∀ {rs xs rs2 xs2:List Nat},FrG L fr tt rs xs->FrG L fr tt rs2 xs2->rs.length=fr.length->rs2.length=fr.length->rs=rs2/\xs=xs2:=by
  intro rs xs rs2 xs2 g g2 h1 h2
  have l1:=g.le;have l2:=g2.le
  constructor
  ·apply List.ext_getElem (by omega)
   intro i a b
   obtain⟨f,e1,e2,e3,e4,e5,e6⟩:=g.g i a
   obtain⟨f',e1',e2',e3',e4',e5',e6'⟩:=g2.g i b
   have:f=f':=by omega
   subst this
   rw[show rs[i]=rs.getD i 0 by simp[a],show rs2[i]=rs2.getD i 0 by simp[b],<-e3,<-e3']
  ·apply List.ext_getElem (by omega)
   intro i a b
   obtain⟨f,e1,e2,e3,e4,e5,e6⟩:=g.g i (by omega)
   obtain⟨f',e1',e2',e3',e4',e5',e6'⟩:=g2.g i (by omega)
   rw[show xs[i]=xs.getD i 0 by simp[a],show xs2[i]=xs2.getD i 0 by simp[b]];omega
 have nb:∀ {rs xs rs2 xs2:List Nat},FrG L fr tt rs xs->BadF L fr tt rs->FrG L fr tt rs2 xs2->rs2.length=fr.length->False:=by
  intro rs xs rs2 xs2 g hb g2 h2
  obtain⟨hlt,hb⟩:=hb
  obtain⟨f,e1,e2,e3,e4,e5,e6⟩:=g2.g rs.length (by omega)
  rcases hb with hb|⟨f',e',_,hb⟩
  ·omega
  ·obtain rfl:f=f':=by omega
   rcases hb with hb|⟨x,ex,hx,hb|⟨h6,hb⟩⟩
   ·omega
   ·exact hb (by rw[e3];exact e4)
   ·obtain⟨j,hj,ej⟩:=List.mem_iff_getElem.1 hb
    obtain⟨f2,d1,d2,d3,d4,d5,d6⟩:=g.g j hj
    obtain⟨f3,c1,c2,c3,c4,c5,c6⟩:=g2.g j (by omega)
    have:f2=f3:=by omega
    subst this
    have hjj:rs2.getD j 0=rs2.getD rs.length 0:=by rw[<-c3,<-e3,d3,<-ej];simp[hj]
    have hi:rs2[j]'(by omega)=rs2[rs.length]'(by omega):=by
     rw[show rs2[j]'(by omega)=rs2.getD j 0 by simp[show j<rs2.length by omega],show rs2[rs.length]'(by omega)=rs2.getD rs.length 0 by simp[show rs.length<rs2.length by omega]];exact hjj
    have i1:=g2.nd.idxOf_getElem j (by omega)
    have i2:=g2.nd.idxOf_getElem rs.length (by omega)
    rw[hi,i2]at i1;omega
 cases h with
 |arg h=>
  cases k with
  |arg _=>exact⟨rfl,rfl,rfl,rfl,rfl,rfl⟩
  |bad m rs xs hn hm hG hB=>exact⟨rfl,rfl,rfl,rfl,rfl,rfl⟩
  |full m rs xs hn hm hG hl hk=>have:=hG.lt;omega
  |done m rs xs _ _ M' x hn hm hG hl hk hC hS hl'=>have:=hG.lt;omega
 |bad m rs xs hn hm hG hB=>
  cases k with
  |arg _=>exact⟨rfl,rfl,rfl,rfl,rfl,rfl⟩
  |bad m rs xs hn hm hG hB=>exact⟨rfl,rfl,rfl,rfl,rfl,rfl⟩
  |full m rs xs hn hm hG2 hl hk=>exact(nb hG hB hG2 hl).elim
  |done m rs xs _ _ M' x hn hm hG2 hl hk hC hS hl'=>exact(nb hG hB hG2 hl).elim
 |full m rs xs hn hm hG hl hk=>
  cases k with
  |arg h=>have:=hG.lt;omega
  |bad _ _ _ _ _ hG2 hB=>exact(nb hG2 hB hG hl).elim
  |full m2 rs2 xs2 hn2 hm2 hG2 hl2 hk2=>
   obtain rfl:m=m2:=by omega
   exact⟨rfl,rfl,rfl,rfl,rfl,rfl⟩
  |done m2 rs2 xs2 _ _ M' x hn2 hm2 hG2 hl2 hk2 hC hS hl'=>
   obtain rfl:m=m2:=by omega
   obtain⟨rfl,rfl⟩:=uniq hG hG2 hl hl2
   omega
 |done m rs xs _ _ M' x hn hm hG hl hk hC hS hl'=>
  cases k with
  |arg h=>have:=hG.lt;omega
  |bad _ _ _ _ _ hG2 hB=>exact(nb hG2 hB hG hl).elim
  |full m2 rs2 xs2 hn2 hm2 hG2 hl2 hk2=>
   obtain rfl:m=m2:=by omega
   obtain⟨rfl,rfl⟩:=uniq hG hG2 hl hl2
   omega
  |done m2 rs2 xs2 _ _ M2 x2 hn2 hm2 hG2 hl2 hk2 hC2 hS2 hl2'=>
   obtain rfl:m=m2:=by omega
   obtain⟨rfl,rfl⟩:=uniq hG hG2 hl hl2
   obtain⟨rfl,rfl,rfl,rfl⟩:=hC.det hC2
   exact⟨rfl,rfl,rfl,rfl,rfl,rfl⟩
end
section
def touS(S:St)(ws:List Int)(n:Nat):Bool:=(S.all n).any fun z=>decide ((z:Int)∈ws)
def zpU(S:St)(f:Int):Int:=if 0<=f/\f<S.length then(S.root f.toNat:Int)else-1
def acI(b:Nat)(l:List Int):AV:=if l=[]then .sl [] .full else .sl (l.map I64) (.own b)
def tkI(l:List Int):List AObj:=if l=[]then []else [.tok l.length 1]
theorem znz{b:Nat}{l:List Int}(h:l≠[]):acI b l= .sl (l.map I64) (.own b):=if_neg h
theorem zqA{l:List Int}(h:l≠[]):tkI l=[.tok l.length 1]:=if_neg h
section
variable {F : List AObj} {s r v : Nat} {S : St} {lim cnt : Int}
theorem zpj(hs:s<F.length)(hr:r<F.length)(hne:r≠s)(hw:Wf S)(hL:S.length<=1000000)(n:Nat)(hn:n<S.length)(ws:List Int):
 DCalls Try.prog 142 [.bptr s 0,.int .i64 n,.sl (ws.map I64) .no] (hpR F s r v S lim cnt) (.bool (touS S ws n)) (hpR F s r v S lim cnt):=by
 have q3:=zfU (v:=v) (lim:=lim) (cnt:=cnt) hs hr hne hw hL n hn
 have hal:(S.all n).length<=1000000:=Nat.le_trans (zd2 hw hn) hL
 unfold touS
 generalize S.all n=al at*
 have hmax:al.length<=maxLen:=by rw[zPC];omega
 unfold DCalls
 refine eD C_ok Try.func142 Try.results142 fun ok=> ?_
 have h:=YAN
 repeat' (first
  |(with_reducible first|apply bA|apply bB|apply bC|apply bD|apply bE|apply bF)<;>intro h
  |((first|apply bG|apply bH);simp only[yP,yQ,W2,hpR,bxR,arR,stP hs hr hne,zTh,zTg,yN,ze0,zLz,zMZ,YAK];refine zIB (q3) (.inl rfl) ?_)
  |skip)<;>simp only[h,↓zaL,↓zHC,WY,reduceIte,yA,yB,yC,yD,reduceCtorEq,yE,yF,W1,WS,hpR,bxR,arR,stP hs hr hne,zTh,zTg,yN,ze0,zLz,zMZ,YAK]
 refine zCN [8,2,7] ?_
 simp only[List.map_cons,List.map_nil,↓zaL,↓zHC,WY,reduceIte,yA,yB,yC,yD,reduceCtorEq,yE,yF,W1,WS]
 refine zJ1 1 (fun i:Nat=> [(8,.int .i64 i)]) (fun _=>hpR F s r v S lim cnt) (fun i=>i<=al.length/\∀j,j<i->(((al.getD j 0:Nat):Int)∈ws)=False) (fun i=>al.length-i) C_ok 0 rfl rfl ⟨YAX _,fun j hj=>by omega⟩ (by decide) ?_
 rintro i ⟨hi,h1⟩
 simp only[List.drop_succ_cons,List.drop_zero,List.cons_append,List.nil_append]
 by_cases hlt:i<al.length
 ·have q5:=zLc ws (al.getD i 0:Nat)
  by_cases hin:((al.getD i 0:Nat):Int)∈ws
  ·have hany:(al.any fun z=>decide ((z:Int)∈ws))=true:=List.any_eq_true.2 ⟨al.getD i 0,by simp[hlt],by simpa using hin⟩
   rw[decide_eq_true hin]at q5
   rw[hany]
   have h:=YAN
   repeat' (first
    |(with_reducible first|apply bA|apply bB|apply bC|apply bD|apply bE|apply bF)<;>intro h
    |((first|apply bG|apply bH);simp only[yP,yQ,W2,hpR,bxR,arR,stP hs hr hne,zTh,zTg,yN,ze0,hlt,zMZ,YAK,zMY hlt,zLz];first|refine zIf (q5) (.inl rfl) ?_|refine zIj (q5) (.inl rfl) ?_)
    |skip)<;>simp only[h,↓zaL,↓zHC,WY,reduceIte,yA,yB,yC,yD,reduceCtorEq,yE,yF,W1,WS,hpR,bxR,arR,stP hs hr hne,zTh,zTg,yN,ze0,hlt,zMZ,YAK,zMY hlt,zLz]
   all_goals first|exact⟨rfl,rfl⟩|rfl
  ·rw[decide_eq_false hin]at q5
   have h:=YAN
   repeat' (first
    |(with_reducible first|apply bA|apply bB|apply bC|apply bD|apply bE|apply bF)<;>intro h
    |((first|apply bG|apply bH);simp only[yP,yQ,W2,hpR,bxR,arR,stP hs hr hne,zTh,zTg,yN,ze0,hlt,zMZ,YAK,zMY hlt,zLz];first|refine zIf (q5) (.inl rfl) ?_|refine zIj (q5) (.inl rfl) ?_)
    |skip)<;>simp only[h,↓zaL,↓zHC,WY,reduceIte,yA,yB,yC,yD,reduceCtorEq,yE,yF,W1,WS,hpR,bxR,arR,stP hs hr hne,zTh,zTg,yN,ze0,hlt,zMZ,YAK,zMY hlt,zLz]
   refine⟨i+1,⟨hlt,fun j hj=> ?_⟩,by omega,zap rfl ?_⟩
   ·by_cases e:j=i
    ·subst e;exact eq_false hin
    ·exact h1 j (by omega)
   ·simp only[WK,↓zaL,↓zHC,yA,reduceIte,yN,yO,yR,yP,yQ,yB,yC,zbX hlt hmax]
 ·have hi':i=al.length:=by omega
  subst hi'
  have hany:(al.any fun z=>decide ((z:Int)∈ws))=false:=by
   rw[List.any_eq_false]
   intro z hz
   obtain⟨j,hj,rfl⟩:=List.mem_iff_getElem.1 hz
   have:=h1 j hj
   rw[show al.getD j 0=al[j]by simp[hj]]at this
   simp[this]
  rw[hany]
  have h:=YAN
  repeat' (first
   |(with_reducible first|apply bA|apply bB|apply bC|apply bD|apply bE|apply bF)<;>intro h
   |skip)<;>simp only[h,↓zaL,↓zHC,WY,reduceIte,yA,yB,yC,yD,reduceCtorEq,yE,yF,W1,WS,hpR,bxR,arR,stP hs hr hne,zTh,zTg,yN,ze0,zMZ,YAK,Nat.lt_irrefl,Int.lt_irrefl]
  all_goals first|exact⟨rfl,rfl⟩|rfl
theorem zpV(hs:s<F.length)(hr:r<F.length)(hne:r≠s)(hw:Wf S)(f:Int):DCalls Try.prog 102 [.bptr s 0,.int .i64 f] (hpR F s r v S lim cnt) (.int .i64 (zpU S f)) (hpR F s r v S lim cnt):=by
 unfold zpU
 by_cases h:0<=f/\f<S.length
 ·rw[if_pos h]
  obtain⟨m,rfl⟩:∃m:Nat,f=m:=⟨f.toNat,by omega⟩
  exact zgO hs hr hne hw m (by omega)
 ·rw[if_neg h];exact zgQ hs hr hne f (by omega)
theorem zok{α β:Type} [Inhabited α]{l:List α}{g:α->β}{i:Nat}{d:α}(h:i<l.length):(l.take (i+1)).map g=(l.take i).map g++ [g (l.getD i d)]:=by
 rw[List.take_add_one,YAI h,Option.toList_some,List.map_append,YAF,YAI h];rfl
theorem zpg(hs:s<F.length)(hr:r<F.length)(hne:r≠s)(hw:Wf S)(fr:List Int)(hfl:fr.length<=100000):
 zAA Try.prog 141 [.bptr s 0,.sl (fr.map I64) .no] (hpR F s r v S lim cnt) fun x G=>x=acI F.length (fr.map (zpU S))/\G=hpR (F++tkI (fr.map (zpU S))) s r v S lim cnt:=by
 have hmax:fr.length<=maxLen:=by rw[zPC];omega
 refine eE C_ok Try.func141 Try.results141 fun ok=> ?_
 have h:=YAN
 repeat' (first
  |(with_reducible first|apply bA|apply bB|apply bC|apply bD|apply bE|apply bF)<;>intro h
  |skip)<;>simp only[h,↓zaL,↓zHC,WY,reduceIte,yA,yB,yC,yD,reduceCtorEq,yE,yF,W1,WS,hpR,bxR,arR,stP hs hr hne,zTh,zTg,yN,ze0,zTi]
 refine zCN [5,6,0,1] ?_
 simp only[List.map_cons,List.map_nil,↓zaL,↓zHC,WY,reduceIte,yA,yB,yC,yD,reduceCtorEq,yE,yF,W1,WS]
 refine zJ1 2 (fun i:Nat=> [(5,acI F.length ((fr.take i).map (zpU S))),(6,.int .i64 i)]) (fun i=>hpR (F++tkI ((fr.take i).map (zpU S))) s r v S lim cnt) (fun i=>i<=fr.length) (fun i=>fr.length-i) C_ok 0 rfl (by simp[tkI,hpR,bxR,arR]) (YAX _) (by decide) ?_
 rintro i hi
 simp only[List.drop_succ_cons,List.drop_zero,List.cons_append,List.nil_append]
 by_cases hlt:i<fr.length
 ·have g1:(fr.map I64).getD i .any= .int .i64 (fr.getD i 0):=zOt hlt
  have hst:=zok (g:=zpU S) (d:=0) hlt
  have hq:=fun F hs hr=>zpV (F:=F) (s:=s) (r:=r) (v:=v) (S:=S) (lim:=lim) (cnt:=cnt) hs hr hne hw (fr.getD i 0)
  by_cases h0:i=0
  ·subst h0
   have hst0:(fr.take (0+1)).map (zpU S)=[zpU S (fr.getD 0 0)]:=by rw[hst];rfl
   simp only[List.take_zero,List.map_nil,acI,tkI,if_true,List.append_nil]
   generalize zpU S (fr.getD 0 0)=w at*
   have h:=YAN
   repeat' (first
    |(with_reducible first|apply bA|apply bB|apply bC|apply bD|apply bE|apply bF)<;>intro h
    |((first|apply bG|apply bH);simp only[yP,yQ,W2,hpR,bxR,arR,stP hs hr hne,zTh,zTg,yN,ze0,hlt,YAK,g1];refine zIB (hq _ (by first|exact hs|simp<;>omega) (by first|exact hr|simp<;>omega)) (.inl rfl) ?_)
    |skip)<;>simp only[h,↓zaL,↓zHC,WY,reduceIte,yA,yB,yC,yD,reduceCtorEq,yE,yF,W1,WS,hpR,bxR,arR,stP hs hr hne,zTh,zTg,yN,ze0,hlt,YAK,g1]
   refine⟨0+1,hlt,by omega,zap ?_ ?_⟩
   ·have hl1:(fr.take (0+1)).length=1:=by simp;omega
    rw[hst0,if_neg (by simp),hl1]
   ·simp only[WK,↓zaL,↓zHC,yA,reduceIte,yN,yO,yR,yP,yQ,yB,yC,zbX hlt hmax]
    exact .inl (by rw[hst0,if_neg (by simp)];rfl)
  ·have hne0:(fr.take i).map (zpU S)≠[]:=by
    intro e
    have:=congrArg List.length e
    simp only[YAK,List.length_take,List.length_nil]at this
    omega
   have hlen:((fr.take i).map (zpU S)).length=i:=by simp;omega
   rw[znz hne0,zqA hne0,hlen]
   have b2:(i+1<=9223372036854775807)=True:=by simp only[YAb,iff_true];omega
   have b3:((i+1)*8<=140737488355328)=True:=by simp only[YAb,iff_true];omega
   generalize (fr.take i).map (zpU S)=ws at*
   have hwl:(ws.map I64).length=i:=by simpa using hlen
   generalize zpU S (fr.getD i 0)=w at*
   have h:=YAN
   repeat' (first
    |(with_reducible first|apply bA|apply bB|apply bC|apply bD|apply bE|apply bF)<;>intro h
    |((first|apply bG|apply bH);simp only[yP,yQ,W2,hpR,bxR,arR,stP hs hr hne,zTh,zTg,yN,ze0,hlt,YAK,hwl,hlen,g1,b2,b3,zCE ws,List.getElem?_cons_zero,List.set_cons_zero];refine zIA (hq _ (by first|exact hs|simp<;>omega) (by first|exact hr|simp<;>omega)) (.inl rfl) (fun hb=>zeT (by first|exact hs|simp<;>omega) (by first|exact hr|simp<;>omega) hne hb) ?_)
    |skip)<;>simp only[h,↓zaL,↓zHC,WY,reduceIte,yA,yB,yC,yD,reduceCtorEq,yE,yF,W1,WS,hpR,bxR,arR,stP hs hr hne,zTh,zTg,yN,ze0,hlt,YAK,hwl,hlen,g1,b2,b3,zCE ws,List.getElem?_cons_zero,List.set_cons_zero]
   refine⟨i+1,hlt,by omega,zap ?_ ?_⟩
   ·rw[hst];simp[tkI,hlen]
   ·simp only[WK,↓zaL,↓zHC,yA,reduceIte,yN,yO,yR,yP,yQ,yB,yC,zbX hlt hmax]
    exact .inl (by rw[hst];simp[acI,I64])
 ·have hi':i=fr.length:=by omega
  subst hi'
  rw[List.take_length]
  by_cases h0:fr.map (zpU S)=[]
  ·rw[h0]
   simp only[acI,tkI,if_true,List.append_nil]
   have h:=YAN
   repeat' (first
    |(with_reducible first|apply bA|apply bB|apply bC|apply bD|apply bE|apply bF)<;>intro h
    |skip)<;>simp only[h,↓zaL,↓zHC,WY,reduceIte,yA,yB,yC,yD,reduceCtorEq,yE,yF,W1,WS,hpR,bxR,arR,stP hs hr hne,zTh,zTg,yN,ze0,zTi,YAK,Nat.lt_irrefl,Int.lt_irrefl]
   all_goals exact⟨rfl,rfl⟩
  ·rw[znz h0,zqA h0]
   have h:=YAN
   repeat' (first
    |(with_reducible first|apply bA|apply bB|apply bC|apply bD|apply bE|apply bF)<;>intro h
    |skip)<;>simp only[h,↓zaL,↓zHC,WY,reduceIte,yA,yB,yC,yD,reduceCtorEq,yE,yF,W1,WS,hpR,bxR,arR,stP hs hr hne,zTh,zTg,yN,ze0,zTi,YAK,Nat.lt_irrefl,Int.lt_irrefl]
   all_goals exact⟨rfl,rfl⟩
end
end
section
theorem zom(Z W:List (Int×Int))(n:Int):mget (Z++W) n=match mget Z n with|some x=>some x|none=>mget W n:=by
 induction Z with
 |nil=>rfl
 |cons p Z ih=>
  obtain⟨k,x⟩:=p
  simp only[List.cons_append,mget]
  by_cases h:k=n
  ·simp only[if_pos h]
  ·simp only[if_neg h];exact ih
theorem zon:∀(Z:List (Int×Int)) (k:Int) (i:Nat),i<Z.length->(∀j,j<i->(Z.map Prod.fst).getD j 0≠k)->(Z.map Prod.fst).getD i 0=k->mget Z k=some ((Z.map Prod.snd).getD i 0)
 | [],_,i,h,_,_=>by simp at h
 |(a,b)::Z,k,i,h,h1,h2=>by
  cases i with
  |zero=>
   have h2:a=k:=h2
   subst h2
   simp[mget]
  |succ i=>
   have h0:a≠k:=h1 0 (by omega)
   rw[mget,if_neg h0,zon Z k i (by simpa using h) (fun j hj=>h1 (j+1) (by omega)) h2]
   simp
theorem zop(Z:List (Int×Int))(k x:Int)(h:mget Z k=some x):k∈Z.map Prod.fst:=(zoo _ _).1 (by rw[h];rfl)
theorem zo6{S:St}(h:Wf S){n z y:Nat}(a:Rch S n z):Rch S z y->Rch S n y:=by
 induction a with
 |here n=>intro b;exact zTO (h.zUQ n) b
 |kid n k r hk _ ih=>intro b;exact .kid n k y hk (ih b)
theorem zo5{S:St}{L:Mem}(h:Sm S L){n z:Nat}(hn:n<S.length):Rch L.st n z ↔ Rch S n z:=by
 have hk:∀i,i<S.length->L.st.kids (L.st.root i)=S.kids (S.root i):=fun i hi=>by rw[St.kids,h.rt i hi,h.nd _ (h.wf0.root_lt i hi)];rfl
 constructor
 ·intro a
  induction a with
  |here n=>rw[h.rt n hn];exact .here n
  |kid n k r hk' _ ih=>
   rw[hk n hn]at hk'
   exact .kid n k r hk' (ih (h.wf0.zMa hk'))
 ·intro a
  induction a with
  |here n=>rw[<-h.rt n hn];exact .here n
  |kid n k r hk' _ ih=>exact .kid n k r (by rw[hk n hn];exact hk') (ih (h.wf0.zMa hk'))
structure CI (S:St) (to:List (Int×Int)) (T:List Nat) (lim:Int) (L:Mem) (M:List (Int×Int)) (cnt:Int):Prop where
 sm:Sm S L
 key:∀k,k∈M.map Prod.fst->∃z:Nat,k=(z:Int)/\z∈T
 nd:(M.map Prod.fst).Nodup
 room:cnt+(T.length:Nat)<=lim+(M.length:Nat)
 val:∀k x,mget M k=some x->∃m:Nat,x=(m:Int)/\m<L.length
def cpT(S:St)(to:List (Int×Int))(n:Nat):List Nat:=(S.all n).filter fun x=>decide (S.kind x≠6)&&hld S to x
theorem zoF(S:St)(to:List (Int×Int))(n:Nat):(cpT S to n).length=cntH S to (S.all n):=by
 simp only[cpT,cntH,List.countP_eq_length_filter]
theorem zol{S:St}{to:List (Int×Int)}{n x:Nat}:x∈cpT S to n ↔ x∈S.all n/\S.kind x≠6/\hld S to x=true:=by simp[cpT]
theorem CI.zoh{S:St}{to:List (Int×Int)}{T:List Nat}{lim:Int}{L:Mem}{M:List (Int×Int)}{cnt:Int}(h:CI S to T lim L M cnt){r:Nat}(hr:r∈T)(hM:mget M (r:Int)=none):M.length+1<=T.length/\cnt+1<=lim:=by
 have hn:(r:Int) ∉ M.map Prod.fst:=fun hk=>by
  have:=(zoo _ _).2 hk
  rw[hM]at this;cases this
 have h1:(((r:Int)::M.map Prod.fst).map Int.toNat).Nodup:=by
  refine List.Pairwise.map _ (fun a b hab=> ?_) (List.Pairwise.and_mem.1 (List.nodup_cons.2 ⟨hn,h.nd⟩))
  obtain⟨ha,hb,hne⟩:=hab
  have f:∀k,k∈(r:Int)::M.map Prod.fst->∃z:Nat,k=(z:Int):=fun k hk=>by
   rcases List.mem_cons.1 hk with rfl|hk
   ·exact⟨r,rfl⟩
   ·obtain⟨z,e,_⟩:=h.key k hk;exact⟨z,e⟩
  obtain⟨n,rfl⟩:=f a ha
  obtain⟨m,rfl⟩:=f b hb
  simp only[Int.toNat_natCast]
  exact fun e=>hne (by rw[e])
 have h2:((r:Int)::M.map Prod.fst).map Int.toNat ⊆ T:=fun x hx=>by
  obtain⟨k,hk,rfl⟩:=List.mem_map.1 hx
  rcases List.mem_cons.1 hk with rfl|hk
  ·simpa using hr
  ·obtain⟨z,rfl,hz⟩:=h.key k hk;simpa using hz
 have h3:=h1.length_le_of_subset h2
 simp only[YAK,List.length_cons]at h3
 have:=h.room
 exact⟨h3,by omega⟩
theorem CI.tle{S:St}{to:List (Int×Int)}{T:List Nat}{lim:Int}{L:Mem}{M:List (Int×Int)}{cnt:Int}(h:CI S to T lim L M cnt):M.length<=T.length:=by
 have h1:((M.map Prod.fst).map Int.toNat).Nodup:=by
  refine List.Pairwise.map _ (fun a b hab=> ?_) (List.Pairwise.and_mem.1 h.nd)
  obtain⟨ha,hb,hne⟩:=hab
  obtain⟨n,rfl,_⟩:=h.key a ha
  obtain⟨m,rfl,_⟩:=h.key b hb
  simp only[Int.toNat_natCast]
  exact fun e=>hne (by rw[e])
 have h2:(M.map Prod.fst).map Int.toNat ⊆ T:=fun x hx=>by
  obtain⟨k,hk,rfl⟩:=List.mem_map.1 hx
  obtain⟨z,rfl,hz⟩:=h.key k hk;simpa using hz
 have:=h1.length_le_of_subset h2
 simpa using this
theorem CI.cgrow{S:St}{to:List (Int×Int)}{T:List Nat}{lim:Int}{L:Mem}{M:List (Int×Int)}{cnt:Int}(h:CI S to T lim L M cnt){r:Nat}(hr:r∈T)(hM:mget M (r:Int)=none){d:Nd}(hd:okNd d)(hl:d.link=none)(hk:∀k∈d.kids,k<L.length):
 CI S to T lim (L++ [(d,0)]) (mput M (r:Int) L.length) (cnt+1)/\(mput M (r:Int) L.length).length=M.length+1:=by
 have hw':Wf (L.st++ [d]):=h.sm.wf.add hd hl (by rw[Mem.zXR];exact hk)
 have e0:(L++ [(d,0)]:Mem).st=L.st++ [d]:=Mem.zXM L (d,0)
 have hlen:=h.sm.len
 have hll:=Mem.zXR L
 rw[zor _ _ _ hM]
 refine⟨⟨⟨by rw[e0];exact hw',h.sm.wf0,by simp;omega,fun i hi=> ?_,fun i hi=> ?_⟩,fun k hk'=> ?_,?_,?_,fun k x e=> ?_⟩,by simp⟩
 ·rw[e0,St.zPv (by omega)];exact h.sm.nd i hi
 ·rw[e0,h.sm.wf.zUF hw' hl i (by omega)];exact h.sm.rt i hi
 ·rw[List.map_append,List.mem_append]at hk'
  rcases hk' with hk'|hk'
  ·exact h.key k hk'
  ·simp only[List.map_cons,List.map_nil,List.mem_singleton]at hk'
   exact⟨r,hk',hr⟩
 ·rw[List.map_append,List.nodup_append]
  refine⟨h.nd,by simp,?_⟩
  intro a ha b hb e
  simp only[List.map_cons,List.map_nil,List.mem_singleton]at hb
  subst hb;subst e
  have:=(zoo M _).2 ha
  rw[hM]at this;cases this
 ·have:=h.room;simp;omega
 ·rw[<-zor _ _ _ hM,zPO]at e
  split at e
  ·cases e;exact⟨L.length,rfl,by simp⟩
  ·obtain⟨m,e1,e2⟩:=h.val k x e
   exact⟨m,e1,by simp;omega⟩
theorem CpR.kci{S:St}{to:List (Int×Int)}{n0:Nat}{lim:Int}(h0:n0<S.length)(hto:TOK S to){n v:Nat}{L:Mem}{M:List (Int×Int)}{v':Nat}{L':Mem}{M':List (Int×Int)}{x:Nat}(h:CpR S to n v L M v' L' M' x):
 ∀ {cnt:Int},n<S.length->(∀z,Rch S n z->Rch S n0 z)->CI S to (cpT S to n0) lim L M cnt->CI S to (cpT S to n0) lim L' M' (cnt+((M'.length:Int)-M.length))/\x<L'.length/\M.length<=M'.length/\L'.length=L.length+(M'.length-M.length)/\v'=v+(M'.length-M.length):=by
 have w0:∀ {L:Mem} {M:List (Int×Int)} {cnt:Int},CI S to (cpT S to n0) lim L M cnt->CI S to (cpT S to n0) lim L M (cnt+((M.length:Int)-M.length)):=fun {L M cnt} h=>by
  rw[show cnt+((M.length:Int)-M.length)=cnt by omega];exact h
 have inT:∀ {n:Nat} {L:Mem} {M:List (Int×Int)} {cnt:Int},n<S.length->(∀z,Rch S n z->Rch S n0 z)->CI S to (cpT S to n0) lim L M cnt->hld S to (S.root n)=true->S.kind (S.root n)≠6->S.root n∈cpT S to n0:=fun {n L M cnt} hn hin hc hh h6=>
  zol.2 ⟨(hc.sm.wf0.zPE h0).2 (hin _ (.here n)),h6,hh⟩
 induction h with
 |to n v L M x h1=>
  intro cnt hn hin hc
  obtain⟨a,b,e1,e2,e3,e4⟩:=hto _ _ h1
  have:=hc.sm.len
  exact⟨w0 hc,by omega,YAV _,by omega,by omega⟩
 |old n v L M h1 h2=>
  intro cnt hn hin hc
  have:=hc.sm.len
  have:=hc.sm.wf0.root_lt n hn
  exact⟨w0 hc,by omega,YAV _,by omega,by omega⟩
 |made n v L M x h1 h2 h3=>
  intro cnt hn hin hc
  obtain⟨m,e1,e2⟩:=hc.val _ _ h3
  exact⟨w0 hc,by omega,YAV _,by omega,by omega⟩
 |two n v L M i j v1 L1 M1 a1 v2 L2 M2 a2 h1 h2 h3 h4 h5 h6 h7 h8 ih1 ih2=>
  intro cnt hn hin hc
  have hwf:=hc.sm.wf0
  have hi:i<S.length:=hwf.zMa (i:=S.root n) (by rw[h4];simp)
  have hj:j<S.length:=hwf.zMa (i:=S.root n) (by rw[h4];simp)
  obtain⟨c1,b1,d1,g1,f1⟩:=ih1 hi (fun z hz=>hin z (.kid n i z (by rw[h4];simp) hz)) hc
  obtain⟨c2,b2,d2,g2,f2⟩:=ih2 hj (fun z hz=>hin z (.kid n j z (by rw[h4];simp) hz)) c1
  obtain⟨c3,e3⟩:=c2.cgrow (inT hn hin hc h2 (by rcases h5 with h|h<;>omega)) h8 (d:=⟨S.kind (S.root n),0,none,[a1,a2]⟩) (.inr ⟨rfl,.inl ⟨h5,rfl⟩⟩) rfl (by simp only[List.mem_cons,List.not_mem_nil,or_false,forall_eq_or_imp,forall_eq];exact⟨by omega,by omega⟩)
  refine⟨?_,by simp,by omega,by simp;omega,by omega⟩
  rw[e3]
  rw[show cnt+((M1.length:Int)-M.length)+((M2.length:Int)-M1.length)+1=cnt+(((M2.length+1:Nat):Int)-M.length)by omega]at c3
  exact c3
 |one n v L M i v1 L1 M1 a1 h1 h2 h3 h4 h5 h6 h7 ih1=>
  intro cnt hn hin hc
  have hwf:=hc.sm.wf0
  have hi:i<S.length:=hwf.zMa (i:=S.root n) (by rw[h4];simp)
  obtain⟨c1,b1,d1,g1,f1⟩:=ih1 hi (fun z hz=>hin z (.kid n i z (by rw[h4];simp) hz)) hc
  obtain⟨c3,e3⟩:=c1.cgrow (inT hn hin hc h2 (by omega)) h7 (d:=⟨S.kind (S.root n),0,none,[a1]⟩) (.inr ⟨rfl,.inr ⟨h5,rfl⟩⟩) rfl (by simp only[List.mem_cons,List.not_mem_nil,or_false,forall_eq];omega)
  refine⟨?_,by simp,by omega,by simp;omega,by omega⟩
  rw[e3]
  rw[show cnt+((M1.length:Int)-M.length)+1=cnt+(((M1.length+1:Nat):Int)-M.length)by omega]at c3
  exact c3
theorem zqF{S:St}{to:List (Int×Int)}{n0:Nat}{lim:Int}{L:Mem}{M:List (Int×Int)}{cnt:Int}(h0:n0<S.length)(hc:CI S to (cpT S to n0) lim L M cnt){n:Nat}(hn:n<S.length):touS L.st ((to++M).map Prod.fst) n=hld S to n:=by
 have hwf:=hc.sm.wf0
 have hlen:=hc.sm.len
 have hll:=Mem.zXR L
 rw[Bool.eq_iff_iff,zoS hwf hn]
 simp only[touS,List.any_eq_true,YAa,List.map_append,List.mem_append]
 constructor
 ·rintro⟨z,h1,h2⟩
  have h1:=(zo5 hc.sm hn).1 ((hc.sm.wf.zPE (by omega)).1 h1)
  rcases h2 with h2|h2
  ·exact⟨z,h1,(zoo _ _).2 h2⟩
  ·obtain⟨w,e,hw⟩:=hc.key _ h2
   obtain rfl:z=w:=by omega
   obtain⟨hw1,hw2,hw3⟩:=zol.1 hw
   obtain⟨y,y1,y2⟩:=(zoS hwf (h1.lt hwf hn)).1 hw3
   exact⟨y,zo6 hwf h1 y1,y2⟩
 ·rintro⟨z,h1,h2⟩
  exact⟨z,(hc.sm.wf.zPE (by omega)).2 ((zo5 hc.sm hn).2 h1),.inl ((zoo _ _).1 h2)⟩
end
end Go.Proofs.Ytdngjamjccjlmaa
