/- Walks: the store: a copy of a node. No condition. -/
import Derived.Test.YtdngjamjccjlmaaS13
set_option linter.unusedSimpArgs false
set_option linter.unusedVariables false
set_option maxHeartbeats 4000000
set_option maxRecDepth 100000
namespace Go.Proofs.Ytdngjamjccjlmaa
open Go Go.Ab
open Nat renaming reduceEqDiff -> yA, reduceAdd -> yB, reduceLT -> yC, reduceLeDiff -> yD, reduceMul -> yE, reducePow -> yF
open Int renaming reduceAdd -> yH, reduceLT -> yI, reduceToNat -> yJ, reduceBEq -> yK, reduceBNe -> yL, reduceLE -> yM
open AV renaming belL -> yO, bel -> yN, normL -> yQ, norm -> yP
attribute [local irreducible] zA0 zAA zAa zAi zAj GoIf GoGb zAk GoO GoD GoX GoDX GoG GoDG GoGv zAl Go zAB
structure KM (S:St) (M:List (Int×Int)):Prop where
 nd:(M.map Prod.fst).Nodup
 key:∀k,k∈M.map Prod.fst->∃n:Nat,k=n/\n<S.length/\S.kids n≠[]
def inn(S:St):Nat:=((List.range S.length).filter fun i=>decide (S.kids i≠[])).length
theorem KM.le{S:St}{M:List (Int×Int)}(h:KM S M):M.length<=inn S:=by
 have h1:((M.map Prod.fst).map Int.toNat).Nodup:=by
  refine List.Pairwise.map _ (fun a b hab=> ?_) (List.Pairwise.and_mem.1 h.nd)
  obtain⟨ha,hb,hne⟩:=hab
  obtain⟨n,rfl,_⟩:=h.key a ha
  obtain⟨m,rfl,_⟩:=h.key b hb
  simp only[Int.toNat_natCast]
  exact fun e=>hne (by rw[e])
 have h2:(M.map Prod.fst).map Int.toNat ⊆ (List.range S.length).filter fun i=>decide (S.kids i≠[]):=fun x hx=>by
  obtain⟨k,hk,rfl⟩:=List.mem_map.1 hx
  obtain⟨n,rfl,hn,hk⟩:=h.key k hk
  simpa using⟨hn,hk⟩
 have:=h1.length_le_of_subset h2
 simpa [inn]using this
theorem KM.put{S:St}{M:List (Int×Int)}(h:KM S M){n:Nat}{x:Int}(hn:n<S.length)(hk:S.kids n≠[])(hg:mget M n=none):KM S (mput M n x)/\(mput M n x).length=M.length+1:=by
 rw[zor M n x hg]
 refine⟨⟨?_,fun k hk'=> ?_⟩,by simp⟩
 ·rw[List.map_append,List.nodup_append]
  refine⟨h.nd,by simp,?_⟩
  intro a ha b hb e
  simp only[List.map_cons,List.map_nil,List.mem_singleton]at hb
  subst hb;subst e
  have:=(zoo M n).2 ha
  rw[hg]at this;cases this
 ·rw[List.map_append,List.mem_append]at hk'
  rcases hk' with hk'|hk'
  ·exact h.key k hk'
  ·simp only[List.map_cons,List.map_nil,List.mem_singleton]at hk'
   exact⟨n,hk',hn,hk⟩
theorem zo4{S:St}(h:Wf S){ρ:Nat->Nat}(hρ:Rk S ρ){n m:Nat}(hr:Rch S n m):ρ m<=ρ (S.root n):=by
 induction hr with
 |here n=>exact YAV _
 |kid n k r hk _ ih=>have:=h.zMc hρ hk;omega
theorem zou{S:St}(h:Wf S){n k:Nat}(hk:k∈S.kids (S.root n)):¬Rch S k (S.root n):=fun hr=>by
 obtain⟨ρ,hρ⟩:=h.rk
 have h1:=zo4 h hρ hr
 have h2:=h.zMc hρ hk
 omega
def TOK(S:St)(to:List (Int×Int)):Prop:=∀k t,mget to k=some t->∃n x:Nat,k=n/\t=x/\S.kind n=6/\x<S.length
section
variable {s r c m1 m2 m3 : Nat} {S : St} {to : List (Int × Int)} {lim rd : Int}
inductive CpR (S:St) (to:List (Int×Int)):Nat->Nat->Mem->List (Int×Int)->Nat->Mem->List (Int×Int)->Nat->Prop
 |to (n v:Nat) (L:Mem) (M:List (Int×Int)) (x:Nat):mget to (S.root n:Int)=some (x:Int)->CpR S to n v L M v L M x
 |old (n v:Nat) (L:Mem) (M:List (Int×Int)):mget to (S.root n:Int)=none->hld S to (S.root n)=false->CpR S to n v L M v L M (S.root n)
 |made (n v:Nat) (L:Mem) (M:List (Int×Int)) (x:Nat):mget to (S.root n:Int)=none->hld S to (S.root n)=true->mget M (S.root n:Int)=some (x:Int)->CpR S to n v L M v L M x
 |two (n v:Nat) (L:Mem) (M:List (Int×Int)) (i j v1:Nat) (L1:Mem) (M1:List (Int×Int)) (a1 v2:Nat) (L2:Mem) (M2:List (Int×Int)) (a2:Nat):mget to (S.root n:Int)=none->hld S to (S.root n)=true->mget M (S.root n:Int)=none->
  S.kids (S.root n)=[i,j]->(S.kind (S.root n)=7\/S.kind (S.root n)=9)->CpR S to i v L M v1 L1 M1 a1->CpR S to j v1 L1 M1 v2 L2 M2 a2->mget M2 (S.root n:Int)=none->CpR S to n v L M (v2+1) (L2++ [(⟨S.kind (S.root n),0,none,[a1,a2]⟩,0)]) (mput M2 (S.root n:Int) L2.length) L2.length
 |one (n v:Nat) (L:Mem) (M:List (Int×Int)) (i v1:Nat) (L1:Mem) (M1:List (Int×Int)) (a1:Nat):mget to (S.root n:Int)=none->hld S to (S.root n)=true->mget M (S.root n:Int)=none->
  S.kids (S.root n)=[i]->S.kind (S.root n)=8->CpR S to i v L M v1 L1 M1 a1->mget M1 (S.root n:Int)=none->CpR S to n v L M (v1+1) (L1++ [(⟨S.kind (S.root n),0,none,[a1]⟩,0)]) (mput M1 (S.root n:Int) L1.length) L1.length
structure CpO (S:St) (to:List (Int×Int)) (rd:Int) (n v:Nat) (L:Mem) (cnt:Int) (Z M:List (Int×Int)) (v':Nat) (L':Mem) (cnt':Int) (Z' M':List (Int×Int)) (m:Nat):Prop where
 cr:CpR S to n v L M v' L' M' m
 cx:CX S to rd L' Z' M'
 km:KM S M'
 le:M.length<=M'.length
 len:L'.length=L.length+(M'.length-M.length)
 cn:cnt'=cnt+((M'.length-M.length:Nat):Int)
 mlt:m<L'.length
 tr:L'.st.tree m=sbT (fOf S to) (S.tree n)
 old:∀i,i<L.length->L'.st.tree i=L.st.tree i
 same:hld S to n=false->L'=L/\m=S.root n
 nw:∀x:Nat,mget M (x:Int)=none->mget M' (x:Int)≠none->Rch S n x
def znu(s r c m1 m2 m3:Nat)(S:St)(to:List (Int×Int))(lim rd:Int)(n:Nat):Prop:=∀v L cnt Z M,CX S to rd L Z M->KM S M->L.length+(inn S-M.length)<=1000000->0<=cnt->cnt+((inn S-M.length:Nat):Int)<=1000000->
 ∃v' L' cnt' Z' M' m,CpO S to rd n v L cnt Z M v' L' cnt' Z' M' m/\∀F:List AObj,SixD F s r c m1 m2 m3->DCalls Try.prog 93 [.bptr c 0,.int .i64 n] (hpC F s r c m1 m2 m3 v L lim cnt rd to Z M) (.int .i64 m) (hpC F s r c m1 m2 m3 v' L' lim cnt' rd to Z' M')
theorem CX.sm{L:Mem}{Z M:List (Int×Int)}(h:CX S to rd L Z M)(h0:Wf S):Sm S L:=⟨h.si.wf,h0,h.len,h.nd,fun i hi=>(h.tr i hi).2⟩
theorem zoX{L:Mem}{v:Nat}{cnt:Int}{Z Z' M:List (Int×Int)}{n:Nat}{F:List AObj}(hD:SixD F s r c m1 m2 m3)
 (h:∀F:List AObj,F[c]?=some (cpB s m1 m2 m3)->F[s]?=some (bxS r v L.length lim cnt rd)->F[r]?=some (arS v L)->F[m1]?=some (.map (embM to))->F[m2]?=some (.map (embM Z))->
  DCalls Try.prog 92 [.bptr c 0,.int .i64 n] F (.bool (hld S to n)) (F.set m2 (.map (embM Z')))):
 DCalls Try.prog 92 [.bptr c 0,.int .i64 n] (hpC F s r c m1 m2 m3 v L lim cnt rd to Z M) (.bool (hld S to n)) (hpC F s r c m1 m2 m3 v L lim cnt rd to Z' M):=by
 have g:=zpw hD (x1:=bxS r v L.length lim cnt rd) (x2:=arS v L) (x3:=cpB s m1 m2 m3) (x4:= .map (embM to)) (x5:= .map (embM Z)) (x6:= .map (embM M))
 have:=h _ g.2.2.1 g.1 g.2.1 g.2.2.2.1 g.2.2.2.2.1
 rw[(zpz hD).2.1]at this
 exact this
theorem zpW{L:Mem}{v:Nat}{cnt:Int}{Z M:List (Int×Int)}(hw:Wf L.st)(n:Nat)(hn:n<L.length){F:List AObj}(hD:SixD F s r c m1 m2 m3):
 DCalls Try.prog 29 [.bptr s 0,.int .i64 n] (hpC F s r c m1 m2 m3 v L lim cnt rd to Z M) (.int .i64 (L.st.root n:Nat)) (hpC F s r c m1 m2 m3 v L lim cnt rd to Z M):=by
 have g:=zpw hD (x1:=bxS r v L.length lim cnt rd) (x2:=arS v L) (x3:=cpB s m1 m2 m3) (x4:= .map (embM to)) (x5:= .map (embM Z)) (x6:= .map (embM M))
 exact zUH g.1 g.2.1 hw n hn
theorem zn1{L:Mem}{v:Nat}{cnt:Int}{Z M:List (Int×Int)}(kd:Int)(ks:List Nat)(hL:L.length<=1000000)(hc:0<=cnt/\cnt<=1000000){F:List AObj}(hD:SixD F s r c m1 m2 m3):
 DCalls Try.prog 91 [.bptr s 0,.agg [.int .i64 kd,.int .i64 0,.int .i64 0,.sl ((kidI ks).map I64) .no,.int .i64 0]] (hpC F s r c m1 m2 m3 v L lim cnt rd to Z M) (.int .i64 L.length) (hpC F s r c m1 m2 m3 (v+1) (L++ [(⟨kd,0,none,ks⟩,0)]) lim (cnt+1) rd to Z M):=by
 have:=zBk (F:=(((F.set c (cpB s m1 m2 m3)).set m1 (.map (embM to))).set m2 (.map (embM Z))).set m3 (.map (embM M))) (v:=v) (L:=L) (lim:=lim) (cnt:=cnt) (rd:=rd) (s:=s) (r:=r) (by simpa using hD.hs) (by simpa using hD.hr) (fun e=>hD.d1.1 e.symm) kd 0 0 0 ks hL hc
 exact this
theorem zoD(h0:Wf S)(hto:TOK S to)(h12:m1≠m2)(n:Nat)(hn:n<S.length)(ih:∀k∈S.kids (S.root n),znu s r c m1 m2 m3 S to lim rd k):znu s r c m1 m2 m3 S to lim rd n:=by
 intro v L cnt Z M hX hK hb1 hb2 hb3
 have hlen:=hX.len
 have hrn:S.root n<S.length:=h0.root_lt n hn
 have hroot:L.st.root n=S.root n:=(hX.tr n hn).2
 have ht6:∀t,mget to (S.root n:Int)=some t->S.kind (S.root n)=6:=fun t e=>by
  obtain⟨a,b,e1,e2,e3,e4⟩:=hto _ _ e
  have:a=S.root n:=by omega
  subst this;exact e3
 have hsb:=zpq h0 hn ht6
 have hst:=zoV (to:=to) h0 hrn (h0.zUQ n)
 have hhr:=zoU (to:=to) h0 hn
 have qr:=fun F hD=>zpW (F:=F) (s:=s) (r:=r) (c:=c) (m1:=m1) (m2:=m2) (m3:=m3) (v:=v) (cnt:=cnt) (lim:=lim) (rd:=rd) (to:=to) (Z:=Z) (M:=M) hX.si.wf n (by omega) hD
 rw[hroot]at qr
 cases ht:mget to (S.root n:Int)with
 |some t=>
  obtain⟨a,x,e1,rfl,e3,e4⟩:=hto _ _ ht
  rw[ht]at hsb hst
  refine⟨v,L,cnt,Z,M,x,⟨.to _ _ _ _ _ ht,hX,hK,YAV _,by omega,by omega,by omega,?_,fun _ _=>rfl,fun hh=> ?_,fun x h1 h2=>absurd h1 h2⟩,fun F hD=> ?_⟩
  ·rw[hsb];simp only[Int.toNat_natCast];exact(hX.tr x e4).1
  ·rw[<-hhr,hst]at hh;simp at hh
  ·unfold DCalls
   refine eD C_ok Try.func93 Try.results93 fun ok=> ?_
   have h:=YAN
   repeat' (first
    |(with_reducible first|apply bA|apply bB|apply bC|apply bD|apply bE|apply bF)<;>intro h
    |((first|apply bG|apply bH);simp only[yP,yQ,W2,W3,yH,yI,yJ,yK,yL,yM,hpC,bxS,arS,cpB,sixP hD,zHe,zHx,zPN,zOl,zMT,Option.getD_none,Option.isSome_none,Option.getD_some,Option.isSome_some,zOg,zGZ,zGa,kidI,I64,List.set_set,yN,yO,implies_true,zTh,zTg,ht];refine zIB (qr _ (by first|exact hD|exact hD.app _)) (.inl rfl) ?_)
    |refine drA C_ok 16 0 ?_
    |refine zJ9 ?_ C_ok Try.f93.ntmps rfl (by decide)
    |skip)<;>simp only[h,↓zaL,↓zHC,WY,reduceIte,yA,yB,yC,yD,reduceCtorEq,yE,yF,W1,WS,W3,yH,yI,yJ,yK,yL,yM,hpC,bxS,arS,cpB,sixP hD,zHe,zHx,zPN,zOl,zMT,Option.getD_none,Option.isSome_none,Option.getD_some,Option.isSome_some,zOg,zGZ,zGa,kidI,I64,List.set_set,yN,yO,implies_true,zTh,zTg,ht,zFY]
 |none=>
  rw[ht]at hsb hst
  simp only at hsb
  obtain⟨Z',hZ',qh0⟩:=zoY (s:=s) (r:=r) (v:=v) (c:=c) (m1:=m1) (m2:=m2) (m3:=m3) (L:=L) (lim:=lim) (cnt:=cnt) (rd:=rd) (to:=to) (hX.sm h0) h12 n hn Z hX.vh
  have hX1:CX S to rd L Z' M:=hX.putH hZ'
  have qh:=fun F hD=>zoX (M:=M) (F:=F) (s:=s) (r:=r) (c:=c) (m1:=m1) (m2:=m2) (m3:=m3) hD qh0
  by_cases hh:hld S to (S.root n)=true
  ·rw[hh]at qh
   cases hM:mget M (S.root n:Int)with
   |some x=>
    obtain⟨a,b,e1,rfl,e3,e4,e5⟩:=hX.vm _ _ hM
    have ea:a=S.root n:=by omega
    subst ea
    refine⟨v,L,cnt,Z',M,b,⟨.made _ _ _ _ _ ht hh hM,hX1,hK,YAV _,by omega,by omega,e4,?_,fun _ _=>rfl,fun h=> ?_,fun x h1 h2=>absurd h1 h2⟩,fun F hD=> ?_⟩
    ·rw[e5,h0.zYf hrn hn (h0.zUQ n)]
    ·rw[<-hhr,hh]at h;cases h
    ·unfold DCalls
     refine eD C_ok Try.func93 Try.results93 fun ok=> ?_
     have h:=YAN
     repeat' (first
      |(with_reducible first|apply bA|apply bB|apply bC|apply bD|apply bE|apply bF)<;>intro h
      |((first|apply bG|apply bH);simp only[yP,yQ,W2,W3,yH,yI,yJ,yK,yL,yM,hpC,bxS,arS,cpB,sixP hD,zHe,zHx,zPN,zOl,zMT,Option.getD_none,Option.isSome_none,Option.getD_some,Option.isSome_some,zOg,zGZ,zGa,kidI,I64,List.set_set,yN,yO,implies_true,zTh,zTg,ht,hM];first|refine zIB (qr _ (by first|exact hD|exact hD.app _)) (.inl rfl) ?_|refine zIA (qh _ (by first|exact hD|exact hD.app _)) (.inl rfl) (fun hb=>zoa (by first|exact hD|exact hD.app _) hb) ?_)
      |refine drA C_ok 16 0 ?_
      |refine zJ9 ?_ C_ok Try.f93.ntmps rfl (by decide)
      |skip)<;>simp only[h,↓zaL,↓zHC,WY,reduceIte,yA,yB,yC,yD,reduceCtorEq,yE,yF,W1,WS,W3,yH,yI,yJ,yK,yL,yM,hpC,bxS,arS,cpB,sixP hD,zHe,zHx,zPN,zOl,zMT,Option.getD_none,Option.isSome_none,Option.getD_some,Option.isSome_some,zOg,zGZ,zGa,kidI,I64,List.set_set,yN,yO,implies_true,zTh,zTg,ht,hM,zFY]
   |none=>
    have hnl:S.root n<L.length:=by omega
    have hlk:S.link (S.root n)=none:=h0.zUK n
    have hnd:L.st.nd (S.root n)=S.nd (S.root n):=hX.nd _ hrn
    have hkl:(L.getD (S.root n) default).1.kids=S.kids (S.root n):=by rw[<-L.nd,hnd];rfl
    rcases h0.shape hrn hlk with ⟨_,_,hk⟩|⟨_,_,hk⟩|⟨i,j,hkd,hk⟩|⟨i,hkd,hk⟩
    ·rw[hk]at hst;rw[hst]at hh;simp at hh
    ·rw[hk]at hst;rw[hst]at hh;simp at hh
    ·have h6:S.kind (S.root n)≠6:=by rcases hkd with h|h<;>omega
     have hne:S.kids (S.root n)≠[]:=by rw[hk];simp
     rw[hk]at ih hsb hkl
     have hil:i<S.length:=h0.zMa (i:=S.root n) (by rw[hk];simp)
     have hjl:j<S.length:=h0.zMa (i:=S.root n) (by rw[hk];simp)
     have hsp:=(hK.put (x:=0) hrn hne hM).1.le
     rw[(hK.put (x:=0) hrn hne hM).2]at hsp
     obtain⟨v1,L1,c1,Z1,M1,a1,o1,q1⟩:=ih i (by simp) v L cnt Z' M hX1 hK hb1 hb2 hb3
     have hl1:=o1.len
     have hm1:=o1.le
     have hc1:=o1.cn
     have hk1:=o1.km.le
     obtain⟨v2,L2,c2,Z2,M2,a2,o2,q2⟩:=ih j (by simp) v1 L1 c1 Z1 M1 o1.cx o1.km (by omega) (by omega) (by omega)
     have hl2:=o2.len
     have hm2:=o2.le
     have hc2:=o2.cn
     have hk2:=o2.km.le
     have hM1:mget M1 (S.root n:Int)=none:=Option.not_isSome_iff_eq_none.1 fun h=>zou h0 (by rw[hk];simp) (o1.nw _ hM (Option.isSome_iff_ne_none.1 h))
     have hM2:mget M2 (S.root n:Int)=none:=Option.not_isSome_iff_eq_none.1 fun h=>zou h0 (by rw[hk];simp) (o2.nw _ hM1 (Option.isSome_iff_ne_none.1 h))
     obtain⟨hK2,hK2l⟩:=o2.km.put (x:=(L2.length:Int)) hrn hne hM2
     have hk3:=hK2.le
     have hX3:=o2.cx.add (x:=⟨S.kind (S.root n),0,none,[a1,a2]⟩) (.inr ⟨rfl,.inl ⟨hkd,rfl⟩⟩) rfl (by simp only[List.mem_cons,List.not_mem_nil,or_false,forall_eq_or_imp,forall_eq];have:=o1.mlt;have:=o2.mlt;exact⟨by omega,by omega⟩)
     have htr3:∀i,i<L2.length->(L2++ [(⟨S.kind (S.root n),0,none,[a1,a2]⟩,0)]:Mem).st.tree i=L2.st.tree i:=fun i hi=>by
      rw[Mem.zXM];exact o2.cx.si.wf.zYd (by rw[<-Mem.zXM L2 (_,0)];exact hX3.si.wf) rfl i (by rw[Mem.zXR];exact hi)
     have htn:(L2++ [(⟨S.kind (S.root n),0,none,[a1,a2]⟩,0)]:Mem).st.tree L2.length=sbT (fOf S to) (S.tree n):=by
      have e0:St.nd (L2++ [(⟨S.kind (S.root n),0,none,[a1,a2]⟩,0)]:Mem).st L2.length=⟨S.kind (S.root n),0,none,[a1,a2]⟩:=by rw[Mem.zXM,<-Mem.zXR L2,St.zPw]
      have er:St.root (L2++ [(⟨S.kind (S.root n),0,none,[a1,a2]⟩,0)]:Mem).st L2.length=L2.length:=zUO (by rw[St.link,e0])
      rw[hX3.si.wf.zYe (by rw[Mem.zXR];simp),er,St.kind,St.kids,e0,hsb,if_neg h6,if_neg h6]
      simp only[List.map_cons,List.map_nil,htr3 a1 (by have:=o1.mlt;omega),htr3 a2 o2.mlt,o2.tr,o2.old a1 o1.mlt,o1.tr]
     refine⟨v2+1,L2++ [(⟨S.kind (S.root n),0,none,[a1,a2]⟩,0)],c2+1,Z2,mput M2 (S.root n:Int) L2.length,L2.length,⟨.two n v L M i j v1 L1 M1 a1 v2 L2 M2 a2 ht hh hM hk hkd o1.cr o2.cr hM2,hX3.putM hrn (by simp) (by rw[htn,h0.zYf hrn hn (h0.zUQ n)]),hK2,by omega,by rw[YAJ,hK2l,hl2,hl1];simp only[List.length_cons,List.length_nil];omega,by rw[hK2l];omega,by simp,htn,fun i hi=>by rw[htr3 i (by omega),o2.old i (by omega),o1.old i hi],fun h=> ?_,fun x h1 h2=> ?_⟩,fun F hD=> ?_⟩
     ·rw[<-hhr,hh]at h;cases h
     ·rw[zPO]at h2
      split at h2
      ·rename_i e
       have:x=S.root n:=by omega
       rw[this];exact .here n
      ·by_cases e:mget M1 (x:Int)=none
       ·exact .kid n j x (by rw[hk];simp) (o2.nw x e h2)
       ·exact .kid n i x (by rw[hk];simp) (o1.nw x h1 e)
     ·have hnl2:S.root n<L2.length:=by omega
      have hnd2:(L2.getD (S.root n) default).1.kind=S.kind (S.root n):=by rw[<-L2.nd,o2.cx.nd _ hrn];rfl
      have qa:=fun F hD=>zn1 (F:=F) (s:=s) (r:=r) (c:=c) (m1:=m1) (m2:=m2) (m3:=m3) (v:=v2) (L:=L2) (cnt:=c2) (lim:=lim) (rd:=rd) (to:=to) (Z:=Z2) (M:=M2) (S.kind (S.root n)) [a1,a2] (by omega) ⟨by omega,by omega⟩ hD
      unfold DCalls
      refine eD C_ok Try.func93 Try.results93 fun ok=> ?_
      have h:=YAN
      repeat' (first
       |(with_reducible first|apply bA|apply bB|apply bC|apply bD|apply bE|apply bF)<;>intro h
       |((first|apply bG|apply bH);simp only[yP,yQ,W2,W3,yH,yI,yJ,yK,yL,yM,hpC,bxS,arS,cpB,sixP hD,zHe,zHx,zPN,zOl,zMT,Option.getD_none,Option.isSome_none,Option.getD_some,Option.isSome_some,zOg,zGZ,zGa,kidI,I64,List.set_set,yN,yO,implies_true,zTh,zTg,ht,hM,hM2,hnl,hnl2,zOf hnl,zOf hnl2,hkl,hnd2];first|refine zIB (qr _ (by first|exact hD|exact hD.app _)) (.inl rfl) ?_|refine zIA (qh _ (by first|exact hD|exact hD.app _)) (.inl rfl) (fun hb=>zoa (by first|exact hD|exact hD.app _) hb) ?_|refine zIA (q1 _ (by first|exact hD|exact hD.app _)) (.inl rfl) (fun hb=>zoa (by first|exact hD|exact hD.app _) hb) ?_|refine zIA (q2 _ (by first|exact hD|exact hD.app _)) (.inl rfl) (fun hb=>zoa (by first|exact hD|exact hD.app _) hb) ?_|refine zIl rfl trivial (qa _ (by first|exact hD|exact hD.app _)) (.inl rfl) (fun hb=>zoa (by first|exact hD|exact hD.app _) hb) ?_)
       |refine drA C_ok 16 0 ?_
       |refine zJ9 ?_ C_ok Try.f93.ntmps rfl (by decide)
       |skip)<;>simp only[h,↓zaL,↓zHC,WY,reduceIte,yA,yB,yC,yD,reduceCtorEq,yE,yF,W1,WS,W3,yH,yI,yJ,yK,yL,yM,hpC,bxS,arS,cpB,sixP hD,zHe,zHx,zPN,zOl,zMT,Option.getD_none,Option.isSome_none,Option.getD_some,Option.isSome_some,zOg,zGZ,zGa,kidI,I64,List.set_set,yN,yO,implies_true,zTh,zTg,ht,hM,hM2,hnl,hnl2,zOf hnl,zOf hnl2,hkl,hnd2,zFY]
    ·have h6:S.kind (S.root n)≠6:=by omega
     have hne:S.kids (S.root n)≠[]:=by rw[hk];simp
     rw[hk]at ih hsb hkl
     have hil:i<S.length:=h0.zMa (i:=S.root n) (by rw[hk];simp)
     have hsp:=(hK.put (x:=0) hrn hne hM).1.le
     rw[(hK.put (x:=0) hrn hne hM).2]at hsp
     obtain⟨v1,L1,c1,Z1,M1,a1,o1,q1⟩:=ih i (by simp) v L cnt Z' M hX1 hK hb1 hb2 hb3
     have hl1:=o1.len
     have hm1:=o1.le
     have hc1:=o1.cn
     have hk1:=o1.km.le
     have hM1:mget M1 (S.root n:Int)=none:=Option.not_isSome_iff_eq_none.1 fun h=>zou h0 (by rw[hk];simp) (o1.nw _ hM (Option.isSome_iff_ne_none.1 h))
     obtain⟨hK2,hK2l⟩:=o1.km.put (x:=(L1.length:Int)) hrn hne hM1
     have hk3:=hK2.le
     have hX3:=o1.cx.add (x:=⟨S.kind (S.root n),0,none,[a1]⟩) (.inr ⟨rfl,.inr ⟨hkd,rfl⟩⟩) rfl (by simp only[List.mem_cons,List.not_mem_nil,or_false,forall_eq];have:=o1.mlt;omega)
     have htr3:∀i,i<L1.length->(L1++ [(⟨S.kind (S.root n),0,none,[a1]⟩,0)]:Mem).st.tree i=L1.st.tree i:=fun i hi=>by
      rw[Mem.zXM];exact o1.cx.si.wf.zYd (by rw[<-Mem.zXM L1 (_,0)];exact hX3.si.wf) rfl i (by rw[Mem.zXR];exact hi)
     have htn:(L1++ [(⟨S.kind (S.root n),0,none,[a1]⟩,0)]:Mem).st.tree L1.length=sbT (fOf S to) (S.tree n):=by
      have e0:St.nd (L1++ [(⟨S.kind (S.root n),0,none,[a1]⟩,0)]:Mem).st L1.length=⟨S.kind (S.root n),0,none,[a1]⟩:=by rw[Mem.zXM,<-Mem.zXR L1,St.zPw]
      have er:St.root (L1++ [(⟨S.kind (S.root n),0,none,[a1]⟩,0)]:Mem).st L1.length=L1.length:=zUO (by rw[St.link,e0])
      rw[hX3.si.wf.zYe (by rw[Mem.zXR];simp),er,St.kind,St.kids,e0,hsb,if_neg h6,if_neg h6]
      simp only[List.map_cons,List.map_nil,htr3 a1 o1.mlt,o1.tr]
     refine⟨v1+1,L1++ [(⟨S.kind (S.root n),0,none,[a1]⟩,0)],c1+1,Z1,mput M1 (S.root n:Int) L1.length,L1.length,⟨.one n v L M i v1 L1 M1 a1 ht hh hM hk hkd o1.cr hM1,hX3.putM hrn (by simp) (by rw[htn,h0.zYf hrn hn (h0.zUQ n)]),hK2,by omega,by rw[YAJ,hK2l,hl1];simp only[List.length_cons,List.length_nil];omega,by rw[hK2l];omega,by simp,htn,fun i hi=>by rw[htr3 i (by omega),o1.old i hi],fun h=> ?_,fun x h1 h2=> ?_⟩,fun F hD=> ?_⟩
     ·rw[<-hhr,hh]at h;cases h
     ·rw[zPO]at h2
      split at h2
      ·rename_i e
       have:x=S.root n:=by omega
       rw[this];exact .here n
      ·exact .kid n i x (by rw[hk];simp) (o1.nw x h1 h2)
     ·have hnl2:S.root n<L1.length:=by omega
      have hnd2:(L1.getD (S.root n) default).1.kind=S.kind (S.root n):=by rw[<-L1.nd,o1.cx.nd _ hrn];rfl
      have qa:=fun F hD=>zn1 (F:=F) (s:=s) (r:=r) (c:=c) (m1:=m1) (m2:=m2) (m3:=m3) (v:=v1) (L:=L1) (cnt:=c1) (lim:=lim) (rd:=rd) (to:=to) (Z:=Z1) (M:=M1) (S.kind (S.root n)) [a1] (by omega) ⟨by omega,by omega⟩ hD
      unfold DCalls
      refine eD C_ok Try.func93 Try.results93 fun ok=> ?_
      have h:=YAN
      repeat' (first
       |(with_reducible first|apply bA|apply bB|apply bC|apply bD|apply bE|apply bF)<;>intro h
       |((first|apply bG|apply bH);simp only[yP,yQ,W2,W3,yH,yI,yJ,yK,yL,yM,hpC,bxS,arS,cpB,sixP hD,zHe,zHx,zPN,zOl,zMT,Option.getD_none,Option.isSome_none,Option.getD_some,Option.isSome_some,zOg,zGZ,zGa,kidI,I64,List.set_set,yN,yO,implies_true,zTh,zTg,ht,hM,hM1,hnl,hnl2,zOf hnl,zOf hnl2,hkl,hnd2];first|refine zIB (qr _ (by first|exact hD|exact hD.app _)) (.inl rfl) ?_|refine zIA (qh _ (by first|exact hD|exact hD.app _)) (.inl rfl) (fun hb=>zoa (by first|exact hD|exact hD.app _) hb) ?_|refine zIA (q1 _ (by first|exact hD|exact hD.app _)) (.inl rfl) (fun hb=>zoa (by first|exact hD|exact hD.app _) hb) ?_|refine zIl rfl trivial (qa _ (by first|exact hD|exact hD.app _)) (.inl rfl) (fun hb=>zoa (by first|exact hD|exact hD.app _) hb) ?_)
       |refine drA C_ok 16 0 ?_
       |refine zJ9 ?_ C_ok Try.f93.ntmps rfl (by decide)
       |skip)<;>simp only[h,↓zaL,↓zHC,WY,reduceIte,yA,yB,yC,yD,reduceCtorEq,yE,yF,W1,WS,W3,yH,yI,yJ,yK,yL,yM,hpC,bxS,arS,cpB,sixP hD,zHe,zHx,zPN,zOl,zMT,Option.getD_none,Option.isSome_none,Option.getD_some,Option.isSome_some,zOg,zGZ,zGa,kidI,I64,List.set_set,yN,yO,implies_true,zTh,zTg,ht,hM,hM1,hnl,hnl2,zOf hnl,zOf hnl2,hkl,hnd2,zFY]
  ·replace hh:hld S to (S.root n)=false:=by simpa using hh
   rw[hh]at qh
   have hh':hld S to n=false:=by rw[<-hhr];exact hh
   refine⟨v,L,cnt,Z',M,S.root n,⟨.old _ _ _ _ ht hh,hX1,hK,YAV _,by omega,by omega,by omega,?_,fun _ _=>rfl,fun h=>⟨rfl,rfl⟩,fun x h1 h2=>absurd h1 h2⟩,fun F hD=> ?_⟩
   ·rw[(hX.tr _ hrn).1,h0.zYf hrn hn (h0.zUQ n)]
    exact(zpr h0 (fun z t e m hm=>by
     obtain⟨a,b,e1,e2,e3,e4⟩:=hto _ _ e
     have:m=a:=by omega
     subst this
     exact e3) n hn hh').symm
   ·unfold DCalls
    refine eD C_ok Try.func93 Try.results93 fun ok=> ?_
    have h:=YAN
    repeat' (first
     |(with_reducible first|apply bA|apply bB|apply bC|apply bD|apply bE|apply bF)<;>intro h
     |((first|apply bG|apply bH);simp only[yP,yQ,W2,W3,yH,yI,yJ,yK,yL,yM,hpC,bxS,arS,cpB,sixP hD,zHe,zHx,zPN,zOl,zMT,Option.getD_none,Option.isSome_none,Option.getD_some,Option.isSome_some,zOg,zGZ,zGa,kidI,I64,List.set_set,yN,yO,implies_true,zTh,zTg,ht];first|refine zIB (qr _ (by first|exact hD|exact hD.app _)) (.inl rfl) ?_|refine zIA (qh _ (by first|exact hD|exact hD.app _)) (.inl rfl) (fun hb=>zoa (by first|exact hD|exact hD.app _) hb) ?_)
     |refine drA C_ok 16 0 ?_
     |refine zJ9 ?_ C_ok Try.f93.ntmps rfl (by decide)
     |skip)<;>simp only[h,↓zaL,↓zHC,WY,reduceIte,yA,yB,yC,yD,reduceCtorEq,yE,yF,W1,WS,W3,yH,yI,yJ,yK,yL,yM,hpC,bxS,arS,cpB,sixP hD,zHe,zHx,zPN,zOl,zMT,Option.getD_none,Option.isSome_none,Option.getD_some,Option.isSome_some,zOg,zGZ,zGa,kidI,I64,List.set_set,yN,yO,implies_true,zTh,zTg,ht,zFY]
theorem zoB(h0:Wf S)(hto:TOK S to)(h12:m1≠m2):∀n,n<S.length->znu s r c m1 m2 m3 S to lim rd n:=by
 refine h0.ind (p:=fun n=>n<S.length->znu s r c m1 m2 m3 S to lim rd n) fun n ih hn=>zoD h0 hto h12 n hn fun k hk=>ih k hk (h0.zMa hk)
end
end Go.Proofs.Ytdngjamjccjlmaa
