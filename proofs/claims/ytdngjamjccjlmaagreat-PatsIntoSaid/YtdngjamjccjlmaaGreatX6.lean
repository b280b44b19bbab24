/- The document's store, walked: a type with variables made in it, its variables' nodes in a row. No condition. -/
import Derived.Test.YtdngjamjccjlmaaGreatPRf
import Derived.Test.YtdngjamjccjlmaaGreatPBa
set_option linter.unusedSimpArgs false
set_option linter.unusedVariables false
set_option maxHeartbeats 4000000
set_option maxRecDepth 100000
namespace Go.Proofs.YtdngjamjccjlmaaGreat
open Go Go.Ab
open Nat renaming reduceEqDiff -> yA, reduceAdd -> yB, reduceLT -> yC
open Int renaming reduceLT -> yI, reduceBEq -> yK, reduceLE -> yM
open AV renaming belL -> yO, bel -> yN, normL -> yQ, norm -> yP
open AObj renaming bel -> yR
attribute [local irreducible] zA0 zAA zAa zAi zAj GoIf GoGb zAk GoO GoD GoX GoDX GoG GoDG GoGv zAl Go zAB
def esZ(vs:List Int)(Z:List (Int×Int)):List Int:=vs.map fun k=>(mget Z k).getD (-1)
def arV(es:List Int):AObj:= .arr 0 1 (es.map I64)
theorem zlw(m:Nat)(es:List Int):(arV es).bel m=true:=by simp only[arV,yR,zLy]
theorem zl2(vs:List Int)(Z:List (Int×Int)):(esZ vs Z).length=vs.length:=by simp[esZ]
theorem zl1{vs:List Int}{Z:List (Int×Int)}{i:Nat}{k:Int}(hi:i<vs.length)(hk:vs.getD i 0=k):(esZ vs Z).getD i 0=(mget Z k).getD (-1):=by
 have:vs[i]=k:=by simpa [hi]using hk
 simp[esZ,hi,this]
theorem zl3{vs:List Int}(hn:vs.Nodup){Z:List (Int×Int)}{i:Nat}{k n:Int}(hi:i<vs.length)(hk:vs.getD i 0=k):(esZ vs Z).set i n=esZ vs (mput Z k n):=by
 have hk':vs[i]=k:=by simpa [hi]using hk
 apply List.ext_getElem (by simp[esZ])
 intro j h1 h2
 have hj:j<vs.length:=by simpa [esZ]using h2
 rw[List.getElem_set]
 simp only[esZ,List.getElem_map,zPO]
 by_cases e:i=j
 ·subst e;rw[if_pos rfl,hk',if_pos rfl];rfl
 ·rw[if_neg e,if_neg]
  intro h
  have hp:=List.pairwise_iff_getElem.1 hn
  rcases Nat.lt_or_gt_of_ne e with hij|hij
  ·exact hp i j hi hj hij (by rw[hk',h])
  ·exact hp j i hj hi hij (by rw[hk',h])
theorem zl8{k:Int}:∀ {vs:List Int},k∈vs->∃i,i<vs.length/\vs.getD i 0=k/\∀j,j<i->vs.getD j 0≠k
 |v::vs,h=>by
  by_cases e:v=k
  ·exact⟨0,by simp,by simpa using e,fun j hj=>by omega⟩
  ·rcases List.mem_cons.1 h with h|h
   ·exact absurd h.symm e
   ·obtain⟨i,h1,h2,h3⟩:=zl8 h
    refine⟨i+1,by simpa using h1,by simpa using h2,fun j hj=> ?_⟩
    cases j with
    |zero=>simpa using e
    |succ j=>simpa using h3 j (by omega)
theorem zmL{es:List Int}{i:Nat}(h:i<es.length):(es.map I64).getD i .any= .int .i64 (es.getD i 0):=by simp[h,I64]
theorem zmM(es:List Int)(i:Nat)(n:Int):(es.map I64).set i (.int .i64 n)=(es.set i n).map I64:=by rw[List.map_set];rfl
def zlm(s r m:Nat)(lim:Int)(vs:List Int)(t:Ty)(x y:MkS)(n e:Int):Prop:=
 ∃es':List Int,(e=0->es'=esZ vs y.Z)/\es'.length=vs.length/\∀F:List AObj,s<F.length->r<F.length->m<F.length->zAd Tryz.prog 25 [.bptr s 0,emb t,.sl (vs.map I64) .no,.ms m 0 vs.length] (hpR (F.set m (arV (esZ vs x.Z))) s r x.v x.L.st lim x.cnt) (.tup [.int .i64 n,.int .i64 e]) (hpR (F.set m (arV es')) s r y.v y.L.st lim y.cnt)
section
variable {s r m : Nat} {lim : Int} {vs : List Int}
theorem zmz{args:List AV}{x y:MkS}{es es':List Int}{w:AV}(h:∀F:List AObj,s<F.length->r<F.length->m<F.length->zAd Tryz.prog 25 args (hpR (F.set m (arV es)) s r x.v x.L.st lim x.cnt) w (hpR (F.set m (arV es')) s r y.v y.L.st lim y.cnt)){F:List AObj}(hs:s<F.length)(hr:r<F.length)(hm:m<F.length)(J:List AObj):
 zAd Tryz.prog 25 args (hpR (F.set m (arV es)++J) s r x.v x.L.st lim x.cnt) w (hpR (F.set m (arV es')++J) s r y.v y.L.st lim y.cnt):=by
 have:=h (F++J) (zN3 hs) (zN3 hr) (zN3 hm)
 rwa[zCW hm,zCW hm]at this
theorem zm0(hne:r≠s)(hsm:s≠m)(hrm:r≠m){k:Int}(hk:1<=k/\k<=5){i:Nat}(hi:k-1=(i:Int))(x:MkS):zlm s r m lim vs (.mk k 0 []) x x i 0:=by
 refine⟨esZ vs x.Z,fun _=>rfl,zl2 _ _,fun F hs hr hm=> ?_⟩
 have hp:=fun X:AObj=>stPN (G:=F.set m X) (s:=s) (r:=r) List.length_set hs hr hne
 have hmG:=fun J X bx ar=>zeR (F:=F) (J:=J) (X:=X) (bx:=bx) (ar:=ar) hm hsm hrm
 have hmS:=fun J X Y bx ar=>zeS (F:=F) (J:=J) (X:=X) (Y:=Y) (bx:=bx) (ar:=ar) hm hsm hrm
 have c6:(k==6)=false:=by rw[YAZ];omega
 have w:IntKind.wrap .i64 (k-1)=(i:Int):=by rw[zbT (by omega) (by omega)];exact hi
 unfold zAd
 refine eD C_ok Tryz.func25 Tryz.results25 fun ok=> ?_
 repeat' (first
  |refine zJ9 ?_ C_ok Tryz.f25.ntmps rfl (by decide)
  |skip)<;>simp only[↓zaL,WY,yA,yB,W1,WS,W3,hpR,bxR,arR,arV,hp,zTh,yN,yO,c6,w]
theorem znA(hne:r≠s)(hsm:s≠m)(hrm:r≠m){k:Int}{n i:Nat}(x:MkS)(hi:i<vs.length)(hk:vs.getD i 0=k)(hlt:∀j,j<i->vs.getD j 0≠k)(hmax:vs.length<=maxLen)(hg:mget x.Z k=some (n:Int)):zlm s r m lim vs (.mk 6 k []) x x n 0:=by
 refine⟨esZ vs x.Z,fun _=>rfl,zl2 _ _,fun F hs hr hm=> ?_⟩
 have hp:=fun X:AObj=>stPN (G:=F.set m X) (s:=s) (r:=r) List.length_set hs hr hne
 have hmG:=fun J X bx ar=>zeR (F:=F) (J:=J) (X:=X) (bx:=bx) (ar:=ar) hm hsm hrm
 have hmS:=fun J X Y bx ar=>zeS (F:=F) (J:=J) (X:=X) (Y:=Y) (bx:=bx) (ar:=ar) hm hsm hrm
 have g0:((n:Int)≥0)=True:=by simp
 unfold zAd
 refine eD C_ok Tryz.func25 Tryz.results25 fun ok=> ?_
 repeat' simp only[↓zaL,WY,yA,yB,W1,WS,hpR,bxR,arR,arV,hp]
 refine zCN [10,0,2,3,5] ?_
 simp only[List.map_cons,List.map_nil,↓zaL,WY,yA,reduceCtorEq,WS]
 refine zJ1 1 (fun j:Nat=> [(10,.int .i64 j)]) (fun _=>_) (fun j=>j<=i) (fun j=>i-j) C_ok 0 rfl rfl (YAX _) (by decide) ?_
 rintro j hj
 simp only[List.drop_succ_cons,List.drop_zero,List.cons_append,List.nil_append]
 have hjl:j<vs.length:=by omega
 have hgv:=zmL hjl
 have hge:=zmL (es:=esZ vs x.Z) (i:=j) (by rw[zl2];exact hjl)
 by_cases hjn:j<i
 ·have b0:(vs.getD j 0==k)=false:=by rw[YAZ];exact hlt j hjn
  repeat' (first
   |refine drA C_ok 5 0 ?_
   |refine drA C_ok 7 0 ?_
   |skip)<;>simp only[↓zaL,↓zHC,WY,yA,yB,yC,reduceCtorEq,W1,WS,hp,hjl,hgv,b0]
  refine⟨j+1,by omega,by omega,zap rfl ?_⟩
  simp only[WK,↓zaL,↓zHC,yA,yP,zbX hjl hmax]
 ·obtain rfl:j=i:=by omega
  have b0:(vs.getD j 0==k)=true:=by rw[beq_iff_eq];exact hk
  rw[zl1 hjl hk]at hge
  repeat' (first
   |refine drA C_ok 5 0 ?_
   |skip)<;>simp only[↓zaL,↓zHC,WY,yA,yB,yC,reduceCtorEq,W1,WS,hp,hmG,zTh,yN,yO,zl2,hjl,hgv,hge,b0,hg,Option.getD_some,g0]
theorem zm8(hne:r≠s)(hsm:s≠m)(hrm:r≠m){k:Int}{i:Nat}(x:MkS)(hn:vs.Nodup)(hi:i<vs.length)(hk:vs.getD i 0=k)(hlt:∀j,j<i->vs.getD j 0≠k)(hmax:vs.length<=maxLen)(hg:mget x.Z k=none)(hc:x.cnt<lim)(hL:x.L.length<=1000000)(hc':0<=x.cnt/\x.cnt<=1000000):
 zlm s r m lim vs (.mk 6 k []) x {x.out ⟨6,3,none,[]⟩with Z:=mput x.Z k x.L.st.length} x.L.st.length 0:=by
 refine⟨_,fun _=>rfl,zl2 _ _,fun F hs hr hm=> ?_⟩
 rw[<-zl3 hn hi hk]
 have hp:=fun X:AObj=>stPN (G:=F.set m X) (s:=s) (r:=r) List.length_set hs hr hne
 have hmG:=fun J X bx ar=>zeR (F:=F) (J:=J) (X:=X) (bx:=bx) (ar:=ar) hm hsm hrm
 have hmS:=fun J X Y bx ar=>zeS (F:=F) (J:=J) (X:=X) (Y:=Y) (bx:=bx) (ar:=ar) hm hsm hrm
 have q:=fun(F:List AObj) (hs:s<F.length) (hr:r<F.length)=>zgb (F:=F) (v:=x.v) (S:=x.L.st) (lim:=lim) (cnt:=x.cnt) hs hr hne 3 (by decide) (by omega) (by rw[Mem.zXR];exact hL) hc'
 have g0:((-1:Int)≥0)=False:=by simp
 have hset:=zmM (esZ vs x.Z) i (x.L.st.length:Int)
 unfold zAd
 refine eD C_ok Tryz.func25 Tryz.results25 fun ok=> ?_
 repeat' simp only[↓zaL,WY,yA,yB,W1,WS,hpR,bxR,arR,arV,hp]
 refine zCN [10,0,2,3,5] ?_
 simp only[List.map_cons,List.map_nil,↓zaL,WY,yA,reduceCtorEq,WS]
 refine zJ1 1 (fun j:Nat=> [(10,.int .i64 j)]) (fun _=>_) (fun j=>j<=i) (fun j=>i-j) C_ok 0 rfl rfl (YAX _) (by decide) ?_
 rintro j hj
 simp only[List.drop_succ_cons,List.drop_zero,List.cons_append,List.nil_append]
 have hjl:j<vs.length:=by omega
 have hgv:=zmL hjl
 have hge:=zmL (es:=esZ vs x.Z) (i:=j) (by rw[zl2];exact hjl)
 by_cases hjn:j<i
 ·have b0:(vs.getD j 0==k)=false:=by rw[YAZ];exact hlt j hjn
  repeat' (first
   |refine drA C_ok 5 0 ?_
   |refine drA C_ok 7 0 ?_
   |skip)<;>simp only[↓zaL,↓zHC,WY,yA,yB,yC,reduceCtorEq,W1,WS,hp,hjl,hgv,b0]
  refine⟨j+1,by omega,by omega,zap rfl ?_⟩
  simp only[WK,↓zaL,↓zHC,yA,yP,zbX hjl hmax]
 ·obtain rfl:j=i:=by omega
  have b0:(vs.getD j 0==k)=true:=by rw[beq_iff_eq];exact hk
  rw[zl1 hjl hk]at hge
  repeat' (first
   |((first|apply bG|apply bH);simp only[yP,yQ];refine zIA (q _ (by first|exact hs|simp<;>omega) (by first|exact hr|simp<;>omega)) (.inl rfl) (fun hb=>zeT (by first|exact hs|simp<;>omega) (by first|exact hr|simp<;>omega) hne hb) ?_)
   |refine drA C_ok 5 0 ?_
   |refine drA C_ok 7 0 ?_
   |skip)<;>simp only[↓zaL,↓zHC,WY,yA,yB,yC,reduceCtorEq,W1,WS,hpR,bxR,arR,hp,hmG,hmS,zTh,yN,yO,zl2,implies_true,hjl,hgv,hge,b0,hg,Option.getD_none,g0,hset,Mem.zXM,MkS.out]
theorem zm9(hne:r≠s)(hsm:s≠m)(hrm:r≠m){k:Int}{i:Nat}(x:MkS)(hi:i<vs.length)(hk:vs.getD i 0=k)(hlt:∀j,j<i->vs.getD j 0≠k)(hmax:vs.length<=maxLen)(hg:mget x.Z k=none)(hc:x.cnt=lim):zlm s r m lim vs (.mk 6 k []) x x 0 7:=by
 refine⟨(esZ vs x.Z).set i 0,fun h=>absurd h (by decide),by simp[zl2],fun F hs hr hm=> ?_⟩
 have hp:=fun X:AObj=>stPN (G:=F.set m X) (s:=s) (r:=r) List.length_set hs hr hne
 have hmG:=fun J X bx ar=>zeR (F:=F) (J:=J) (X:=X) (bx:=bx) (ar:=ar) hm hsm hrm
 have hmS:=fun J X Y bx ar=>zeS (F:=F) (J:=J) (X:=X) (Y:=Y) (bx:=bx) (ar:=ar) hm hsm hrm
 have q:=fun(F:List AObj) (hs:s<F.length) (hr:r<F.length)=>rvar_full (F:=F) (v:=x.v) (S:=x.L.st) (lim:=lim) (cnt:=x.cnt) hs hr hne 3 (by decide) (by omega)
 have g0:((-1:Int)≥0)=False:=by simp
 have hset:=zmM (esZ vs x.Z) i 0
 unfold zAd
 refine eD C_ok Tryz.func25 Tryz.results25 fun ok=> ?_
 repeat' simp only[↓zaL,WY,yA,yB,W1,WS,hpR,bxR,arR,arV,hp]
 refine zCN [10,0,2,3,5] ?_
 simp only[List.map_cons,List.map_nil,↓zaL,WY,yA,reduceCtorEq,WS]
 refine zJ1 1 (fun j:Nat=> [(10,.int .i64 j)]) (fun _=>_) (fun j=>j<=i) (fun j=>i-j) C_ok 0 rfl rfl (YAX _) (by decide) ?_
 rintro j hj
 simp only[List.drop_succ_cons,List.drop_zero,List.cons_append,List.nil_append]
 have hjl:j<vs.length:=by omega
 have hgv:=zmL hjl
 have hge:=zmL (es:=esZ vs x.Z) (i:=j) (by rw[zl2];exact hjl)
 by_cases hjn:j<i
 ·have b0:(vs.getD j 0==k)=false:=by rw[YAZ];exact hlt j hjn
  repeat' (first
   |refine drA C_ok 5 0 ?_
   |refine drA C_ok 7 0 ?_
   |skip)<;>simp only[↓zaL,↓zHC,WY,yA,yB,yC,reduceCtorEq,W1,WS,hp,hjl,hgv,b0]
  refine⟨j+1,by omega,by omega,zap rfl ?_⟩
  simp only[WK,↓zaL,↓zHC,yA,yP,zbX hjl hmax]
 ·obtain rfl:j=i:=by omega
  have b0:(vs.getD j 0==k)=true:=by rw[beq_iff_eq];exact hk
  rw[zl1 hjl hk]at hge
  repeat' (first
   |((first|apply bG|apply bH);simp only[yP,yQ];refine zIA (q _ (by first|exact hs|simp<;>omega) (by first|exact hr|simp<;>omega)) (.inl rfl) (fun hb=>zeT (by first|exact hs|simp<;>omega) (by first|exact hr|simp<;>omega) hne hb) ?_)
   |refine drA C_ok 5 0 ?_
   |refine drA C_ok 7 0 ?_
   |skip)<;>simp only[↓zaL,↓zHC,WY,yA,yB,yC,reduceCtorEq,W1,WS,hpR,bxR,arR,hp,hmG,hmS,zTh,yN,yO,zl2,implies_true,hjl,hgv,hge,b0,hg,Option.getD_none,g0,hset]
theorem zm4(hne:r≠s)(hsm:s≠m)(hrm:r≠m){k:Int}{a b:Ty}{x y z:MkS}{i j:Nat}(hk:k=7\/k=9)(h1:zlm s r m lim vs a x y i 0)(h2:zlm s r m lim vs b y z j 0)(hi:i<z.L.length)(hj:j<z.L.length)(hc:z.cnt<lim)(hL:z.L.length<=1000000)(hc':0<=z.cnt/\z.cnt<=1000000):zlm s r m lim vs (.mk k 0 [a,b]) x (z.out ⟨k,0,none,[i,j]⟩) z.L.st.length 0:=by
 obtain⟨es1,f1,l1,d1⟩:=h1
 obtain⟨es2,f2,l2,d2⟩:=h2
 obtain rfl:=f1 rfl
 obtain rfl:=f2 rfl
 refine⟨_,fun _=>rfl,zl2 _ _,fun F hs hr hm=> ?_⟩
 have d1:=fun J=>zmz d1 hs hr hm J
 have d2:=fun J=>zmz d2 hs hr hm J
 have hp:=fun X:AObj=>stPN (G:=F.set m X) (s:=s) (r:=r) List.length_set hs hr hne
 have hmG:=fun J X bx ar=>zeR (F:=F) (J:=J) (X:=X) (bx:=bx) (ar:=ar) hm hsm hrm
 have hmS:=fun J X Y bx ar=>zeS (F:=F) (J:=J) (X:=X) (Y:=Y) (bx:=bx) (ar:=ar) hm hsm hrm
 have q:=fun(F:List AObj) (hs:s<F.length) (hr:r<F.length)=>zf5 (F:=F) (v:=z.v) (S:=z.L.st) (lim:=lim) (cnt:=z.cnt) hs hr hne k i j hk (by rw[Mem.zXR];exact hi) (by rw[Mem.zXR];exact hj) (by omega) (by rw[Mem.zXR];exact hL) hc'
 have c6:(k==6)=false:=by rw[YAZ];omega
 have e7:((7:Int) !=0)=true:=rfl
 rcases hk with rfl|rfl
 ·unfold zAd
  refine eD C_ok Tryz.func25 Tryz.results25 fun ok=> ?_
  repeat' (first
   |((first|apply bG|apply bH);simp only[yP,yQ,W2,zLz];first|refine zIA (d1 _) (.inl rfl) (fun hb=>by first|exact zeN hm hsm hrm hs hr hne (zlw _ _) hb|exact zeO hm hsm hrm hs hr hne (zlw _ _) hb) ?_|refine zIA (d2 _) (.inl rfl) (fun hb=>by first|exact zeN hm hsm hrm hs hr hne (zlw _ _) hb|exact zeO hm hsm hrm hs hr hne (zlw _ _) hb) ?_|refine zIA (q _ (by first|exact hs|simp<;>omega) (by first|exact hr|simp<;>omega)) (.inl rfl) (fun hb=>zeT (by first|exact hs|simp<;>omega) (by first|exact hr|simp<;>omega) hne hb) ?_)
   |refine zJ9 ?_ C_ok Tryz.f25.ntmps rfl (by decide)
   |skip)<;>simp only[↓zaL,WY,yA,yB,reduceCtorEq,W1,WS,W3,yI,yK,yM,hpR,bxR,arR,arV,hp,zTh,yN,yO,YAO,Mem.zXM,MkS.out,YAQ,c6]
 ·unfold zAd
  refine eD C_ok Tryz.func25 Tryz.results25 fun ok=> ?_
  repeat' (first
   |((first|apply bG|apply bH);simp only[yP,yQ,W2,zLz];first|refine zIA (d1 _) (.inl rfl) (fun hb=>by first|exact zeN hm hsm hrm hs hr hne (zlw _ _) hb|exact zeO hm hsm hrm hs hr hne (zlw _ _) hb) ?_|refine zIA (d2 _) (.inl rfl) (fun hb=>by first|exact zeN hm hsm hrm hs hr hne (zlw _ _) hb|exact zeO hm hsm hrm hs hr hne (zlw _ _) hb) ?_|refine zIA (q _ (by first|exact hs|simp<;>omega) (by first|exact hr|simp<;>omega)) (.inl rfl) (fun hb=>zeT (by first|exact hs|simp<;>omega) (by first|exact hr|simp<;>omega) hne hb) ?_)
   |refine zJ9 ?_ C_ok Tryz.f25.ntmps rfl (by decide)
   |skip)<;>simp only[↓zaL,WY,yA,yB,reduceCtorEq,W1,WS,W3,yI,yK,yM,hpR,bxR,arR,arV,hp,zTh,yN,yO,YAO,Mem.zXM,MkS.out,YAQ,c6]
theorem zm1(hne:r≠s)(hsm:s≠m)(hrm:r≠m){a:Ty}{x y:MkS}{i:Nat}(h1:zlm s r m lim vs a x y i 0)(hi:i<y.L.length)(hc:y.cnt<lim)(hL:y.L.length<=1000000)(hc':0<=y.cnt/\y.cnt<=1000000):zlm s r m lim vs (.mk 8 0 [a]) x (y.out ⟨8,0,none,[i]⟩) y.L.st.length 0:=by
 obtain⟨es1,f1,l1,d1⟩:=h1
 obtain rfl:=f1 rfl
 refine⟨_,fun _=>rfl,zl2 _ _,fun F hs hr hm=> ?_⟩
 have d1:=fun J=>zmz d1 hs hr hm J
 have hp:=fun X:AObj=>stPN (G:=F.set m X) (s:=s) (r:=r) List.length_set hs hr hne
 have hmG:=fun J X bx ar=>zeR (F:=F) (J:=J) (X:=X) (bx:=bx) (ar:=ar) hm hsm hrm
 have hmS:=fun J X Y bx ar=>zeS (F:=F) (J:=J) (X:=X) (Y:=Y) (bx:=bx) (ar:=ar) hm hsm hrm
 have e7:((7:Int) !=0)=true:=rfl
 have q:=fun(F:List AObj) (hs:s<F.length) (hr:r<F.length)=>zf3 (F:=F) (v:=y.v) (S:=y.L.st) (lim:=lim) (cnt:=y.cnt) hs hr hne i i (by rw[Mem.zXR];exact hi) (by omega) (by rw[Mem.zXR];exact hL) hc'
 unfold zAd
 refine eD C_ok Tryz.func25 Tryz.results25 fun ok=> ?_
 repeat' (first
  |((first|apply bG|apply bH);simp only[yP,yQ,W2,zLz];first|refine zIA (d1 _) (.inl rfl) (fun hb=>by first|exact zeN hm hsm hrm hs hr hne (zlw _ _) hb|exact zeO hm hsm hrm hs hr hne (zlw _ _) hb) ?_|refine zIA (q _ (by first|exact hs|simp<;>omega) (by first|exact hr|simp<;>omega)) (.inl rfl) (fun hb=>zeT (by first|exact hs|simp<;>omega) (by first|exact hr|simp<;>omega) hne hb) ?_)
  |refine zJ9 ?_ C_ok Tryz.f25.ntmps rfl (by decide)
  |skip)<;>simp only[↓zaL,WY,yA,yB,reduceCtorEq,W1,WS,W3,yI,yK,hpR,bxR,arR,arV,hp,zTh,yN,yO,YAO,Mem.zXM,MkS.out,YAQ]
theorem zm5(hne:r≠s)(hsm:s≠m)(hrm:r≠m){k:Int}{a b:Ty}{x y z:MkS}{i j:Nat}(hk:k=7\/k=9)(h1:zlm s r m lim vs a x y i 0)(h2:zlm s r m lim vs b y z j 0)(hi:i<z.L.length)(hj:j<z.L.length)(hc:z.cnt=lim):zlm s r m lim vs (.mk k 0 [a,b]) x z 0 7:=by
 obtain⟨es1,f1,l1,d1⟩:=h1
 obtain⟨es2,f2,l2,d2⟩:=h2
 obtain rfl:=f1 rfl
 refine⟨es2,fun h=>absurd h (by decide),l2,fun F hs hr hm=> ?_⟩
 have d1:=fun J=>zmz d1 hs hr hm J
 have d2:=fun J=>zmz d2 hs hr hm J
 have hp:=fun X:AObj=>stPN (G:=F.set m X) (s:=s) (r:=r) List.length_set hs hr hne
 have hmG:=fun J X bx ar=>zeR (F:=F) (J:=J) (X:=X) (bx:=bx) (ar:=ar) hm hsm hrm
 have hmS:=fun J X Y bx ar=>zeS (F:=F) (J:=J) (X:=X) (Y:=Y) (bx:=bx) (ar:=ar) hm hsm hrm
 have q:=fun(F:List AObj) (hs:s<F.length) (hr:r<F.length)=>rmake_full (F:=F) (v:=z.v) (S:=z.L.st) (lim:=lim) (cnt:=z.cnt) hs hr hne k i j hk (by rw[Mem.zXR];exact hi) (by rw[Mem.zXR];exact hj) (by omega)
 have c6:(k==6)=false:=by rw[YAZ];omega
 have e7:((7:Int) !=0)=true:=rfl
 rcases hk with rfl|rfl
 ·unfold zAd
  refine eD C_ok Tryz.func25 Tryz.results25 fun ok=> ?_
  repeat' (first
   |((first|apply bG|apply bH);simp only[yP,yQ,W2,zLz];first|refine zIA (d1 _) (.inl rfl) (fun hb=>by first|exact zeN hm hsm hrm hs hr hne (zlw _ _) hb|exact zeO hm hsm hrm hs hr hne (zlw _ _) hb) ?_|refine zIA (d2 _) (.inl rfl) (fun hb=>by first|exact zeN hm hsm hrm hs hr hne (zlw _ _) hb|exact zeO hm hsm hrm hs hr hne (zlw _ _) hb) ?_|refine zIA (q _ (by first|exact hs|simp<;>omega) (by first|exact hr|simp<;>omega)) (.inl rfl) (fun hb=>zeT (by first|exact hs|simp<;>omega) (by first|exact hr|simp<;>omega) hne hb) ?_)
   |refine zJ9 ?_ C_ok Tryz.f25.ntmps rfl (by decide)
   |skip)<;>simp only[↓zaL,WY,yA,yB,reduceCtorEq,W1,WS,W3,yI,yK,yM,hpR,bxR,arR,arV,hp,zTh,yN,yO,YAO,YAQ,c6]
 ·unfold zAd
  refine eD C_ok Tryz.func25 Tryz.results25 fun ok=> ?_
  repeat' (first
   |((first|apply bG|apply bH);simp only[yP,yQ,W2,zLz];first|refine zIA (d1 _) (.inl rfl) (fun hb=>by first|exact zeN hm hsm hrm hs hr hne (zlw _ _) hb|exact zeO hm hsm hrm hs hr hne (zlw _ _) hb) ?_|refine zIA (d2 _) (.inl rfl) (fun hb=>by first|exact zeN hm hsm hrm hs hr hne (zlw _ _) hb|exact zeO hm hsm hrm hs hr hne (zlw _ _) hb) ?_|refine zIA (q _ (by first|exact hs|simp<;>omega) (by first|exact hr|simp<;>omega)) (.inl rfl) (fun hb=>zeT (by first|exact hs|simp<;>omega) (by first|exact hr|simp<;>omega) hne hb) ?_)
   |refine zJ9 ?_ C_ok Tryz.f25.ntmps rfl (by decide)
   |skip)<;>simp only[↓zaL,WY,yA,yB,reduceCtorEq,W1,WS,W3,yI,yK,yM,hpR,bxR,arR,arV,hp,zTh,yN,yO,YAO,YAQ,c6]
theorem zm6(hne:r≠s)(hsm:s≠m)(hrm:r≠m){k:Int}{a b:Ty}{x y:MkS}(hk:k=7\/k=9)(h1:zlm s r m lim vs a x y 0 7):zlm s r m lim vs (.mk k 0 [a,b]) x y 0 7:=by
 obtain⟨es1,f1,l1,d1⟩:=h1
 refine⟨es1,fun h=>absurd h (by decide),l1,fun F hs hr hm=> ?_⟩
 have d1:=fun J=>zmz d1 hs hr hm J
 have hp:=fun X:AObj=>stPN (G:=F.set m X) (s:=s) (r:=r) List.length_set hs hr hne
 have hmG:=fun J X bx ar=>zeR (F:=F) (J:=J) (X:=X) (bx:=bx) (ar:=ar) hm hsm hrm
 have hmS:=fun J X Y bx ar=>zeS (F:=F) (J:=J) (X:=X) (Y:=Y) (bx:=bx) (ar:=ar) hm hsm hrm
 have c6:(k==6)=false:=by rw[YAZ];omega
 have e7:((7:Int) !=0)=true:=rfl
 rcases hk with rfl|rfl
 ·unfold zAd
  refine eD C_ok Tryz.func25 Tryz.results25 fun ok=> ?_
  repeat' (first
   |((first|apply bG|apply bH);simp only[yP,yQ,W2,zLz];refine zIA (d1 _) (.inl rfl) (fun hb=>by first|exact zeN hm hsm hrm hs hr hne (zlw _ _) hb|exact zeO hm hsm hrm hs hr hne (zlw _ _) hb) ?_)
   |refine zJ9 ?_ C_ok Tryz.f25.ntmps rfl (by decide)
   |skip)<;>simp only[↓zaL,WY,yA,yB,reduceCtorEq,W1,WS,W3,yI,yK,hpR,bxR,arR,arV,hp,zTh,yN,yO,YAQ,c6,e7]
 ·unfold zAd
  refine eD C_ok Tryz.func25 Tryz.results25 fun ok=> ?_
  repeat' (first
   |((first|apply bG|apply bH);simp only[yP,yQ,W2,zLz];refine zIA (d1 _) (.inl rfl) (fun hb=>by first|exact zeN hm hsm hrm hs hr hne (zlw _ _) hb|exact zeO hm hsm hrm hs hr hne (zlw _ _) hb) ?_)
   |refine zJ9 ?_ C_ok Tryz.f25.ntmps rfl (by decide)
   |skip)<;>simp only[↓zaL,WY,yA,yB,reduceCtorEq,W1,WS,W3,yI,yK,hpR,bxR,arR,arV,hp,zTh,yN,yO,YAQ,c6,e7]
theorem zm7(hne:r≠s)(hsm:s≠m)(hrm:r≠m){k:Int}{a b:Ty}{x y z:MkS}{i:Nat}(hk:k=7\/k=9)(h1:zlm s r m lim vs a x y i 0)(h2:zlm s r m lim vs b y z 0 7):zlm s r m lim vs (.mk k 0 [a,b]) x z 0 7:=by
 obtain⟨es1,f1,l1,d1⟩:=h1
 obtain⟨es2,f2,l2,d2⟩:=h2
 obtain rfl:=f1 rfl
 refine⟨es2,fun h=>absurd h (by decide),l2,fun F hs hr hm=> ?_⟩
 have d1:=fun J=>zmz d1 hs hr hm J
 have d2:=fun J=>zmz d2 hs hr hm J
 have hp:=fun X:AObj=>stPN (G:=F.set m X) (s:=s) (r:=r) List.length_set hs hr hne
 have hmG:=fun J X bx ar=>zeR (F:=F) (J:=J) (X:=X) (bx:=bx) (ar:=ar) hm hsm hrm
 have hmS:=fun J X Y bx ar=>zeS (F:=F) (J:=J) (X:=X) (Y:=Y) (bx:=bx) (ar:=ar) hm hsm hrm
 have c6:(k==6)=false:=by rw[YAZ];omega
 have e7:((7:Int) !=0)=true:=rfl
 rcases hk with rfl|rfl
 ·unfold zAd
  refine eD C_ok Tryz.func25 Tryz.results25 fun ok=> ?_
  repeat' (first
   |((first|apply bG|apply bH);simp only[yP,yQ,W2,zLz];first|refine zIA (d1 _) (.inl rfl) (fun hb=>by first|exact zeN hm hsm hrm hs hr hne (zlw _ _) hb|exact zeO hm hsm hrm hs hr hne (zlw _ _) hb) ?_|refine zIA (d2 _) (.inl rfl) (fun hb=>by first|exact zeN hm hsm hrm hs hr hne (zlw _ _) hb|exact zeO hm hsm hrm hs hr hne (zlw _ _) hb) ?_)
   |refine zJ9 ?_ C_ok Tryz.f25.ntmps rfl (by decide)
   |skip)<;>simp only[↓zaL,WY,yA,yB,reduceCtorEq,W1,WS,W3,yI,yK,yM,hpR,bxR,arR,arV,hp,zTh,yN,yO,YAO,YAQ,c6,e7]
 ·unfold zAd
  refine eD C_ok Tryz.func25 Tryz.results25 fun ok=> ?_
  repeat' (first
   |((first|apply bG|apply bH);simp only[yP,yQ,W2,zLz];first|refine zIA (d1 _) (.inl rfl) (fun hb=>by first|exact zeN hm hsm hrm hs hr hne (zlw _ _) hb|exact zeO hm hsm hrm hs hr hne (zlw _ _) hb) ?_|refine zIA (d2 _) (.inl rfl) (fun hb=>by first|exact zeN hm hsm hrm hs hr hne (zlw _ _) hb|exact zeO hm hsm hrm hs hr hne (zlw _ _) hb) ?_)
   |refine zJ9 ?_ C_ok Tryz.f25.ntmps rfl (by decide)
   |skip)<;>simp only[↓zaL,WY,yA,yB,reduceCtorEq,W1,WS,W3,yI,yK,yM,hpR,bxR,arR,arV,hp,zTh,yN,yO,YAO,YAQ,c6,e7]
theorem zm2(hne:r≠s)(hsm:s≠m)(hrm:r≠m){a:Ty}{x y:MkS}{i:Nat}(h1:zlm s r m lim vs a x y i 0)(hi:i<y.L.length)(hc:y.cnt=lim):zlm s r m lim vs (.mk 8 0 [a]) x y 0 7:=by
 obtain⟨es1,f1,l1,d1⟩:=h1
 refine⟨es1,fun h=>absurd h (by decide),l1,fun F hs hr hm=> ?_⟩
 have d1:=fun J=>zmz d1 hs hr hm J
 have hp:=fun X:AObj=>stPN (G:=F.set m X) (s:=s) (r:=r) List.length_set hs hr hne
 have hmG:=fun J X bx ar=>zeR (F:=F) (J:=J) (X:=X) (bx:=bx) (ar:=ar) hm hsm hrm
 have hmS:=fun J X Y bx ar=>zeS (F:=F) (J:=J) (X:=X) (Y:=Y) (bx:=bx) (ar:=ar) hm hsm hrm
 have e7:((7:Int) !=0)=true:=rfl
 have q:=fun(F:List AObj) (hs:s<F.length) (hr:r<F.length)=>rmake_listfull (F:=F) (v:=y.v) (S:=y.L.st) (lim:=lim) (cnt:=y.cnt) hs hr hne i i (by rw[Mem.zXR];exact hi) (by omega)
 unfold zAd
 refine eD C_ok Tryz.func25 Tryz.results25 fun ok=> ?_
 repeat' (first
  |((first|apply bG|apply bH);simp only[yP,yQ,W2,zLz];first|refine zIA (d1 _) (.inl rfl) (fun hb=>by first|exact zeN hm hsm hrm hs hr hne (zlw _ _) hb|exact zeO hm hsm hrm hs hr hne (zlw _ _) hb) ?_|refine zIA (q _ (by first|exact hs|simp<;>omega) (by first|exact hr|simp<;>omega)) (.inl rfl) (fun hb=>zeT (by first|exact hs|simp<;>omega) (by first|exact hr|simp<;>omega) hne hb) ?_)
  |refine zJ9 ?_ C_ok Tryz.f25.ntmps rfl (by decide)
  |skip)<;>simp only[↓zaL,WY,yA,yB,reduceCtorEq,W1,WS,W3,yI,yK,hpR,bxR,arR,arV,hp,zTh,yN,yO,YAO,YAQ]
theorem zm3(hne:r≠s)(hsm:s≠m)(hrm:r≠m){a:Ty}{x y:MkS}(h1:zlm s r m lim vs a x y 0 7):zlm s r m lim vs (.mk 8 0 [a]) x y 0 7:=by
 obtain⟨es1,f1,l1,d1⟩:=h1
 refine⟨es1,fun h=>absurd h (by decide),l1,fun F hs hr hm=> ?_⟩
 have d1:=fun J=>zmz d1 hs hr hm J
 have hp:=fun X:AObj=>stPN (G:=F.set m X) (s:=s) (r:=r) List.length_set hs hr hne
 have hmG:=fun J X bx ar=>zeR (F:=F) (J:=J) (X:=X) (bx:=bx) (ar:=ar) hm hsm hrm
 have hmS:=fun J X Y bx ar=>zeS (F:=F) (J:=J) (X:=X) (Y:=Y) (bx:=bx) (ar:=ar) hm hsm hrm
 have e7:((7:Int) !=0)=true:=rfl
 unfold zAd
 refine eD C_ok Tryz.func25 Tryz.results25 fun ok=> ?_
 repeat' (first
  |((first|apply bG|apply bH);simp only[yP,yQ,W2,zLz];refine zIA (d1 _) (.inl rfl) (fun hb=>by first|exact zeN hm hsm hrm hs hr hne (zlw _ _) hb|exact zeO hm hsm hrm hs hr hne (zlw _ _) hb) ?_)
  |refine zJ9 ?_ C_ok Tryz.f25.ntmps rfl (by decide)
  |skip)<;>simp only[↓zaL,WY,yA,yB,reduceCtorEq,W1,WS,W3,yI,yK,hpR,bxR,arR,arV,hp,zTh,yN,yO,YAQ,e7]
end
def MkV(s r m s2 r2 m2:Nat)(lim rd:Int)(vs:List Int)(t:T):Prop:=
 ∀x:MkS,GoodS (x.sto rd)->StV x.L.st->VJ x.L.st x.Z->x.L.length+t.size<=900000->0<=x.cnt->x.cnt<=lim->x.cnt+t.size<=900000->(∀n,t.has n=true->n∈vs)->
  ∃(y:MkS) (n:Nat) (e:Int),zdq s r m lim rd 3 t.ty x y n e/\zlm s2 r2 m2 lim vs t.ty x y n e/\MkOut lim rd t x y n e
section
variable {s r m s2 r2 m2 : Nat} {lim rd : Int} {vs : List Int}
theorem zmg(hne:r≠s)(hsm:s≠m)(hrm:r≠m)(hne2:r2≠s2)(hsm2:s2≠m2)(hrm2:r2≠m2){k:Int}(hk:k=7\/k=9){a b t:T}(ht:t.ty= .mk k 0 [a.ty,b.ty])
 (hz:t.size=a.size+b.size+1) (hhas:∀n,t.has n=(a.has n||b.has n)) (ha:MkV s r m s2 r2 m2 lim rd vs a) (hb:MkV s r m s2 r2 m2 lim rd vs b):MkV s r m s2 r2 m2 lim rd vs t:=by
 intro x hg hs hv hl h0 hc hcn hvs
 rw[ht]
 obtain⟨y,i,e,h1,g1,o1⟩:=ha x hg hs hv (by omega) h0 hc (by omega) (fun n hn=>hvs n (by rw[hhas,hn,Bool.true_or]))
 have a1:=o1.lenA;have a2:=o1.lenB;have a3:=o1.cntA;have a4:=o1.cntB;have a5:=o1.lm
 rcases o1.bad with rfl|⟨rfl,rfl⟩
 ·obtain⟨z,j,e,h2,g2,o2⟩:=hb y o1.good o1.stv o1.vj (by omega) (by omega) a5 (by omega) (fun n hn=>hvs n (by rw[hhas,hn,Bool.or_true]))
  have b1:=o2.lenA;have b2:=o2.lenB;have b3:=o2.cntA;have b4:=o2.cntB;have b5:=o2.lm
  rcases o2.bad with rfl|⟨rfl,rfl⟩
  ·have l1:=o1.lt rfl
   have l2:=o2.lt rfl
   have w1:=o1.wd rfl
   have w2:=o2.wd rfl
   have ew:=o2.ext.wD (S:=y.L.st) o1.good.si.wf o2.stv (n:=i) (by rw[Mem.zXR];exact l1)
   rw[<-ew]at w1
   by_cases hcl:z.cnt=lim
   ·exact⟨z,0,7,ze9 hne hsm hrm hk h1 h2 (by omega) l2 hcl,zm5 hne2 hsm2 hrm2 hk g1 g2 (by omega) l2 hcl,
     ⟨.inr ⟨rfl,rfl⟩,o2.good,o2.stv,o1.ext.trans o2.ext,o2.vj,fun h=>absurd h (by decide),fun h=>absurd h (by decide),by omega,by omega,by omega,b5⟩⟩
   ·have r1:=zm4 (lim:=lim) hne2 hsm2 hrm2 hk g1 g2 (by omega) l2 (by omega) (by omega) ⟨by omega,by omega⟩
    rw[Mem.zXR]at r1
    exact⟨z.out ⟨k,0,none,[i,j]⟩,z.L.length,0,zep (rd:=rd) hne hsm hrm hk h1 h2 (by omega) l2 (by rw[YAZ];exact hcl) (by omega) ⟨by omega,by omega⟩,r1,
     .node o2.good o2.stv o2.vj (o1.ext.trans o2.ext) (.inl ⟨hk,rfl⟩) (by intro a ha;simp only[List.mem_cons,List.not_mem_nil,or_false]at ha;rcases ha with rfl|rfl<;>omega) (by simp only[List.map_cons,List.map_nil,List.sum_cons,List.sum_nil];omega) (by omega) (by omega) (by omega) (by omega)⟩
  ·exact⟨z,0,7,zfB hne hsm hrm hk h1 h2,zm7 hne2 hsm2 hrm2 hk g1 g2,
    ⟨.inr ⟨rfl,rfl⟩,o2.good,o2.stv,o1.ext.trans o2.ext,o2.vj,fun h=>absurd h (by decide),fun h=>absurd h (by decide),by omega,by omega,by omega,b5⟩⟩
 ·exact⟨y,0,7,zfA hne hsm hrm hk h1,zm6 hne2 hsm2 hrm2 hk g1,
   ⟨.inr ⟨rfl,rfl⟩,o1.good,o1.stv,o1.ext,o1.vj,fun h=>absurd h (by decide),fun h=>absurd h (by decide),by omega,by omega,by omega,a5⟩⟩
theorem zmf(hne:r≠s)(hsm:s≠m)(hrm:r≠m)(hne2:r2≠s2)(hsm2:s2≠m2)(hrm2:r2≠m2)(hvn:vs.Nodup)(hmax:vs.length<=maxLen):∀t:T,MkV s r m s2 r2 m2 lim rd vs t:=by
 intro t
 induction t with
 |base k=>
  intro x hg hs hv hl h0 hc hcn hvs
  have h5:5<=x.L.length:=by have:=hg.si.wf.five;rwa[show(x.sto rd).L.st=x.L.st from rfl,Mem.zXR]at this
  exact⟨x,k.val,0,zen hne hsm hrm (k:=(k.val:Int)+1) (by omega) (by omega),zm0 hne2 hsm2 hrm2 (k:=(k.val:Int)+1) (by omega) (by omega) x,.stay hg hs hv hc (fun _=>⟨by omega,zed hg.si.wf hs (by omega)⟩) (.inl rfl)⟩
 |dyn=>
  intro x hg hs hv hl h0 hc hcn hvs
  have h5:5<=x.L.length:=by have:=hg.si.wf.five;rwa[show(x.sto rd).L.st=x.L.st from rfl,Mem.zXR]at this
  exact⟨x,4,0,zen hne hsm hrm (k:=5) (by omega) (by omega),zm0 hne2 hsm2 hrm2 (k:=5) (by omega) (by omega) x,.stay hg hs hv hc (fun _=>⟨by omega,zed hg.si.wf hs (by omega)⟩) (.inl rfl)⟩
 |var k=>
  intro x hg hs hv hl h0 hc hcn hvs
  simp only[T.size]at hl hcn
  obtain⟨i0,hi0,hk0,hlt0⟩:=zl8 (hvs k (by simp[T.has]))
  cases e:mget x.Z k with
  |some n=>
   obtain⟨n,rfl,hn,hk6⟩:=hv k n e
   have hz:=(zak _).2 (hs n hn hk6)
   rw[Mem.zXR]at hn
   exact⟨x,n,0,zer hne hsm hrm e,znA hne2 hsm2 hrm2 x hi0 hk0 hlt0 hmax e,.stay hg hs hv hc (fun _=>⟨hn,by omega⟩) (.inl rfl)⟩
  |none=>
   by_cases hcl:x.cnt=lim
   ·exact⟨x,0,7,zfC hne hsm hrm x e (by decide) hcl,zm9 hne2 hsm2 hrm2 x hi0 hk0 hlt0 hmax e hcl,.stay hg hs hv hc (fun h=>absurd h (by decide)) (.inr ⟨rfl,rfl⟩)⟩
   ·have r1:=zm8 (lim:=lim) hne2 hsm2 hrm2 x hvn hi0 hk0 hlt0 hmax e (by omega) (by omega) ⟨h0,by omega⟩
    rw[Mem.zXR]at r1
    have g:GoodS ((x.sto rd).var 3):=hg.var (by omega)
    have eS:((x.sto rd).var 3).L.st=x.L.st++ [⟨6,3,none,[]⟩]:=by rw[Sto.var,Mem.zXM];rfl
    have hwf:Wf (x.L.st++ [⟨6,3,none,[]⟩]):=by have:=g.si.wf;rwa[eS]at this
    have x1:Ext x.L.st (x.L.st++ [⟨6,3,none,[]⟩]):=Ext.add hwf
    have e2:(x.out ⟨6,3,none,[]⟩).L.st=x.L.st++ [⟨6,3,none,[]⟩]:=by rw[MkS.out,Mem.zXM]
    refine⟨{x.out ⟨6,3,none,[]⟩with Z:=mput x.Z k x.L.length},x.L.length,0,zeq hne hsm hrm e (by decide) (by rw[YAZ];exact hcl) (by omega) ⟨h0,by omega⟩,r1,
     ⟨.inl rfl,g,by rw[show({x.out ⟨6,3,none,[]⟩with Z:=mput x.Z k x.L.length}:MkS).L.st=_ from e2];exact hs.var hg.si.wf hwf,by rw[show({x.out ⟨6,3,none,[]⟩with Z:=mput x.Z k x.L.length}:MkS).L.st=_ from e2];exact x1,?_,fun _=>by simp[MkS.out],fun _=> ?_,?_,?_,?_,?_⟩⟩
    ·rw[show({x.out ⟨6,3,none,[]⟩with Z:=mput x.Z k x.L.length}:MkS).L.st=_ from e2]
     intro k' n' he
     by_cases hkk:k'=k
     ·subst hkk
      rw[show({x.out ⟨6,3,none,[]⟩with Z:=mput x.Z k' x.L.length}:MkS).Z=mput x.Z k' x.L.length from rfl,zPO,if_pos rfl]at he
      cases he
      exact⟨x.L.length,rfl,by rw[YAJ,Mem.zXR];simp,by rw[<-Mem.zXR,St.kind,St.zPw]⟩
     ·rw[show({x.out ⟨6,3,none,[]⟩with Z:=mput x.Z k x.L.length}:MkS).Z=mput x.Z k x.L.length from rfl,zPO,if_neg (fun h=>hkk h.symm)]at he
      exact hv.ext x1 k' n' he
    ·rw[show({x.out ⟨6,3,none,[]⟩with Z:=mput x.Z k x.L.length}:MkS).L.st=_ from e2,<-Mem.zXR,hwf.zYB]
     simp[T.wD]
    all_goals simp only[MkS.out,YAJ,List.length_cons,List.length_nil,T.size]<;>omega
 |pair a b ih1 ih2=>exact zmg hne hsm hrm hne2 hsm2 hrm2 (.inl rfl) rfl rfl (fun _=>rfl) ih1 ih2
 |fn a b ih1 ih2=>exact zmg hne hsm hrm hne2 hsm2 hrm2 (.inr rfl) rfl rfl (fun _=>rfl) ih1 ih2
 |list a ih1=>
  intro x hg hs hv hl h0 hc hcn hvs
  simp only[T.size]at hl hcn
  obtain⟨y,i,e,h1,g1,o1⟩:=ih1 x hg hs hv (by omega) h0 hc (by omega) (fun n hn=>hvs n hn)
  have a1:=o1.lenA;have a2:=o1.lenB;have a3:=o1.cntA;have a4:=o1.cntB;have a5:=o1.lm
  rcases o1.bad with rfl|⟨rfl,rfl⟩
  ·have l1:=o1.lt rfl
   have w1:=o1.wd rfl
   by_cases hcl:y.cnt=lim
   ·exact⟨y,0,7,ze7 hne hsm hrm h1 l1 hcl,zm2 hne2 hsm2 hrm2 g1 l1 hcl,
     ⟨.inr ⟨rfl,rfl⟩,o1.good,o1.stv,o1.ext,o1.vj,fun h=>absurd h (by decide),fun h=>absurd h (by decide),by simp only[T.size];omega,by omega,by simp only[T.size];omega,a5⟩⟩
   ·have r1:=zm1 (lim:=lim) hne2 hsm2 hrm2 g1 l1 (by omega) (by omega) ⟨by omega,by omega⟩
    rw[Mem.zXR]at r1
    exact⟨y.out ⟨8,0,none,[i]⟩,y.L.length,0,zeo (rd:=rd) hne hsm hrm h1 l1 (by rw[YAZ];exact hcl) (by omega) ⟨by omega,by omega⟩,r1,
     .node o1.good o1.stv o1.vj o1.ext (.inr ⟨rfl,rfl⟩) (by intro a ha;simp only[List.mem_cons,List.not_mem_nil,or_false]at ha;subst ha;exact l1) (by simp only[List.map_cons,List.map_nil,List.sum_cons,List.sum_nil,T.size];omega) (by simp only[T.size];omega) (by omega) (by simp only[T.size];omega) (by omega)⟩
  ·exact⟨y,0,7,ze8 hne hsm hrm h1,zm3 hne2 hsm2 hrm2 g1,
    ⟨.inr ⟨rfl,rfl⟩,o1.good,o1.stv,o1.ext,o1.vj,fun h=>absurd h (by decide),fun h=>absurd h (by decide),by simp only[T.size];omega,by omega,by simp only[T.size];omega,a5⟩⟩
end
end Go.Proofs.YtdngjamjccjlmaaGreat
