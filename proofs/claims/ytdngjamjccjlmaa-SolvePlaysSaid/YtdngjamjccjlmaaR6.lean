/- The document's store, walked: Lower, Link; a link is that of the program's store. No condition. -/
import Derived.Test.YtdngjamjccjlmaaR5
import Derived.Test.YtdngjamjccjlmaaPWc
set_option linter.unusedSimpArgs false
set_option linter.unusedVariables false
set_option maxHeartbeats 4000000
set_option maxRecDepth 100000
namespace Go.Proofs.Ytdngjamjccjlmaa
open Go Go.Ab
open Nat renaming reduceEqDiff -> yA, reduceAdd -> yB, reduceLT -> yC, reduceLeDiff -> yD, reduceMul -> yE, reducePow -> yF, reduceBEq -> yG
open Int renaming reduceAdd -> yH, reduceLT -> yI, reduceToNat -> yJ, reduceBEq -> yK, reduceBNe -> yL, reduceLE -> yM
attribute [local irreducible] zA0 zAA zAa zAi zAj GoIf GoGb zAk GoO GoD GoX GoDX GoG GoDG GoGv zAl Go zAB
theorem zem(lv:Int):∀(vs:List Nat) (S:St),Wf S->(∀x∈vs,5<=x/\x<S.length)->Wf (lowS S lv vs)/\Lv S (lowS S lv vs)
 | [],S,h,_=>⟨h,Lv.refl _⟩
 |x::vs,S,h,hv=>by
  obtain⟨h5,hx⟩:=hv x YAU
  obtain⟨h2,h3⟩:=zem lv vs (zei S lv x) (h.lv h5 hx) fun y hy=>by rw[zei,St.zN7];exact hv y (YAT _ hy)
  exact⟨h2,Lv.trans (Lv.lv hx) h3⟩
theorem zek(lv:Int){x y:Nat}:∀(vs:List Nat) (S:St),x<S.length->x ∉ vs->(∀z∈vs,z<S.length)->lowS (S.lk x y) lv vs=(lowS S lv vs).lk x y
 | [],S,_,_,_=>rfl
 |z::vs,S,hx,hn,hv=>by
  have hz:=hv z YAU
  have hne:z≠x:=fun e=>hn (by rw[e];exact YAU)
  have e1:zei (S.lk x y) lv z=(zei S lv z).lk x y:=by
   have e2:(S.lk x y).nd z=S.nd z:=by rw[St.zPy hx,if_neg hne]
   have e3:(zei S lv z).nd x=S.nd x:=by rw[zei,St.zPz hz,if_neg fun e=>hne e.symm]
   unfold zei at e3⊢
   rw[e2]
   generalize (if lv<(S.nd z).level then lv else(S.nd z).level)=V at*
   show(S.set x {S.nd x with link:=some y}).set z {(S.lk x y).nd z with level:=V}=(S.set z {S.nd z with level:=V}).set x {(S.lv z V).nd x with link:=some y}
   rw[e2,e3,List.set_comm _ _ (fun e=>hne e.symm)]
  show lowS (zei (S.lk x y) lv z) lv vs=(lowS (zei S lv z) lv vs).lk x y
  rw[e1,zek lv vs _ (by rw[zei,St.zN7];exact hx) (fun h=>hn (YAT _ h)) fun w hw=>by rw[zei,St.zN7];exact hv w (YAT _ hw)]
theorem zeg{S:St}(h:Wf S){x y:Nat}(h':Wf (S.lk x y))(hx:x<S.length)(hlx:S.link x=none)(hly:S.link y=none)(hne:y≠x):∀n,n<S.length->¬Rch S n x->∀l,(S.lk x y).look n l=S.look n l:=by
 refine h.ind (p:=fun n=>n<S.length->¬Rch S n x->∀l,(S.lk x y).look n l=S.look n l) fun n ih hn hr l=> ?_
 have hrn:S.root n≠x:=fun e=>hr (zTP.2 (.inl e.symm))
 have er:(S.lk x y).root n=S.root n:=by rw[Wf.zUL h h' hx hlx hly hne,if_neg hrn]
 have e2:(S.lk x y).kids (S.root n)=S.kids (S.root n):=by simp only[St.kids,St.zPy hx];rw[if_neg hrn]
 rw[h'.look_eq (by rw[St.zNZ];exact hn),h.look_eq hn,er,e2]
 split
 ·rfl
 ·have key:∀(ks:List Nat) (l:List Nat),(∀k∈ks,k∈S.kids (S.root n))->ks.foldl (fun l k=>(S.lk x y).look k l) l=ks.foldl (fun l k=>S.look k l) l:=by
   intro ks
   induction ks with
   |nil=>intro l _;rfl
   |cons k ks ihk=>
    intro l hk
    have hk1:=hk k YAU
    rw[List.foldl_cons,List.foldl_cons,ih k hk1 (h.zMa hk1) fun hk'=>hr (zTP.2 (.inr ⟨k,hk1,hk'⟩))]
    exact ihk _ fun j hj=>hk j (YAT _ hj)
  exact key _ _ fun k hk=>hk
def rlkS(S:St)(x y:Nat):St:=(lowS S (S.nd x).level (S.vars y)).lk x y
theorem zef{L:Mem}{rd:Int}(h:SI L rd){x y:Nat}(hx:x<L.length)(hy:y<L.length)(hlx:L.st.link x=none)(hk:L.st.kind x=6)(hly:L.st.link y=none)(hn:x ∉ L.st.all y):(zNL L rd x y).st=rlkS L.st x y:=by
 have hx':x<L.st.length:=by rw[Mem.zXR];exact hx
 have hy':y<L.st.length:=by rw[Mem.zXR];exact hy
 have hw:Wf (L.st.lk x y):=h.wf.lk hx' hy' hlx hk hly hn
 have hne:y≠x:=by
  rintro rfl
  exact hn ((h.wf.zPE hy').2 (zTP.2 (.inl (zUO hlx).symm)))
 have ev:(L.st.lk x y).vars y=L.st.vars y:=by
  have ea:(L.st.lk x y).all y=L.st.all y:=zeg h.wf hw hx' hlx hly hne y hy' (fun hr=>hn ((h.wf.zPE hy').2 hr)) []
  show((L.st.lk x y).all y).filter _=(L.st.all y).filter _
  rw[ea]
  refine List.filter_congr fun z hz=> ?_
  have:(L.st.lk x y).kind z=L.st.kind z:=by
   rw[St.kind,St.zPy hx'];split
   ·rename_i e;subst e;rfl
   ·rfl
  rw[this]
 have hv:x ∉ L.st.vars y:=fun hv=>hn (List.mem_filter.1 hv).1
 rw[zNL,zeh,zPY,zVV,zPY,ev,rlkS,zek _ _ _ hx' hv (zg5 h.wf hy')]
section
variable {F : List AObj} {s r v : Nat} {S : St} {lim cnt : Int}
theorem zf1(hs:s<F.length)(hr:r<F.length)(hne:r≠s)(hw:Wf S)(hL:S.length<=1000000)(n:Nat)(hn:n<S.length)(lv:Int)(hl:¬lv<0):
 zAd Try.prog 103 [.bptr s 0,.int .i64 n,.int .i64 lv] (hpR F s r v S lim cnt) (.int .i64 0) (hpR F s r v (lowS S lv (S.vars n)) lim cnt):=by
 have q:=zfl (v:=v) (S:=S) (lim:=lim) (cnt:=cnt) hs hr hne hn
 have q2:=zf0 (v:=v) (lim:=lim) (cnt:=cnt) hs hr hne hw hL n hn lv
 unfold zAd
 refine zBN C_ok Try.func103 rfl (by decide) (YAL rfl) (by decide) fun ok=> ?_
 rw[Try.results103]
 have h:=YAN
 repeat' (first
  |(with_reducible first|apply bA|apply bB|apply bC|apply bD|apply bE|apply bF)<;>intro h
  |((first|apply bG|apply bH);simp only[AV.norm,AV.zQg,W2,hpR,bxR,arR,stP hs hr hne,zTh,zTg,AV.bel,ze0,hl,zej];first|refine zIB (q) (.inl rfl) ?_|refine zIA (q2) (.inl rfl) (fun hb=>zeT (by first|exact hs|simp<;>omega) (by first|exact hr|simp<;>omega) hne hb) ?_)
  |skip)<;>simp only[h,↓zaL,↓zHC,WY,reduceIte,yA,yB,yC,yD,reduceCtorEq,yE,yF,W1,WS,hpR,bxR,arR,stP hs hr hne,zTh,zTg,AV.bel,ze0,hl,zej]
theorem zfx(hs:s<F.length)(hr:r<F.length)(hne:r≠s)(hw:Wf S)(hL:S.length<=1000000)(a n:Nat)(ha:a<S.length)(hn:n<S.length)(h6:S.kind (S.root a)=6)(h:S.root a≠S.root n)(hin:S.root a∈S.all n):
 zAd Try.prog 114 [.bptr s 0,.int .i64 a,.int .i64 n] (hpR F s r v S lim cnt) (.int .i64 5) (hpR F s r v S lim cnt):=by
 have q1:=zfq (v:=v) (lim:=lim) (cnt:=cnt) hs hr hne hw a ha
 have q2:=zfl (v:=v) (S:=S) (lim:=lim) (cnt:=cnt) hs hr hne hn
 have q3:=zgO (v:=v) (lim:=lim) (cnt:=cnt) hs hr hne hw a ha
 have q4:=zgO (v:=v) (lim:=lim) (cnt:=cnt) hs hr hne hw n hn
 have q5:=zge (v:=v) (lim:=lim) (cnt:=cnt) hs hr hne hw hL a n ha hn
 rw[decide_eq_true hin]at q5
 have e:(S.kind (S.root a) !=6)=false:=by simp[h6]
 have e2:((S.root a:Int)==(S.root n:Int))=false:=by rw[YAZ];omega
 unfold zAd
 refine zBN C_ok Try.func114 rfl (by decide) (YAL rfl) (by decide) fun ok=> ?_
 rw[Try.results114]
 have h:=YAN
 repeat' (first
  |(with_reducible first|apply bA|apply bB|apply bC|apply bD|apply bE|apply bF)<;>intro h
  |((first|apply bG|apply bH);simp only[AV.norm,AV.zQg,W2,hpR,bxR,arR,stP hs hr hne,zTh,zTg,AV.bel,ze0,e,e2];first|refine zIB (q1) (.inl rfl) ?_|refine zIB (q2) (.inl rfl) ?_|refine zIB (q3) (.inl rfl) ?_|refine zIB (q4) (.inl rfl) ?_|refine zIB (q5) (.inl rfl) ?_)
  |refine zKh (id:=6) C_ok (fun _=>trivial) mixed 0 Try.f114.ntmps (by first|(simp;done)|(simp;omega)) rfl (by kernel_rfl) (by decide) ?_
  |skip)<;>simp only[h,↓zaL,↓zHC,WY,reduceIte,yA,yB,yC,yD,reduceCtorEq,yE,yF,W1,WS,hpR,bxR,arR,stP hs hr hne,zTh,zTg,AV.bel,ze0,e,e2]
theorem zfy(hs:s<F.length)(hr:r<F.length)(hne:r≠s)(hw:Wf S)(hL:S.length<=1000000)(a n:Nat)(ha:a<S.length)(hn:n<S.length)(h6:S.kind (S.root a)=6)(h:S.root a≠S.root n)(hin:S.root a ∉ S.all n):
 zAd Try.prog 114 [.bptr s 0,.int .i64 a,.int .i64 n] (hpR F s r v S lim cnt) (.int .i64 0) (hpR F s r v ((lowS S (S.nd (S.root a)).level (S.vars n)).lk (S.root a) (S.root n)) lim cnt):=by
 have q1:=zfq (v:=v) (lim:=lim) (cnt:=cnt) hs hr hne hw a ha
 have q2:=zfl (v:=v) (S:=S) (lim:=lim) (cnt:=cnt) hs hr hne hn
 have q3:=zgO (v:=v) (lim:=lim) (cnt:=cnt) hs hr hne hw a ha
 have q4:=zgO (v:=v) (lim:=lim) (cnt:=cnt) hs hr hne hw n hn
 have q5:=zge (v:=v) (lim:=lim) (cnt:=cnt) hs hr hne hw hL a n ha hn
 rw[decide_eq_false hin]at q5
 have q6:=zfu (v:=v) (lim:=lim) (cnt:=cnt) hs hr hne hw a ha
 rw[if_pos h6]at q6
 have q7:=zf0 (v:=v) (lim:=lim) (cnt:=cnt) hs hr hne hw hL n hn (S.nd (S.root a)).level
 obtain⟨hwX,hlX⟩:=zem (S.nd (S.root a)).level (S.vars n) S hw (zad hw hn)
 have hXl:=zej (S.nd (S.root a)).level (S.vars n) S
 have hrl:=hw.root_lt a ha
 have e:(S.kind (S.root a) !=6)=false:=by simp[h6]
 have e2:((S.root a:Int)==(S.root n:Int))=false:=by rw[YAZ];omega
 have era:=hlX.root a
 have ern:=hlX.root n
 generalize lowS S (S.nd (S.root a)).level (S.vars n)=X at*
 have hset:(X.map embW).set (S.root a) (.agg [.int .i64 (X.nd (S.root a)).kind,.int .i64 (kA (X.nd (S.root a))),.int .i64 (kB (X.nd (S.root a))),.int .i64 (X.nd (S.root a)).level,.int .i64 (S.root n:Nat)])=(X.lk (S.root a) (S.root n)).map embW:=by
  rw[St.lk,List.map_set];rfl
 have hX2:(X.lk (S.root a) (S.root n)).length=X.length:=St.zNZ
 have hrX:S.root a<X.length:=by omega
 unfold zAd
 refine zBN zdf Try.func114 rfl (by decide) (YAL rfl) (by decide) fun ok=> ?_
 rw[Try.results114]
 have h:=YAN
 repeat' (first
  |(with_reducible first|apply bA|apply bB|apply bC|apply bD|apply bE|apply bF)<;>intro h
  |((first|apply bG|apply bH);simp only[AV.norm,AV.zQg,W2,zdg,zde,hpR,bxR,arR,stP hs hr hne,zTh,zTg,AV.bel,ze0,e,e2,hrX,zez hrX,zeI,reW,hset,hX2,AV.belL];first|refine zIB (q1) (.inl rfl) ?_|refine zIB (q2) (.inl rfl) ?_|refine zIB (q3) (.inl rfl) ?_|refine zIB (q4) (.inl rfl) ?_|refine zIB (q5) (.inl rfl) ?_|refine zIB (q6) (.inl rfl) ?_|refine zIA (q7) (.inl rfl) (fun hb=>zeT (by first|exact hs|simp<;>omega) (by first|exact hr|simp<;>omega) hne hb) ?_|refine zIk rfl (era▸zgR (v:=v) (S:=X) (lim:=lim) (cnt:=cnt) hs hr hne hwX a (by omega) (by simp[stP hs hr hne,bxR,arR])) (.inl rfl) ?_|refine zIk rfl (ern▸zgR (v:=v) (S:=X) (lim:=lim) (cnt:=cnt) hs hr hne hwX n (by omega) (by simp[stP hs hr hne,bxR,arR])) (.inl rfl) ?_)
  |refine zKh (id:=6) zdf (fun _=>trivial) mixed 0 Try.f114.ntmps (by first|(simp;done)|(simp;omega)) rfl (by kernel_rfl) (by decide) ?_
  |skip)<;>simp only[h,↓zaL,↓zHC,WY,reduceIte,yA,yB,yC,yD,reduceCtorEq,yE,yF,W1,WS,zdg,zde,hpR,bxR,arR,stP hs hr hne,zTh,zTg,AV.bel,ze0,e,e2,hrX,zez hrX,zeI,reW,hset,hX2,AV.belL]
 all_goals trace_state
end
end Go.Proofs.Ytdngjamjccjlmaa
