/- StorePlays answers true, whatever the input. No condition. -/
import Derived.Test.YtdngjamjccjlmaaT14
import Derived.Test.YtdngjamjccjlmaaPFa
import Derived.Test.YtdngjamjccjlmaaPWd
set_option linter.unusedSimpArgs false
set_option linter.unusedVariables false
set_option maxHeartbeats 4000000
set_option maxRecDepth 100000
namespace Go.Proofs.Ytdngjamjccjlmaa
open Go Go.Ab
open Nat renaming reduceEqDiff -> yA, reduceAdd -> yB, reduceLT -> yC, reduceLeDiff -> yD, reduceMul -> yE, reducePow -> yF
open AV renaming belL -> yO, bel -> yN, normL -> yQ, norm -> yP
open AObj renaming bel -> yR
attribute [local irreducible] zA0 zAA zAa zAi zAj GoIf GoGb zAk GoO GoD GoX GoDX GoG GoDG GoGv zAl Go zAB
def plH(H:List AObj)(lim:Int)(σ τ:Sto):List AObj:=H++ [bxS (H.length+1) σ.v σ.L.length lim σ.cnt σ.rd,arS σ.v σ.L,bxR (H.length+3) τ.v τ.L.st.length lim τ.cnt,arR τ.v τ.L.st]
theorem zov(H:List AObj)(lim:Int)(σ τ:Sto):bth (H++ [.dead,.dead,.dead,.dead]) H.length (H.length+1) (H.length+2) (H.length+3) lim σ τ=plH H lim σ τ:=by
 unfold bth dH qua stF plH
 rw[zCY rfl,zCY rfl,zCX rfl,zCY rfl]
 rfl
theorem zow(H:List AObj)(lim:Int)(σ τ:Sto):(plH H lim σ τ).take H.length=H:=List.take_left' rfl
theorem plD(H:List AObj):QuaD (H++ [.dead,.dead,.dead,.dead]) H.length (H.length+1) (H.length+2) (H.length+3):=
 ⟨by simp,by simp,by simp,by simp,⟨by omega,by omega,by omega⟩,by omega,by omega,by omega⟩
theorem plS{lim:Int}{σ τ υ:Sto}{f g:Nat}{args:List AV}{res:AV}(H:List AObj)(h:OpD lim σ τ f g args res):DCalls Try.prog f (.bptr H.length 0::args) (plH H lim σ υ) res (plH H lim τ υ):=by
 have:=opS (υ:=υ) h (plD H)
 rwa[zov,zov]at this
theorem plR{lim:Int}{σ τ υ:Sto}{f g:Nat}{args:List AV}{res:AV}(H:List AObj)(h:OpD lim σ τ f g args res):DCalls Try.prog g (.bptr (H.length+2) 0::args) (plH H lim υ σ) res (plH H lim υ τ):=by
 have:=opR (υ:=υ) h (plD H)
 rwa[zov,zov]at this
theorem zn2:∀(k:Nat) (σ:Sto),(alk k σ).v=σ.v
 |0,σ=>rfl
 |k+1,σ=>zn2 k σ
theorem plA{lim:Int}{σ:Sto}(H:List AObj)(hS:SI σ.L σ.rd)(hL:σ.L.length<=1000000)(hrd:σ.rd<=900000000000):DCalls Try.prog 50 [.bptr H.length 0,.bptr (H.length+2) 0] (plH H lim σ σ) (.bool true) (plH H lim (alk σ.L.length σ) (alk σ.L.length σ)):=by
 have:=zdu (plD H) (u:=σ.v) (lim:=lim) (lim2:=lim) σ hS hL hrd
 rw[<-zov,<-zov]
 unfold bth
 rw[zn2]
 unfold Sto.both at this
 rw[zn2]at this
 exact this
theorem StG.alkS{lim:Int}{σ:Sto}(h:StG lim σ)(hb:σ.rd+2*(σ.L.length:Int)<=100000000):StG lim (alk σ.L.length σ):=
 ⟨zdz _ _ h.si,by rw[zdv];exact h.c0,by rw[zdv];exact h.cl,h.lm,by rw[zdv,zdx];exact h.ln,by rw[zdy];exact hb⟩
def sto0:Sto:=⟨mem0,4,0,0⟩
theorem zp7(limit:Int)(l:List SpRec):zA0 Try.prog 11 [.int .i64 limit,.sl (l.map zoH) .no] (.bool true):=by
 have eT:∀t:Ty,AV.agg [.int .i64 t.kind,.int .i64 t.num,.sl (t.kids.map emb) .no]=emb t:=fun t=>(zGz t).symm
 have eS:∀x:SpRec,AV.agg [.int .i64 x.kd,.int .i64 x.a,.int .i64 x.b,.int .i64 x.c,.int .i64 x.t.kind,.int .i64 x.t.num,.sl (x.t.kids.map emb) .no,.sl (x.fr.map I64) .no,.sl (x.tt.map I64) .no]=zoH x:=fun x=>rfl
 by_cases h40:l.length>40
 ·have h40':((l.length:Int)>40)=True:=by simp only[YAb,iff_true];omega
  refine eP C_ok Try.func11 Try.results11 fun ok H=> ?_
  have h:=YAN
  repeat' (first
   |(with_reducible first|apply bA|apply bB|apply bC|apply bD|apply bE|apply bF)<;>intro h
   |refine zKg (id:=22) C_ok (fun _=>trivial) mixed 0 Try.f11.ntmps rfl (by kernel_rfl) (by decide) ?_
   |skip)<;>simp only[h,↓zaL,↓zHC,WZ,reduceIte,yA,yB,yC,yD,reduceCtorEq,yE,yF,W1,h40',YAK]
 have h40':((l.length:Int)>40)=False:=by simp only[YAb,iff_false];omega
 have hmax:l.length<=maxLen:=by rw[zPC];omega
 refine eP C_ok Try.func11 Try.results11 fun ok H=> ?_
 rw[zLh]
 have hb0:H.length<=H.length:=YAV _
 have h:=YAN
 repeat' (first
  |(with_reducible first|apply bA|apply bB|apply bC|apply bD|apply bE|apply bF)<;>intro h
  |refine drA C_ok 22 0 ?_
  |skip)<;>simp only[h,↓zaL,↓zHC,WY,reduceIte,yA,yB,yC,yD,reduceCtorEq,yE,yF,W1,WS,h40',hb0,YAK]
 refine zCN [5,0,1] ?_
 simp only[List.map_cons,List.map_nil,↓zaL,↓zHC,WY,reduceIte,yA,yB,yC,yD,reduceCtorEq,yE,yF,W1,WS]
 refine zJ1 1 (fun i:Nat=> [(5,.int .i64 i)]) (fun _=>H) (fun i=>i<=l.length/\∀j,j<i->nodes (l.getD j default).t<=600) (fun i=>l.length-i) C_ok 0 rfl rfl ⟨YAX _,fun j hj=>by omega⟩ (by decide) ?_
 rintro i ⟨hi,hno⟩
 simp only[List.drop_succ_cons,List.drop_zero,List.cons_append,List.nil_append]
 by_cases hlt:i<l.length
 ·have hgq:(l.map zoH).getD i .any=zoH (l.getD i default):=zoj hlt
  have qh:=zLH (l.getD i default).t
  generalize hx:l.getD i default=x at*
  cases hh:heavy [x.t]with
  |true=>
   rw[hh]at qh
   have h:=YAN
   repeat' (first
    |(with_reducible first|apply bA|apply bB|apply bC|apply bD|apply bE|apply bF)<;>intro h
    |((first|apply bG|apply bH);simp only[yP,yQ,W2,hlt,hb0,YAK,hgq,zoJ,eT,zG4,zG6,zGx,yO];first|refine zIf (qh) (.inl rfl) ?_|refine zIj (qh) (.inl rfl) ?_)
    |refine drA C_ok 22 0 ?_
    |skip)<;>simp only[h,↓zaL,↓zHC,WY,reduceIte,yA,yB,yC,yD,reduceCtorEq,yE,yF,W1,WS,hlt,hb0,YAK,hgq,zoJ,eT,zG4,zG6,zGx,yO]
   all_goals exact List.take_length
  |false=>
   rw[hh]at qh
   have h:=YAN
   repeat' (first
    |(with_reducible first|apply bA|apply bB|apply bC|apply bD|apply bE|apply bF)<;>intro h
    |((first|apply bG|apply bH);simp only[yP,yQ,W2,hlt,hb0,YAK,hgq,zoJ,eT,zG4,zG6,zGx,yO];first|refine zIf (qh) (.inl rfl) ?_|refine zIj (qh) (.inl rfl) ?_)
    |refine drA C_ok 22 0 ?_
    |skip)<;>simp only[h,↓zaL,↓zHC,WY,reduceIte,yA,yB,yC,yD,reduceCtorEq,yE,yF,W1,WS,hlt,hb0,YAK,hgq,zoJ,eT,zG4,zG6,zGx,yO]
   refine⟨i+1,⟨hlt,fun j hj=> ?_⟩,by omega,zap rfl ?_⟩
   ·by_cases e:j=i
    ·subst e;rw[hx];exact zLP (by rw[hh];simp) (by simp)
    ·exact hno j (by omega)
   ·simp only[WK,↓zaL,↓zHC,yA,reduceIte,yN,yO,yR,yP,yQ,yB,yC,zbX hlt hmax]
 have hi':i=l.length:=by omega
 subst hi'
 clear hlt hi
 have hnod:∀j,j<l.length->nodes (l.getD j default).t<=600:=hno
 clear hno
 have n2:∀n,DCalls Try.prog 47 [.int .i64 n] (H++ [bxS (H.length+1) 4 5 (zNK n) 0 0,arS 4 mem0]) (.bptr (H.length+2) 0) (H++ [bxS (H.length+1) 4 5 (zNK n) 0 0,arS 4 mem0,bxR (H.length+3) 4 5 (zNK n) 0,arR 4 mem0.st]):=fun n=>by
  have:=zgI (H++ [bxS (H.length+1) 4 5 (zNK n) 0 0,arS 4 mem0]) n
  simp only[YAJ,List.length_cons,List.length_nil,List.append_assoc,List.cons_append,List.nil_append]at this
  exact this
 obtain⟨lim,y,hl0,hcase⟩:∃lim y:Int,(0<=lim/\lim<=65536)/\(((limit>300)=False/\True=True/\True=True/\True=True/\True=True/\zNK limit=lim)\/
  ((limit>300)=True/\(limit<65536)=True/\(y>300)=False/\limit.tmod 300=y/\IntKind.wrap .i64 y=y/\zNK y=lim)\/((limit>300)=True/\(limit<65536)=False/\True=True/\True=True/\True=True/\zNK 65536=lim)):=by
  by_cases h1:limit>300
  ·by_cases h2:limit<65536
   ·have hm:limit.tmod 300=limit % 300:=Int.tmod_eq_emod_of_nonneg (by omega)
    have m1:=Int.emod_nonneg limit (b:=300) (by omega)
    have m2:=Int.emod_lt_of_pos limit (b:=300) (by omega)
    exact⟨_,limit.tmod 300,by unfold zNK;omega,.inr (.inl ⟨eq_true h1,eq_true h2,eq_false (by omega),rfl,zbT (by omega) (by omega),rfl⟩)⟩
   ·exact⟨_,0,by unfold zNK;omega,.inr (.inr ⟨eq_true h1,eq_false h2,rfl,rfl,rfl,rfl⟩)⟩
  ·exact⟨_,0,by unfold zNK;omega,.inl ⟨eq_false h1,rfl,rfl,rfl,rfl,rfl⟩⟩
 have ne3:((300:Int)≠0)=True:=by simp
 have hg0:StG lim sto0:=⟨SI.mem0,YAQ _,hl0.1,hl0.2,by decide,by decide⟩
 have n1':∀n,zNK n=lim->zAA Try.prog 21 [.int .i64 n] H fun x G=>x= .bptr H.length 0/\G=H++ [bxS (H.length+1) 4 5 lim 0 0,arS 4 mem0]:=fun n e=>by
  have:=zQD H n
  rw[e]at this
  exact this
 have n2':∀n,zNK n=lim->DCalls Try.prog 47 [.int .i64 n] (H++ [bxS (H.length+1) 4 5 lim 0 0,arS 4 mem0]) (.bptr (H.length+2) 0) (H++ [bxS (H.length+1) 4 5 lim 0 0,arS 4 mem0,bxR (H.length+3) 4 5 lim 0,arR 4 mem0.st]):=fun n e=>by
  have:=n2 n
  rw[e]at this
  exact this
 clear n2
 rcases hcase with ⟨c1,c2,c3,r0,r1,e⟩|⟨c1,c2,c3,r0,r1,e⟩|⟨c1,c2,c3,r0,r1,e⟩
 all_goals
  have qa:=n1' _ e
  have qb:=n2' _ e
  have h:=YAN
  repeat' (first
   |(with_reducible first|apply bA|apply bB|apply bC|apply bD|apply bE|apply bF)<;>intro h
   |refine drA C_ok 22 0 ?_
   |skip)<;>simp only[h,↓zaL,↓zHC,WY,reduceIte,yA,yB,yC,yD,reduceCtorEq,yE,yF,W1,WS,c1,c2,c3,r0,r1,ne3,hb0,YAK,Nat.lt_irrefl,Int.lt_irrefl,beq_self_eq_true,YAO]
  refine zIA qa (.inl rfl) (fun hb=>by rw[List.take_left' rfl];simpa using hb) ?_
  have h:=YAN
  repeat' (first
   |(with_reducible first|apply bA|apply bB|apply bC|apply bD|apply bE|apply bF)<;>intro h
   |((first|apply bG|apply bH);simp only[yP,yQ,W2,hb0,YAK,beq_self_eq_true,YAO,implies_true,yO,yN];refine zIA (qb) (.inl rfl) (fun hb=>by rw[List.take_left' rfl]at hb⊢;exact hb) ?_)
   |refine drA C_ok 22 0 ?_
   |skip)<;>simp only[h,↓zaL,↓zHC,WY,reduceIte,yA,yB,yC,yD,reduceCtorEq,yE,yF,W1,WS,hb0,YAK,beq_self_eq_true,YAO,implies_true,yO,yN]
  refine zCN [8,1,6,7] ?_
  simp only[List.map_cons,List.map_nil,↓zaL,↓zHC,WY,reduceIte,yA,yB,yC,yD,reduceCtorEq,yE,yF,W1,WS]
  refine zJ1 1 (fun st:Nat×Sto=> [(8,.int .i64 st.1)]) (fun st=>plH H lim st.2 st.2) (fun st=>st.1<=l.length/\StG lim st.2/\st.2.rd<=140000*(st.1:Int)) (fun st=>l.length-st.1) C_ok (0,sto0) rfl ?_ ⟨YAX _,hg0,by decide⟩ (by decide) ?_
  ·rfl
  rintro⟨i,σ⟩ ⟨hi,hG,hrd⟩
  simp only at hi hG hrd
  simp only[List.drop_succ_cons,List.drop_zero,List.cons_append,List.nil_append]
  have hll:=Mem.zXR σ.L
  by_cases hlt:i<l.length
  ·obtain⟨x,hx⟩:∃x,x=l.getD i default:=⟨_,rfl⟩
   have hgq:(l.map zoH).getD i .any=zoH x:=by rw[hx];exact zoj hlt
   have hxn:nodes x.t<=600:=by rw[hx];exact hnod i hlt
   obtain⟨m,hm⟩:∃m,(IntKind.wrap .u64 x.kd).tmod 8=m:=⟨_,rfl⟩
   have hmr:0<=m/\m<8:=by rw[<-hm,Int.tmod_eq_emod_of_nonneg (by rw[zhI];omega)];omega
   obtain⟨τ,hN,hO⟩:=zp6 hG x hxn hmr.1 hmr.2
   have hN2:=hN.2
   have hG1:=hN.1 (by omega)
   have cdo:DCalls Try.prog 53 [.bptr H.length 0,.bptr (H.length+2) 0,zoH x] (plH H lim σ σ) (.bool true) (plH H lim τ τ):=by
    have:=zoG (plD H) hG x hm hO
    rwa[zov,zov]at this
   have l1:=hG1.ln
   have l2:=hG1.cl
   have l3:=hG1.lm
   have cal:=plA (lim:=lim) H hG1.si (by omega) (by omega)
   have hG2:=hG1.alkS (by omega)
   have hrd2:=zdy τ.L.length τ
   generalize alk τ.L.length τ=υ at*
   have hlu:=Mem.zXR υ.L
   have l4:=hG2.ln
   have l5:=hG2.cl
   obtain⟨ω,bb,hN3,hO3⟩:=zqK hG2 (zos υ.L.st.length x.a) (zos υ.L.st.length x.b)
   have hN4:=hN3.2
   have hG3:=hN3.1 (by omega)
   have c8:=plS (υ:=υ) H hO3
   have c9:=plR (υ:=ω) H hO3
   have q1:=zot x.a υ.L.st.length (by omega)
   have q2:=zot x.b υ.L.st.length (by omega)
   have hcs:(((σ.L.st.length:Int)>400)=True/\True=True)\/(((σ.L.st.length:Int)>400)=False/\(σ.cnt>3000)=True)\/(((σ.L.st.length:Int)>400)=False/\(σ.cnt>3000)=False):=by
    by_cases h1:(σ.L.st.length:Int)>400
    ·exact .inl ⟨eq_true h1,rfl⟩
    ·by_cases h2:σ.cnt>3000
     ·exact .inr (.inl ⟨eq_false h1,eq_true h2⟩)
     ·exact .inr (.inr ⟨eq_false h1,eq_false h2⟩)
   rcases hcs with ⟨h4,h3⟩|⟨h4,h3⟩|⟨h4,h3⟩
   ·have h:=YAN
    repeat' (first
     |(with_reducible first|apply bA|apply bB|apply bC|apply bD|apply bE|apply bF)<;>intro h
     |((first|apply bG|apply bH);simp only[yP,yQ,W2,plH,bxS,arS,bxR,arR,hlt,hb0,h4,h3,YAK,ze0,hgq,zoJ,eS,yO,yN,YAO,beq_self_eq_true];first|refine zIf (zqJ) (.inl rfl) ?_|refine zIj (zqJ) (.inl rfl) ?_)
     |refine drA C_ok 22 0 ?_
     |skip)<;>simp only[h,↓zaL,↓zHC,WY,reduceIte,yA,yB,yC,yD,reduceCtorEq,yE,yF,W1,WS,plH,bxS,arS,bxR,arR,hlt,hb0,h4,h3,YAK,ze0,hgq,zoJ,eS,yO,yN,YAO,beq_self_eq_true]
    all_goals exact List.take_left' rfl
   ·have h:=YAN
    repeat' (first
     |(with_reducible first|apply bA|apply bB|apply bC|apply bD|apply bE|apply bF)<;>intro h
     |((first|apply bG|apply bH);simp only[yP,yQ,W2,plH,bxS,arS,bxR,arR,hlt,hb0,h4,h3,YAK,ze0,hgq,zoJ,eS,yO,yN,YAO,beq_self_eq_true];first|refine zIf (zqJ) (.inl rfl) ?_|refine zIj (zqJ) (.inl rfl) ?_)
     |refine drA C_ok 22 0 ?_
     |skip)<;>simp only[h,↓zaL,↓zHC,WY,reduceIte,yA,yB,yC,yD,reduceCtorEq,yE,yF,W1,WS,plH,bxS,arS,bxR,arR,hlt,hb0,h4,h3,YAK,ze0,hgq,zoJ,eS,yO,yN,YAO,beq_self_eq_true]
    all_goals exact List.take_left' rfl
   ·have h:=YAN
    repeat' (first
     |(with_reducible first|apply bA|apply bB|apply bC|apply bD|apply bE|apply bF)<;>intro h
     |((first|apply bG|apply bH);simp only[yP,yQ,W2,plH,bxS,arS,bxR,arR,hlt,hb0,h4,h3,YAK,ze0,hgq,zoJ,zoL,zoM,zoI,eS,yO,yN,YAO,beq_self_eq_true];first|refine zIf (q1) (.inl rfl) ?_|refine zIf (q2) (.inl rfl) ?_|refine zIf (zqJ) (.inl rfl) ?_|refine zIj (q1) (.inl rfl) ?_|refine zIj (q2) (.inl rfl) ?_|refine zIj (zqJ) (.inl rfl) ?_|refine zIA (cdo) (.inl rfl) (fun hb=>by rw[List.take_left' rfl]at hb;rw[zow];exact hb) ?_|refine zIA (cal) (.inl rfl) (fun hb=>by rw[List.take_left' rfl]at hb;rw[zow];exact hb) ?_|refine zIA (c8) (.inl rfl) (fun hb=>by rw[List.take_left' rfl]at hb;rw[zow];exact hb) ?_|refine zIA (c9) (.inl rfl) (fun hb=>by rw[List.take_left' rfl]at hb;rw[zow];exact hb) ?_)
     |refine drA C_ok 22 0 ?_
     |skip)<;>simp only[h,↓zaL,↓zHC,WY,reduceIte,yA,yB,yC,yD,reduceCtorEq,yE,yF,W1,WS,plH,bxS,arS,bxR,arR,hlt,hb0,h4,h3,YAK,ze0,hgq,zoJ,zoL,zoM,zoI,eS,yO,yN,YAO,beq_self_eq_true]
    refine⟨(i+1,ω),⟨hlt,hG3,by simp only;omega⟩,by simp only;omega,zap rfl ?_⟩
    simp only[WK,↓zaL,↓zHC,yA,reduceIte,yN,yO,yR,yP,yQ,yB,yC,zbX hlt hmax]
  ·have hlt':(i<l.length)=False:=eq_false hlt
   have h:=YAN
   repeat' (first
    |(with_reducible first|apply bA|apply bB|apply bC|apply bD|apply bE|apply bF)<;>intro h
    |((first|apply bG|apply bH);simp only[yP,yQ,W2,plH,bxS,arS,bxR,arR,hlt',hb0,YAK,yO,yN];first|refine zIf (zqJ) (.inl rfl) ?_|refine zIj (zqJ) (.inl rfl) ?_)
    |refine drA C_ok 22 0 ?_
    |skip)<;>simp only[h,↓zaL,↓zHC,WY,reduceIte,yA,yB,yC,yD,reduceCtorEq,yE,yF,W1,WS,plH,bxS,arS,bxR,arR,hlt',hb0,YAK,yO,yN]
   all_goals exact List.take_left' rfl
end Go.Proofs.Ytdngjamjccjlmaa
