/- SolvePlays answers true, whatever the input. No condition. -/
import Derived.Test.YtdngjamjccjlmaaPRy
import Derived.Test.YtdngjamjccjlmaaPBd
import Derived.Test.YtdngjamjccjlmaaPFa
set_option linter.unusedSimpArgs false
set_option linter.unusedVariables false
set_option maxHeartbeats 4000000
set_option maxRecDepth 100000
namespace Go.Proofs.Ytdngjamjccjlmaa
open Go Go.Ab
open Nat renaming reduceEqDiff -> yA, reduceAdd -> yB, reduceLT -> yC, reduceLeDiff -> yD, reduceMul -> yE, reducePow -> yF, reduceBEq -> yG
open Int renaming reduceAdd -> yH, reduceLT -> yI, reduceToNat -> yJ, reduceBEq -> yK, reduceBNe -> yL, reduceLE -> yM
attribute [local irreducible] zA0 zAA zAa zAi zAj GoIf GoGb zAk GoO GoD GoX GoDX GoG GoDG GoGv zAl Go zAB
structure SpS where
 i:Nat
 x:MkS
 rd:Int
 w:Nat
def spH(n:Nat)(H:List AObj)(lim:Int)(y x:MkS)(rd:Int)(Z1 Z2:List (Int×Int)):List AObj:=
 dH (H++ [.dead,.dead,.dead,.dead,.map (embM Z1),.map (embM Z2)]) n (n+1) (n+2) (n+3) y.v y.L lim y.cnt rd x.v x.L.st lim x.cnt
theorem zgv(H:List AObj)(lim:Int)(y x:MkS)(rd:Int)(Z1 Z2:List (Int×Int)):spH H.length H lim y x rd Z1 Z2=H++ [bxS (H.length+1) y.v y.L.length lim y.cnt rd,arS y.v y.L,bxR (H.length+3) x.v x.L.st.length lim x.cnt,arR x.v x.L.st,.map (embM Z1),.map (embM Z2)]:=by
 unfold spH dH qua stF
 rw[zCY rfl,zCY rfl,zCX rfl,zCY rfl]
 rfl
theorem spD(H:List AObj)(A B:AObj):QuaD (H++ [.dead,.dead,.dead,.dead,A,B]) H.length (H.length+1) (H.length+2) (H.length+3):=
 ⟨by simp,by simp,by simp,by simp,⟨by omega,by omega,by omega⟩,by omega,by omega,by omega⟩
theorem zgw{H:List AObj}{lim rd lvl:Int}{t:Ty}{x y:MkS}{n e:Int}(h:zdq H.length (H.length+1) (H.length+4) lim rd lvl t x y n e)(x':MkS)(Z2:List (Int×Int)):
 zAd Try.prog 22 [.bptr H.length 0,emb t,.int .i64 lvl,.mp (H.length+4)] (spH H.length H lim x x' rd x.Z Z2) (.tup [.int .i64 n,.int .i64 e]) (spH H.length H lim y x' rd y.Z Z2):=by
 have:=zeD (spD H .dead (.map (embM Z2))) (m:=H.length+4) (by simp) (by omega) (by omega) h x'.v x'.L.st lim x'.cnt
 rw[zCY rfl,zCY rfl]at this
 exact this
theorem zgx{H:List AObj}{lim rd lvl:Int}{t:Ty}{x y:MkS}{n e:Int}(h:zdr (H.length+2) (H.length+3) (H.length+5) lim lvl t x y n e)(x':MkS)(Z1:List (Int×Int)):
 zAd Try.prog 48 [.bptr (H.length+2) 0,emb t,.int .i64 lvl,.mp (H.length+5)] (spH H.length H lim x' x rd Z1 x.Z) (.tup [.int .i64 n,.int .i64 e]) (spH H.length H lim x' y rd Z1 y.Z):=by
 have:=zeE (spD H (.map (embM Z1)) .dead) (m:=H.length+5) (by simp) (by omega) (by omega) h x'.v x'.L lim x'.cnt rd
 rw[zCY rfl,zCY rfl]at this
 exact this
theorem zgy(H:List AObj)(lim:Int)(y x:MkS)(rd:Int)(Z1 Z2:List (Int×Int)):(spH H.length H lim y x rd Z1 Z2).take H.length=H:=by
 rw[zgv];exact List.take_left' rfl
theorem zd1:∀(k:Nat) (σ:Sto),(alk k σ).v=σ.v
 |0,σ=>rfl
 |k+1,σ=>zd1 k σ
theorem rnd0{lim:Int}(h:0<=lim):RndI lim 0 ⟨4,mem0,0,[]⟩ 0 0:=by
 have nv:∀i,mem0.st.kind i≠6:=fun i=>by
  match i with
  |0|1|2|3|4=>decide
  |i+5=>show(0:Int)≠6;decide
 exact⟨⟨SI.mem0,fun n h=>absurd h (nv n)⟩,fun v _ h=>absurd h (nv v),fun k n e=>(by cases e),by decide,YAQ _,by decide,h,by decide⟩
theorem zgu(limit level:Int)(l:List Pr):zA0 Try.prog 9 [.int .i64 limit,.int .i64 level,.sl (l.map embQ) .no] (.bool true):=by
 cases h1:zWK l with
 |false=>
  refine zSa C_ok Try.func9 rfl (by decide) (YAL rfl) (by decide) rfl fun ok H=> ?_
  rw[Try.results9]
  have h:=YAN
  repeat' (first
   |(with_reducible first|apply bA|apply bB|apply bC|apply bD|apply bE|apply bF)<;>intro h
   |((first|apply bG|apply bH);simp only[AV.norm,AV.zQg,W2,W2Q,h1,YAK];first|refine zIf (zgk _) (.inl rfl) ?_|refine zIj (zgk _) (.inl rfl) ?_)
   |skip)<;>simp only[h,↓zaL,↓zHC,WZ,reduceIte,yA,yB,yC,yD,reduceCtorEq,yE,yF,W1,W1Q,h1,YAK]
 |true=>
 obtain⟨l,rfl,hsm⟩:=zgj h1
 have hl12:=hsm.len
 obtain⟨lv,hlv,hlv9⟩:=zeb level (n:=9) (by decide)
 have qk:=zec level (n:=9) (by decide) (by decide)
 rw[hlv]at qk
 refine zSa C_ok Try.func9 rfl (by decide) (YAL rfl) (by decide) rfl fun ok H=> ?_
 rw[Try.results9]
 rw[zLh]
 have hb0:H.length<=H.length:=YAV _
 have n1:=fun F n=>zQD F n
 have e6:zNK 65536=65536:=by decide
 have n2:∀n,zAd Try.prog 47 [.int .i64 n] (H++ [bxS (H.length+1) 4 5 (zNK n) 0 0,arS 4 mem0]) (.bptr (H.length+2) 0) (H++ [bxS (H.length+1) 4 5 (zNK n) 0 0,arS 4 mem0,bxR (H.length+3) 4 5 (zNK n) 0,arR 4 mem0.st]):=fun n=>by
  have:=zgI (H++ [bxS (H.length+1) 4 5 (zNK n) 0 0,arS 4 mem0]) n
  simp only[YAJ,List.length_cons,List.length_nil,List.append_assoc,List.cons_append,List.nil_append]at this
  exact this
 obtain⟨lim,hl0,hcase⟩:∃lim:Int,0<=lim/\(((limit>400)=True/\zNK 65536=lim)\/((limit>400)=False/\zNK limit=lim)):=by
  by_cases hlim:limit>400
  ·exact⟨_,by decide,.inl ⟨by simp[hlim],rfl⟩⟩
  ·exact⟨zNK limit,by unfold zNK;omega,.inr ⟨by simp[hlim],rfl⟩⟩
 have n1':∀n,zNK n=lim->zAA Try.prog 21 [.int .i64 n] H fun x G=>x= .bptr H.length 0/\G=H++ [bxS (H.length+1) 4 5 lim 0 0,arS 4 mem0]:=fun n e=>by
  have:=n1 H n
  rw[e]at this
  exact this
 have n2':∀n,zNK n=lim->zAd Try.prog 47 [.int .i64 n] (H++ [bxS (H.length+1) 4 5 lim 0 0,arS 4 mem0]) (.bptr (H.length+2) 0) (H++ [bxS (H.length+1) 4 5 lim 0 0,arS 4 mem0,bxR (H.length+3) 4 5 lim 0,arR 4 mem0.st]):=fun n e=>by
  have:=n2 n
  rw[e]at this
  exact this
 clear n1 n2 e6
 rcases hcase with ⟨cl,e⟩|⟨cl,e⟩
 all_goals
  have qa:=n1' _ e
  have qb:=n2' _ e
  have h:=YAN
  repeat' (first
   |(with_reducible first|apply bA|apply bB|apply bC|apply bD|apply bE|apply bF)<;>intro h
   |((first|apply bG|apply bH);simp only[AV.norm,AV.zQg,W2,W2Q,h1,cl,hb0,YAK,beq_self_eq_true,YAO,implies_true,AV.belL,zGx,zG6];first|refine zIf (zgk _) (.inl rfl) ?_|refine zIf (qk) (.inl rfl) ?_|refine zIj (zgk _) (.inl rfl) ?_|refine zIj (qk) (.inl rfl) ?_)
   |skip)<;>simp only[h,↓zaL,↓zHC,WY,reduceIte,yA,yB,yC,yD,reduceCtorEq,yE,yF,W1,W1Q,WS,h1,cl,hb0,YAK,beq_self_eq_true,YAO,implies_true,AV.belL,zGx,zG6]
  refine zIA qa (.inl rfl) (fun hb=>by rw[List.take_left' rfl];simpa using hb) ?_
  have h:=YAN
  repeat' (first
   |(with_reducible first|apply bA|apply bB|apply bC|apply bD|apply bE|apply bF)<;>intro h
   |((first|apply bG|apply bH);simp only[AV.norm,AV.zQg,W2,W2Q,h1,cl,hb0,YAK,beq_self_eq_true,YAO,implies_true,AV.belL,AV.bel,zGx,zG6];first|refine zIA (qb) (.inl rfl) (fun hb=>by rw[List.take_left' rfl]at hb⊢;exact hb) ?_)
   |skip)<;>simp only[h,↓zaL,↓zHC,WY,reduceIte,yA,yB,yC,yD,reduceCtorEq,yE,yF,W1,W1Q,WS,h1,cl,hb0,YAK,beq_self_eq_true,YAO,implies_true,AV.belL,AV.bel,zGx,zG6]
  refine zCN [11,1,2,7,8,9,10] ?_
  simp only[List.map_cons,List.map_nil,↓zaL,↓zHC,WY,reduceIte,yA,yB,yC,yD,reduceCtorEq,yE,yF,W1,W1Q,WS]
  refine zJ1 1 (fun st:SpS=> [(11,.int .i64 st.i)]) (fun st=>spH H.length H lim st.x st.x st.rd st.x.Z st.x.Z) (fun st=>st.i<=l.length/\RndI lim st.rd st.x st.w st.i/\st.w+(rowOf (l.drop st.i)).size<=225) (fun st=>l.length-st.i) C_ok ⟨0,⟨4,mem0,0,[]⟩,0,0⟩ rfl ?_ ⟨YAX _,rnd0 hl0,by simpa using hsm.size⟩ (by decide) ?_
  ·rw[zgv];rfl
  rintro⟨i,x,rd,w⟩ ⟨hi,hR,hw⟩
  simp only at hi hR hw
  simp only[List.drop_succ_cons,List.drop_zero,List.cons_append,List.nil_append]
  have hmax:l.length<=maxLen:=by rw[zPC];omega
  have spl:(spH H.length H lim x x rd x.Z x.Z).length=H.length+6:=by rw[zgv];simp
  have d1:((H.length<=H.length+6)=True):=by simp
  by_cases hlt:i<l.length
  ·obtain⟨pa,hpa⟩:∃pa,pa=l.getD i default:=⟨_,rfl⟩
   have hg:=hR.good
   have hd:l.drop i=pa::l.drop (i+1):=by
    rw[hpa,YAF,YAI hlt,Option.getD_some]
    exact List.drop_eq_getElem_cons hlt
   have hsz:pa.1.size+pa.2.size+(rowOf (l.drop (i+1))).size<=(rowOf (l.drop i)).size:=by
    rw[hd];simp only[rowOf,T.size];omega
   have k1:=hR.len;have k2:=hR.cnt;have k3:=hR.c0;have k4:=hR.lm
   have hge:(l.map tyQ).getD i default=tyQ pa:=by
    rw[hpa,YAF,YAF,List.getElem?_map,YAI hlt];rfl
   obtain⟨y,n1,e1,g1,f1,o1⟩:=ze2 (s:=H.length) (r:=H.length+1) (m:=H.length+4) (s2:=H.length+2) (r2:=H.length+3) (m2:=H.length+5) (lim:=lim) (rd:=rd) (lvl:=lv) (by omega) (by omega) (by omega) (by omega) (by omega) (by omega) (by omega) pa.1 x hR.good hR.stv hR.vj (by omega) k3 k4 (by omega)
   have a2:=o1.lenB;have a3:=o1.cntA;have a4:=o1.cntB
   obtain⟨z,n2,e2,g2,f2,o2⟩:=ze2 (s:=H.length) (r:=H.length+1) (m:=H.length+4) (s2:=H.length+2) (r2:=H.length+3) (m2:=H.length+5) (lim:=lim) (rd:=rd) (lvl:=((lv+i % 3:Nat):Int)) (by omega) (by omega) (by omega) (by omega) (by omega) (by omega) (by omega) pa.2 y o1.good o1.stv o1.vj (by omega) (by omega) o1.lm (by omega)
   have m1:=zgw g1 x x.Z
   have m2:=zgx f1 (rd:=rd) y y.Z
   have m3:=zgw g2 y y.Z
   have m4:=zgx f2 (rd:=rd) z z.Z
   have ne3:((3:Int)≠0)=True:=by simp
   have hgq:(List.map embQ (List.map tyQ l)).getD i .any=embQ (pa.1.ty,pa.2.ty):=by
    rw[hpa,YAF,YAF,List.getElem?_map,List.getElem?_map,YAI hlt];rfl
   have r0:(i:Int).tmod 3=((i % 3:Nat):Int):=by rw[Int.tmod_eq_emod_of_nonneg (by omega)];omega
   have r1:IntKind.wrap .i64 ((i % 3:Nat):Int)=((i % 3:Nat):Int):=zbT (by omega) (by omega)
   have r2:IntKind.wrap .i64 ((lv:Int)+((i % 3:Nat):Int))=((lv+i % 3:Nat):Int):=by rw[zbT (by omega) (by omega)];omega
   rcases o1.bad with rfl|⟨rfl,rfl⟩
   ·rcases o2.bad with rfl|⟨rfl,rfl⟩
    ·obtain⟨mm,res,hr,hg',hl',hrd',hnx⟩:=zgH hR (by omega) (by omega) o1 o2
     have hn1:n1<z.L.length:=YAW (o1.lt rfl) o2.lenA
     have c5:zAd Try.prog 45 [.bptr H.length 0,.int .i64 n1,.int .i64 n2] (spH H.length H lim z z rd z.Z z.Z) (.tup [.int .i64 res.1,.int .i64 res.2.1,.int .i64 res.2.2.1]) (spH H.length H lim ⟨res.2.2.2.v,res.2.2.2.L,res.2.2.2.cnt,z.Z⟩ z res.2.2.2.rd z.Z z.Z):=
      dS (fun G hs hr'=>zdt hs hr' (by omega) o2.good hn1 (o2.lt rfl) hr) (spD H _ _) z.v z.L.st lim z.cnt
     have c6:zAd Try.prog 49 [.bptr (H.length+2) 0,.int .i64 n1,.int .i64 n2] (spH H.length H lim ⟨res.2.2.2.v,res.2.2.2.L,res.2.2.2.cnt,z.Z⟩ z res.2.2.2.rd z.Z z.Z) (.tup [.int .i64 res.1,.int .i64 res.2.1,.int .i64 res.2.2.1]) (spH H.length H lim ⟨res.2.2.2.v,res.2.2.2.L,res.2.2.2.cnt,z.Z⟩ ⟨res.2.2.2.v,res.2.2.2.L,res.2.2.2.cnt,z.Z⟩ res.2.2.2.rd z.Z z.Z):=
      dR (fun G hs hr'=>(zhE hs hr' (by omega) o2.good o2.lm hn1 (o2.lt rfl) hr).1) (spD H _ _) res.2.2.2.v res.2.2.2.L lim res.2.2.2.cnt res.2.2.2.rd
     have c7:zAd Try.prog 50 [.bptr H.length 0,.bptr (H.length+2) 0] (spH H.length H lim ⟨res.2.2.2.v,res.2.2.2.L,res.2.2.2.cnt,z.Z⟩ ⟨res.2.2.2.v,res.2.2.2.L,res.2.2.2.cnt,z.Z⟩ res.2.2.2.rd z.Z z.Z) (.bool true) (spH H.length H lim ⟨(alk res.2.2.2.L.length res.2.2.2).v,(alk res.2.2.2.L.length res.2.2.2).L,(alk res.2.2.2.L.length res.2.2.2).cnt,z.Z⟩ ⟨(alk res.2.2.2.L.length res.2.2.2).v,(alk res.2.2.2.L.length res.2.2.2).L,(alk res.2.2.2.L.length res.2.2.2).cnt,z.Z⟩ (alk res.2.2.2.L.length res.2.2.2).rd z.Z z.Z):=by
      have:=zdu (spD H (.map (embM z.Z)) (.map (embM z.Z))) (u:=res.2.2.2.v) (lim:=lim) (lim2:=lim) res.2.2.2 hg'.si hl' hrd'
      unfold spH
      rw[zd1]
      unfold Sto.both at this
      rw[zd1]at this
      exact this
     by_cases he:res.2.2.1=0
     ·have b0:(res.2.2.1 !=0)=false:=by rw[he];rfl
      have h:=YAN
      repeat' (first
       |(with_reducible first|apply bA|apply bB|apply bC|apply bD|apply bE|apply bF)<;>intro h
       |((first|apply bG|apply bH);simp only[AV.norm,AV.zQg,W2,W2Q,W3,yH,yI,yJ,yK,yL,yM,hlt,b0,ne3,hgq,hb0,spl,d1,r0,r1,r2,YAK,beq_self_eq_true,YAO,zGx,zG6,implies_true,zTh,zgy,AV.bel,AV.belL,zGr,tyQ];first|refine zIf (zhF) (.inl rfl) ?_|refine zIj (zhF) (.inl rfl) ?_|refine zIA (m1) (.inl rfl) (fun hb=>by rw[zgy]at hb⊢;exact hb) ?_|refine zIA (m2) (.inl rfl) (fun hb=>by rw[zgy]at hb⊢;exact hb) ?_|refine zIA (m3) (.inl rfl) (fun hb=>by rw[zgy]at hb⊢;exact hb) ?_|refine zIA (m4) (.inl rfl) (fun hb=>by rw[zgy]at hb⊢;exact hb) ?_|refine zIA (c5) (.inl rfl) (fun hb=>by rw[zgy]at hb⊢;exact hb) ?_|refine zIA (c6) (.inl rfl) (fun hb=>by rw[zgy]at hb⊢;exact hb) ?_|refine zIA (c7) (.inl rfl) (fun hb=>by rw[zgy]at hb⊢;exact hb) ?_)
       |refine zJ9 ?_ C_ok Try.f9.ntmps rfl (by decide)
       |skip)<;>simp only[h,↓zaL,↓zHC,WY,reduceIte,yA,yB,yC,yD,reduceCtorEq,yE,yF,W1,W1Q,WS,W3,yH,yI,yJ,yK,yL,yM,hlt,b0,ne3,hgq,hb0,spl,d1,r0,r1,r2,YAK,beq_self_eq_true,YAO,zGx,zG6,implies_true,zTh,zgy,AV.bel,AV.belL,zGr,tyQ,zFY]
      refine⟨⟨i+1,⟨(alk res.2.2.2.L.length res.2.2.2).v,(alk res.2.2.2.L.length res.2.2.2).L,(alk res.2.2.2.L.length res.2.2.2).cnt,z.Z⟩,(alk res.2.2.2.L.length res.2.2.2).rd,w+(pa.1.size+pa.2.size)⟩,⟨hlt,hnx he,by simp only;omega⟩,by simp only;omega,zap ?_ ?_⟩
      ·rfl
      ·simp only[WK,↓zaL,↓zHC,yA,reduceIte,AV.bel,AV.belL,AObj.bel,AV.norm,AV.zQg,yB,yC,zbX hlt hmax]
     ·have b0:(res.2.2.1 !=0)=true:=by rw[bne_iff_ne];exact he
      have h:=YAN
      repeat' (first
       |(with_reducible first|apply bA|apply bB|apply bC|apply bD|apply bE|apply bF)<;>intro h
       |((first|apply bG|apply bH);simp only[AV.norm,AV.zQg,W2,W2Q,W3,yH,yI,yJ,yK,yL,yM,hlt,b0,ne3,hgq,hb0,spl,d1,r0,r1,r2,YAK,beq_self_eq_true,YAO,zGx,zG6,implies_true,zTh,zgy,AV.bel,AV.belL,zGr,tyQ];first|refine zIf (zhF) (.inl rfl) ?_|refine zIj (zhF) (.inl rfl) ?_|refine zIA (m1) (.inl rfl) (fun hb=>by rw[zgy]at hb⊢;exact hb) ?_|refine zIA (m2) (.inl rfl) (fun hb=>by rw[zgy]at hb⊢;exact hb) ?_|refine zIA (m3) (.inl rfl) (fun hb=>by rw[zgy]at hb⊢;exact hb) ?_|refine zIA (m4) (.inl rfl) (fun hb=>by rw[zgy]at hb⊢;exact hb) ?_|refine zIA (c5) (.inl rfl) (fun hb=>by rw[zgy]at hb⊢;exact hb) ?_|refine zIA (c6) (.inl rfl) (fun hb=>by rw[zgy]at hb⊢;exact hb) ?_|refine zIA (c7) (.inl rfl) (fun hb=>by rw[zgy]at hb⊢;exact hb) ?_)
       |refine zJ9 ?_ C_ok Try.f9.ntmps rfl (by decide)
       |skip)<;>simp only[h,↓zaL,↓zHC,WY,reduceIte,yA,yB,yC,yD,reduceCtorEq,yE,yF,W1,W1Q,WS,W3,yH,yI,yJ,yK,yL,yM,hlt,b0,ne3,hgq,hb0,spl,d1,r0,r1,r2,YAK,beq_self_eq_true,YAO,zGx,zG6,implies_true,zTh,zgy,AV.bel,AV.belL,zGr,tyQ,zFY]
    ·have h:=YAN
     repeat' (first
      |(with_reducible first|apply bA|apply bB|apply bC|apply bD|apply bE|apply bF)<;>intro h
      |((first|apply bG|apply bH);simp only[AV.norm,AV.zQg,W2,W2Q,W3,yH,yI,yJ,yK,yL,yM,hlt,ne3,hgq,hb0,spl,d1,r0,r1,r2,YAK,beq_self_eq_true,YAO,zGx,zG6,implies_true,zTh,zgy,AV.bel,AV.belL,zGr,tyQ];first|refine zIf (zhF) (.inl rfl) ?_|refine zIj (zhF) (.inl rfl) ?_|refine zIA (m1) (.inl rfl) (fun hb=>by rw[zgy]at hb⊢;exact hb) ?_|refine zIA (m2) (.inl rfl) (fun hb=>by rw[zgy]at hb⊢;exact hb) ?_|refine zIA (m3) (.inl rfl) (fun hb=>by rw[zgy]at hb⊢;exact hb) ?_|refine zIA (m4) (.inl rfl) (fun hb=>by rw[zgy]at hb⊢;exact hb) ?_)
      |refine zJ9 ?_ C_ok Try.f9.ntmps rfl (by decide)
      |skip)<;>simp only[h,↓zaL,↓zHC,WY,reduceIte,yA,yB,yC,yD,reduceCtorEq,yE,yF,W1,W1Q,WS,W3,yH,yI,yJ,yK,yL,yM,hlt,ne3,hgq,hb0,spl,d1,r0,r1,r2,YAK,beq_self_eq_true,YAO,zGx,zG6,implies_true,zTh,zgy,AV.bel,AV.belL,zGr,tyQ,zFY]
   ·rcases o2.bad with rfl|⟨rfl,rfl⟩
    ·have h:=YAN
     repeat' (first
      |(with_reducible first|apply bA|apply bB|apply bC|apply bD|apply bE|apply bF)<;>intro h
      |((first|apply bG|apply bH);simp only[AV.norm,AV.zQg,W2,W2Q,W3,yH,yI,yJ,yK,yL,yM,hlt,ne3,hgq,hb0,spl,d1,r0,r1,r2,YAK,beq_self_eq_true,YAO,zGx,zG6,implies_true,zTh,zgy,AV.bel,AV.belL,zGr,tyQ];first|refine zIf (zhF) (.inl rfl) ?_|refine zIj (zhF) (.inl rfl) ?_|refine zIA (m1) (.inl rfl) (fun hb=>by rw[zgy]at hb⊢;exact hb) ?_|refine zIA (m2) (.inl rfl) (fun hb=>by rw[zgy]at hb⊢;exact hb) ?_|refine zIA (m3) (.inl rfl) (fun hb=>by rw[zgy]at hb⊢;exact hb) ?_|refine zIA (m4) (.inl rfl) (fun hb=>by rw[zgy]at hb⊢;exact hb) ?_)
      |refine zJ9 ?_ C_ok Try.f9.ntmps rfl (by decide)
      |skip)<;>simp only[h,↓zaL,↓zHC,WY,reduceIte,yA,yB,yC,yD,reduceCtorEq,yE,yF,W1,W1Q,WS,W3,yH,yI,yJ,yK,yL,yM,hlt,ne3,hgq,hb0,spl,d1,r0,r1,r2,YAK,beq_self_eq_true,YAO,zGx,zG6,implies_true,zTh,zgy,AV.bel,AV.belL,zGr,tyQ,zFY]
    ·have h:=YAN
     repeat' (first
      |(with_reducible first|apply bA|apply bB|apply bC|apply bD|apply bE|apply bF)<;>intro h
      |((first|apply bG|apply bH);simp only[AV.norm,AV.zQg,W2,W2Q,W3,yH,yI,yJ,yK,yL,yM,hlt,ne3,hgq,hb0,spl,d1,r0,r1,r2,YAK,beq_self_eq_true,YAO,zGx,zG6,implies_true,zTh,zgy,AV.bel,AV.belL,zGr,tyQ];first|refine zIf (zhF) (.inl rfl) ?_|refine zIj (zhF) (.inl rfl) ?_|refine zIA (m1) (.inl rfl) (fun hb=>by rw[zgy]at hb⊢;exact hb) ?_|refine zIA (m2) (.inl rfl) (fun hb=>by rw[zgy]at hb⊢;exact hb) ?_|refine zIA (m3) (.inl rfl) (fun hb=>by rw[zgy]at hb⊢;exact hb) ?_|refine zIA (m4) (.inl rfl) (fun hb=>by rw[zgy]at hb⊢;exact hb) ?_)
      |refine zJ9 ?_ C_ok Try.f9.ntmps rfl (by decide)
      |skip)<;>simp only[h,↓zaL,↓zHC,WY,reduceIte,yA,yB,yC,yD,reduceCtorEq,yE,yF,W1,W1Q,WS,W3,yH,yI,yJ,yK,yL,yM,hlt,ne3,hgq,hb0,spl,d1,r0,r1,r2,YAK,beq_self_eq_true,YAO,zGx,zG6,implies_true,zTh,zgy,AV.bel,AV.belL,zGr,tyQ,zFY]
  ·have hlt':(i<l.length)=False:=by simp[hlt]
   have c9:zAd Try.prog 45 [.bptr H.length 0,.int .i64 (-1),.int .i64 0] (spH H.length H lim x x rd x.Z x.Z) (.tup [.int .i64 0,.int .i64 0,.int .i64 1]) (spH H.length H lim x x rd x.Z x.Z):=
    dS (fun G hs hr=>zds hs hr (by omega) 0) (spD H _ _) x.v x.L.st lim x.cnt
   have h:=YAN
   repeat' (first
    |(with_reducible first|apply bA|apply bB|apply bC|apply bD|apply bE|apply bF)<;>intro h
    |((first|apply bG|apply bH);simp only[AV.norm,AV.zQg,W2,W2Q,hlt',hb0,spl,d1,YAK,beq_self_eq_true,zTh,zgy,AV.bel,AV.belL];first|refine zIf (zhF) (.inl rfl) ?_|refine zIj (zhF) (.inl rfl) ?_|refine zIA (c9) (.inl rfl) (fun hb=>by rw[zgy]at hb⊢;exact hb) ?_)
    |skip)<;>simp only[h,↓zaL,↓zHC,WY,reduceIte,yA,yB,yC,yD,reduceCtorEq,yE,yF,W1,W1Q,WS,hlt',hb0,spl,d1,YAK,beq_self_eq_true,zTh,zgy,AV.bel,AV.belL]
   done
end Go.Proofs.Ytdngjamjccjlmaa
