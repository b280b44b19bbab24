/- Binds: static types for all variables of a type. No condition. -/
import Derived.Test.YtmpegnogdgbleaaPPa
import Derived.Test.YtmpegnogdgbleaaPHa
set_option linter.unusedSimpArgs false
set_option linter.unusedVariables false
set_option maxHeartbeats 4000000
set_option maxRecDepth 100000
namespace Go.Proofs.Ytmpegnogdgbleaa
open Go Go.Ab
open Nat renaming reduceEqDiff -> yA, reduceAdd -> yB, reduceLT -> yC, reduceLeDiff -> yD, reduceMul -> yE, reducePow -> yF, reduceBEq -> yG
open Int renaming reduceAdd -> yH, reduceLT -> yI, reduceToNat -> yJ, reduceBEq -> yK, reduceBNe -> yL, reduceLE -> yM
attribute [local irreducible] zA0 zAA zAa zAi zAj GoIf GoGb zAk GoO GoD GoX GoDX GoG GoDG GoGv zAl Go zAB
noncomputable def zXa(vs:List Int)(l:List Ty)(c:Bool)(i:Nat):Bd:=(vs.getD i 0,if l.length=0 then zM6 1 else(zSc c (tOf (l.getD (i % l.length) default))).ty)
noncomputable def zXW(vs:List Int)(l:List Ty)(c:Bool):List Bd:=(List.range vs.length).map (zXa vs l c)
theorem zXb{vs:List Int}{l:List Ty}{c:Bool}(hl:∀x∈l,right x=true)(i:Nat):right (zXa vs l c i).2=true:=by
 simp only[zXa]
 split
 ·rfl
 ·rename_i h
  have hm:l.getD (i % l.length) default∈l:=by
   have:i % l.length<l.length:=Nat.mod_lt _ (by omega)
   simp[this]
  obtain⟨x,e,hx⟩:=T.zRB (hl _ hm)
  rw[e,zX5,T.zT5];exact zSd c x hx
theorem zNd:∀(l:List Bd) (n:Int) (t:Ty),zNa l n=some t->∃p∈l,p.1=n/\p.2=t
 |p::l,n,t,h=>by
  rw[zNa]at h
  split at h
  ·rename_i e;cases h;exact⟨p,YAU,e,rfl⟩
  ·obtain⟨q,hq,h2⟩:=zNd l n t h;exact⟨q,YAT _ hq,h2⟩
theorem zXZ{vs:List Int}{l:List Ty}{c:Bool}(hl:∀x∈l,right x=true)(n:Int)(t:Ty)(h:zNa (zXW vs l c) n=some t):right t=true:=by
 obtain⟨p,hp,_,rfl⟩:=zNd _ _ _ h
 obtain⟨i,_,rfl⟩:=List.mem_map.1 hp
 exact zXb hl i
theorem zXX(t:Ty)(l:List Ty)(c:Bool)(ht:nodes t<=1048576)(hl:l.length<=1000000)(hr:∀x∈l,right x=true):zA0 Try.prog 27 [emb t,.sl (l.map emb) .no,.bool c] (.sl ((zXW (zaa t) l c).map embB) .no):=by
 have hv:=zTI t ht
 have hvl:=zac t
 generalize zaa t=vs at*
 have hroom:∀i,i<vs.length->((i+1)*48<=140737488355328)=True:=fun i h=>by simp only[YAb,iff_true];omega
 have hroom2:∀i,i<vs.length->(i+1<=9223372036854775807)=True:=fun i h=>by simp only[YAb,iff_true];omega
 have hmax:vs.length<=maxLen:=by rw[zPC];omega
 by_cases h0:l.length=0
 ·have hl0:((l.length:Int)>0)=False:=by simp only[YAb,iff_false];omega
  have hg:∀i,(zXa vs l c i).2=zM6 1:=fun i=>by rw[zXa];simp only[h0,if_true]
  have hlf:∀i,zA0 Try.prog 32 [.int .i64 1] (emb (zXa vs l c i).2):=fun i=>by rw[hg];exact zM8 1
  have hend:∀m,¬m<vs.length->m<=vs.length->((List.range m).map (zXa vs l c)).map embB=(zXW vs l c).map embB:=fun m h1 h2=>by rw[show m=vs.length by omega];rfl
  refine zSa C_ok Try.func27 rfl (by decide) (YAL rfl) (by decide) (by simp only[AV.bel,zOX,Bool.and_self]) fun ok H=> ?_
  rw[Try.results27]
  have h:=YAN
  repeat' (first
   |(with_reducible first|apply bA|apply bB|apply bC|apply bD|apply bE|apply bF)<;>intro h
   |((first|apply bG|apply bH);simp only[AV.norm,AV.zQg,W2,W2B,zLY];first|refine zIf (hv) (.inl rfl) ?_|refine zIj (hv) (.inl rfl) ?_)
   |refine zKg (id:=9) C_ok (fun _=>trivial) mixed 0 Try.f27.ntmps rfl (by kernel_rfl) (by decide) ?_
   |skip)<;>simp only[h,↓zaL,↓zHC,WZ,reduceIte,yA,yB,yC,yD,reduceCtorEq,yE,yF,W1,W1B,zLY]
  refine aloop_trim [7,9,1,2,8] ?_
  simp only[List.map_cons,List.map_nil,↓zaL,↓zHC,WZ,reduceIte,yA,yB,yC,yD,reduceCtorEq,yE,yF,W1,W1B]
  refine zJ2 2 1 (fun i:Nat=> [(7,match i with
   |0=> .sl [] .full
   |i+1=> .sl (((List.range (i+1)).map (zXa vs l c)).map embB) (.own (H.length+2))),(9,.int .i64 i)]) (fun i=>match i with
   |0=> []
   |i+1=> [.box [.int .i64 (zXa vs l c 0).2.kind,.int .i64 (zXa vs l c 0).2.num,.sl ((zXa vs l c 0).2.kids.map emb) .no],.tok (i+1) 4]) (fun i=>i<=vs.length) (fun i=>vs.length-i) C_ok 0 rfl rfl (YAX _) (by decide) ?_
  rintro(_|i) hi
  ·simp only[List.drop_succ_cons,List.drop_zero,List.cons_append,List.nil_append,List.take_succ_cons,List.take_zero]
   simp only[↓zaL,↓zHC,WZ,reduceIte,yA,yB,yC,yD,reduceCtorEq,yE,yF,W1,W1B]
   refine zJv (fun hlt=> ?_) (fun hlt=> ?_)
   ·have h:=YAN
    repeat' (first
     |(with_reducible first|apply bA|apply bB|apply bC|apply bD|apply bE|apply bF)<;>intro h
     |((first|apply bG|apply bH);simp only[AV.norm,AV.zQg,W2,W2B,hlt,zOt hlt,zLY,hl0,if_false,hroom 0 hlt,hroom2 0 hlt,YAK];first|refine zIf (hlf 0) (.inl rfl) ?_|refine zIj (hlf 0) (.inl rfl) ?_)
     |refine zKg (id:=9) C_ok (fun _=>trivial) mixed 0 Try.f27.ntmps rfl (by kernel_rfl) (by decide) ?_
     |skip)<;>simp only[h,↓zaL,↓zHC,WZ,reduceIte,yA,yB,yC,yD,reduceCtorEq,yE,yF,W1,W1B,hlt,zOt hlt,zLY,hl0,if_false,hroom 0 hlt,hroom2 0 hlt,YAK]
    refine⟨0+1,hlt,by omega,zas rfl rfl rfl ?_ ?_ ?_ ?_⟩<;>(try simp only[WK,↓zaL,↓zHC,yA,reduceIte,AV.bel,AV.belL,AObj.bel,AV.norm,AV.zQg,yB,yC,zbX hlt hmax,zOq,zOX,zLy,zOZ,AV.belL,YAK])<;>(try simp[List.range_succ,zGy])<;>(try omega)<;>(try rfl)
   ·simp only[↓zaL,↓zHC,WZ,reduceIte,yA,yB,yC,yD,reduceCtorEq,yE,yF,W1,W1B]
    exact hend 0 hlt hi
  ·simp only[List.drop_succ_cons,List.drop_zero,List.cons_append,List.nil_append,List.take_succ_cons,List.take_zero]
   simp only[↓zaL,↓zHC,WZ,reduceIte,yA,yB,yC,yD,reduceCtorEq,yE,yF,W1,W1B]
   refine zJv (fun hlt=> ?_) (fun hlt=> ?_)
   ·have h:=YAN
    repeat' (first
     |(with_reducible first|apply bA|apply bB|apply bC|apply bD|apply bE|apply bF)<;>intro h
     |((first|apply bG|apply bH);simp only[AV.norm,AV.zQg,W2,W2B,hlt,zOt hlt,zLY,hl0,if_false,hroom (i+1) hlt,hroom2 (i+1) hlt,YAK];first|refine zIf (hlf (i+1)) (.inl rfl) ?_|refine zIj (hlf (i+1)) (.inl rfl) ?_)
     |refine zKg (id:=9) C_ok (fun _=>trivial) mixed 0 Try.f27.ntmps rfl (by kernel_rfl) (by decide) ?_
     |skip)<;>simp only[h,↓zaL,↓zHC,WZ,reduceIte,yA,yB,yC,yD,reduceCtorEq,yE,yF,W1,W1B,hlt,zOt hlt,zLY,hl0,if_false,hroom (i+1) hlt,hroom2 (i+1) hlt,YAK]
    refine⟨i+1+1,hlt,by omega,zas rfl rfl rfl ?_ ?_ ?_ ?_⟩<;>(try simp only[WK,↓zaL,↓zHC,yA,reduceIte,AV.bel,AV.belL,AObj.bel,AV.norm,AV.zQg,yB,yC,zbX hlt hmax,zOq,zOX,zLy,zOZ,AV.belL,YAK])<;>(try simp[List.range_succ,zGy])<;>(try omega)<;>(try rfl)
   ·simp only[↓zaL,↓zHC,WZ,reduceIte,yA,yB,yC,yD,reduceCtorEq,yE,yF,W1,W1B]
    exact hend (i+1) hlt hi
 ·have hl0:((l.length:Int)>0)=True:=by simp only[YAb,iff_true];omega
  have hnz:((l.length:Int)≠0)=True:=by simp only[YAb,iff_true];omega
  have hwm:∀i,i<vs.length->(i:Int).tmod (l.length:Int)=((i % l.length:Nat):Int):=fun i h=>by
   rw[Int.tmod_eq_emod_of_nonneg (by omega),<-Int.natCast_emod]
  have hgen:∀i,i<vs.length->(l.map emb).getD (i % l.length) .any=emb (tOf (l.getD (i % l.length) default)).ty:=fun i h=>by
   have h1:=Nat.mod_lt i (show l.length>0 by omega)
   have hm:l.getD (i % l.length) default∈l:=by simp[h1]
   obtain⟨x,e,hx⟩:=T.zRB (hr _ hm)
   rw[zOo h1,e,zX5]
  have hge:∀i,i<vs.length->(i % l.length<l.length)=True:=fun i h=>by simp only[YAb,iff_true];exact Nat.mod_lt i (show l.length>0 by omega)
  have hpl:∀i,i<vs.length->zA0 Try.prog 50 [emb (tOf (l.getD (i % l.length) default)).ty,.bool c] (emb (zXa vs l c i).2):=fun i h=>by
   have:=zSe c (tOf (l.getD (i % l.length) default))
   rw[zXa];simp only[h0,if_false];exact this
  have hend:∀m,¬m<vs.length->m<=vs.length->((List.range m).map (zXa vs l c)).map embB=(zXW vs l c).map embB:=fun m h1 h2=>by rw[show m=vs.length by omega];rfl
  refine zSa C_ok Try.func27 rfl (by decide) (YAL rfl) (by decide) (by simp only[AV.bel,zOX,Bool.and_self]) fun ok H=> ?_
  rw[Try.results27]
  have h:=YAN
  repeat' (first
   |(with_reducible first|apply bA|apply bB|apply bC|apply bD|apply bE|apply bF)<;>intro h
   |((first|apply bG|apply bH);simp only[AV.norm,AV.zQg,W2,W2B,zLY];first|refine zIf (hv) (.inl rfl) ?_|refine zIj (hv) (.inl rfl) ?_)
   |refine zKg (id:=9) C_ok (fun _=>trivial) mixed 0 Try.f27.ntmps rfl (by kernel_rfl) (by decide) ?_
   |skip)<;>simp only[h,↓zaL,↓zHC,WZ,reduceIte,yA,yB,yC,yD,reduceCtorEq,yE,yF,W1,W1B,zLY]
  refine aloop_trim [7,9,1,2,8] ?_
  simp only[List.map_cons,List.map_nil,↓zaL,↓zHC,WZ,reduceIte,yA,yB,yC,yD,reduceCtorEq,yE,yF,W1,W1B]
  refine zJ2 2 1 (fun i:Nat=> [(7,match i with
   |0=> .sl [] .full
   |i+1=> .sl (((List.range (i+1)).map (zXa vs l c)).map embB) (.own (H.length+2))),(9,.int .i64 i)]) (fun i=>match i with
   |0=> []
   |i+1=> [.box [.int .i64 (zXa vs l c 0).2.kind,.int .i64 (zXa vs l c 0).2.num,.sl ((zXa vs l c 0).2.kids.map emb) .no],.tok (i+1) 4]) (fun i=>i<=vs.length) (fun i=>vs.length-i) C_ok 0 rfl rfl (YAX _) (by decide) ?_
  rintro(_|i) hi
  ·simp only[List.drop_succ_cons,List.drop_zero,List.cons_append,List.nil_append,List.take_succ_cons,List.take_zero]
   simp only[↓zaL,↓zHC,WZ,reduceIte,yA,yB,yC,yD,reduceCtorEq,yE,yF,W1,W1B]
   refine zJv (fun hlt=> ?_) (fun hlt=> ?_)
   ·have h:=YAN
    repeat' (first
     |(with_reducible first|apply bA|apply bB|apply bC|apply bD|apply bE|apply bF)<;>intro h
     |((first|apply bG|apply bH);simp only[AV.norm,AV.zQg,W2,W2B,hlt,zOt hlt,zLY,hl0,hnz,hwm 0 hlt,hge 0 hlt,hgen 0 hlt,hroom 0 hlt,hroom2 0 hlt,YAK];first|refine zIf (zM8 _) (.inl rfl) ?_|refine zIf (hpl 0 hlt) (.inl rfl) ?_|refine zIj (zM8 _) (.inl rfl) ?_|refine zIj (hpl 0 hlt) (.inl rfl) ?_)
     |refine zKg (id:=9) C_ok (fun _=>trivial) mixed 0 Try.f27.ntmps rfl (by kernel_rfl) (by decide) ?_
     |skip)<;>simp only[h,↓zaL,↓zHC,WZ,reduceIte,yA,yB,yC,yD,reduceCtorEq,yE,yF,W1,W1B,hlt,zOt hlt,zLY,hl0,hnz,hwm 0 hlt,hge 0 hlt,hgen 0 hlt,hroom 0 hlt,hroom2 0 hlt,YAK]
    refine⟨0+1,hlt,by omega,zas rfl rfl rfl ?_ ?_ ?_ ?_⟩<;>(try simp only[WK,↓zaL,↓zHC,yA,reduceIte,AV.bel,AV.belL,AObj.bel,AV.norm,AV.zQg,yB,yC,zbX hlt hmax,zOq,zOX,zLy,zOZ,AV.belL,YAK])<;>(try simp[List.range_succ,zGy])<;>(try omega)<;>(try rfl)
   ·simp only[↓zaL,↓zHC,WZ,reduceIte,yA,yB,yC,yD,reduceCtorEq,yE,yF,W1,W1B]
    exact hend 0 hlt hi
  ·simp only[List.drop_succ_cons,List.drop_zero,List.cons_append,List.nil_append,List.take_succ_cons,List.take_zero]
   simp only[↓zaL,↓zHC,WZ,reduceIte,yA,yB,yC,yD,reduceCtorEq,yE,yF,W1,W1B]
   refine zJv (fun hlt=> ?_) (fun hlt=> ?_)
   ·have h:=YAN
    repeat' (first
     |(with_reducible first|apply bA|apply bB|apply bC|apply bD|apply bE|apply bF)<;>intro h
     |((first|apply bG|apply bH);simp only[AV.norm,AV.zQg,W2,W2B,hlt,zOt hlt,zLY,hl0,hnz,hwm (i+1) hlt,hge (i+1) hlt,hgen (i+1) hlt,hroom (i+1) hlt,hroom2 (i+1) hlt,YAK];first|refine zIf (zM8 _) (.inl rfl) ?_|refine zIf (hpl (i+1) hlt) (.inl rfl) ?_|refine zIj (zM8 _) (.inl rfl) ?_|refine zIj (hpl (i+1) hlt) (.inl rfl) ?_)
     |refine zKg (id:=9) C_ok (fun _=>trivial) mixed 0 Try.f27.ntmps rfl (by kernel_rfl) (by decide) ?_
     |skip)<;>simp only[h,↓zaL,↓zHC,WZ,reduceIte,yA,yB,yC,yD,reduceCtorEq,yE,yF,W1,W1B,hlt,zOt hlt,zLY,hl0,hnz,hwm (i+1) hlt,hge (i+1) hlt,hgen (i+1) hlt,hroom (i+1) hlt,hroom2 (i+1) hlt,YAK]
    refine⟨i+1+1,hlt,by omega,zas rfl rfl rfl ?_ ?_ ?_ ?_⟩<;>(try simp only[WK,↓zaL,↓zHC,yA,reduceIte,AV.bel,AV.belL,AObj.bel,AV.norm,AV.zQg,yB,yC,zbX hlt hmax,zOq,zOX,zLy,zOZ,AV.belL,YAK])<;>(try simp[List.range_succ,zGy])<;>(try omega)<;>(try rfl)
   ·simp only[↓zaL,↓zHC,WZ,reduceIte,yA,yB,yC,yD,reduceCtorEq,yE,yF,W1,W1B]
    exact hend (i+1) hlt hi
theorem zEx(t:Ty)(l:List Ty)(ht:nodes t<=1048576)(hl:l.length<=1000000)(hr:∀x∈l,right x=true):zA0 Try.prog 30 [emb t,.sl (l.map emb) .no] (.sl ((zXW (zaa t) l true).map embB) .no):=by
 refine zSa C_ok Try.func30 rfl (by decide) (YAL rfl) (by decide) (by simp only[AV.bel,zOX,Bool.and_self]) fun ok H=> ?_
 rw[Try.results30]
 have h:=YAN
 repeat' (first
  |(with_reducible first|apply bA|apply bB|apply bC|apply bD|apply bE|apply bF)<;>intro h
  |((first|apply bG|apply bH);simp only[AV.norm,AV.zQg,W2,W2B,zOu,zOZ];first|refine zIf (zXX t l true ht hl hr) (.inl rfl) ?_|refine zIj (zXX t l true ht hl hr) (.inl rfl) ?_)
  |skip)<;>simp only[h,↓zaL,↓zHC,WZ,reduceIte,yA,yB,yC,yD,reduceCtorEq,yE,yF,W1,W1B,zOu,zOZ]
end Go.Proofs.Ytmpegnogdgbleaa
