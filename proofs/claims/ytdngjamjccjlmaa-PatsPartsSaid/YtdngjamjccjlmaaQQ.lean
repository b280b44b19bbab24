/- PatsParts answers true, whatever the input. No condition. -/
import Derived.Test.YtdngjamjccjlmaaQP
import Derived.Test.YtdngjamjccjlmaaQN
set_option linter.unusedSimpArgs false
set_option linter.unusedVariables false
set_option maxHeartbeats 40000000
set_option maxRecDepth 100000
namespace Go.Proofs.Ytdngjamjccjlmaa
open Go Go.Ab
open Nat renaming reduceEqDiff -> yA, reduceAdd -> yB, reduceLT -> yC, reduceLeDiff -> yD, reduceMul -> yE, reducePow -> yF, reduceBEq -> yG
open Int renaming reduceAdd -> yH, reduceLT -> yI, reduceToNat -> yJ, reduceBEq -> yK, reduceBNe -> yL, reduceLE -> yM
attribute [local irreducible] zA0 zAA zAa zAi zAj GoIf GoGb zAk GoO GoD GoX GoDX GoG GoDG GoGv zAl Go zAB
def bdA(m:Option (List En)):AV:= .tup [.sl ((m.getD []).map embE) .no,.int .i64 (if m.isSome then 0 else 4)]
theorem zdG{p:Pt}{t:Ty}(h:chkP p=true)(h':right t=true):zDk p t=bdA (zDo p t []):=by
 rw[zDn h h']
 cases zDo p t []<;>rfl
theorem zdM:∀a b:List AV,AV.zQg (a++b)=AV.zQg a++AV.zQg b
 | [],b=>rfl
 |x::a,b=>by simp only[List.cons_append,AV.zQg,zdM a b]
theorem zdF(l:List ByteArray):(∀y,y∈l.map ST->y.solid=true/\(cellsOf y).length=1)=True:=by
 simp only[YAb,iff_true];intro y hy;obtain⟨t,_,rfl⟩:=List.mem_map.1 hy;exact⟨rfl,rfl⟩
theorem zdE(l:List En):(∀y,y∈l.map embE->y.solid=true/\(cellsOf y).length=4)=True:=by
 simp only[YAb,iff_true];intro y hy;obtain⟨t,_,rfl⟩:=List.mem_map.1 hy;exact⟨rfl,rfl⟩
theorem rm14(x:Nat)(h:x<=401):((x<=9223372036854775806)=True)/\(((x+1)*16<=140737488355328)=True)/\(((x+1)*56<=140737488355328)=True):=by
 simp only[YAb,iff_true];omega
theorem rs14(x y:Nat)(h:x<=401)(h':y<=401):((x+1+y<=9223372036854775807)=True)/\(((x+1+y)*16<=140737488355328)=True)/\(((x+1+y)*56<=140737488355328)=True):=by
 simp only[YAb,iff_true];omega
theorem zdO(p q:Pt)(t u:Ty):zA0 Try.prog 16 [embP p,embP q,emb t,emb u] (.bool true):=by
 have q1:=zct p t
 have q2:=zct q u
 cases h1:rgtP p t with
 |false=>
  rw[h1]at q1
  refine zSa C_ok Try.func16 rfl (by decide) (YAL rfl) (by decide) rfl fun ok H=> ?_
  rw[Try.results16]
  repeat' first
   |(apply zJn (fun _ _=>rfl);(· intro hb;(try simp only[YAA,YAD,YAE,YAC]at hb);simp only[hb,↓zaL,↓zHC,WZ,reduceIte,yA,yB,yC,yD,reduceCtorEq,yE,yF,W1,W1P,W1E,W5];exact⟨rfl,trivial⟩))
   |(apply zJi (q1);(· intro hb;(try simp only[YAA,YAD,YAE,YAC]at hb);simp only[hb,AV.norm,AV.zQg,W2,W2P,W2E,↓zaL,↓zHC,WZ,reduceIte,yA,yB,yC,yD,reduceCtorEq,yE,yF,W1,W1P,W1E,W5];rfl))
   |(apply zJi (q2);(· intro hb;(try simp only[YAA,YAD,YAE,YAC]at hb);simp only[hb,AV.norm,AV.zQg,W2,W2P,W2E,↓zaL,↓zHC,WZ,reduceIte,yA,yB,yC,yD,reduceCtorEq,yE,yF,W1,W1P,W1E,W5];rfl))
   |(apply zIy (fun _ _=>rfl);(· intro hb;(try simp only[YAA,YAD,YAE,YAC]at hb);simp only[hb,↓zaL,↓zHC,WZ,reduceIte,yA,yB,yC,yD,reduceCtorEq,yE,yF,W1,W1P,W1E,W5];exact⟨rfl,trivial⟩))
   |(apply zIt (q1);(· intro hb;(try simp only[YAA,YAD,YAE,YAC]at hb);simp only[hb,AV.norm,AV.zQg,W2,W2P,W2E,↓zaL,↓zHC,WZ,reduceIte,yA,yB,yC,yD,reduceCtorEq,yE,yF,W1,W1P,W1E,W5];rfl))
   |(apply zIt (q2);(· intro hb;(try simp only[YAA,YAD,YAE,YAC]at hb);simp only[hb,AV.norm,AV.zQg,W2,W2P,W2E,↓zaL,↓zHC,WZ,reduceIte,yA,yB,yC,yD,reduceCtorEq,yE,yF,W1,W1P,W1E,W5];rfl))
   |(with_reducible first|apply bA|apply bB|apply bC|apply bD|apply bE|apply bF)<;>intro h<;>try simp only[h,↓zaL,↓zHC,WZ,reduceIte,yA,yB,yC,yD,reduceCtorEq,yE,yF,W1,W1P,W1E,W5]
   |((first|apply bG|apply bH);simp only[AV.norm,AV.zQg,W2,W2P,W2E];first|refine zIf (q1) (.inl rfl) ?_|refine zIf (q2) (.inl rfl) ?_|refine zIj (q1) (.inl rfl) ?_|refine zIj (q2) (.inl rfl) ?_)
   |refine zKg (id:=6) C_ok (fun _=>trivial) mixed 0 Try.f16.ntmps rfl (by kernel_rfl) (by decide) ?_
   |refine zKg (id:=10) C_ok (fun _=>trivial) mixed 0 Try.f16.ntmps rfl (by kernel_rfl) (by decide) ?_
   |refine zKg (id:=11) C_ok (fun _=>trivial) mixed 0 Try.f16.ntmps rfl (by kernel_rfl) (by decide) ?_
   |refine zKg (id:=12) C_ok (fun _=>trivial) mixed 0 Try.f16.ntmps rfl (by kernel_rfl) (by decide) ?_
   |refine zKg (id:=17) C_ok (fun _=>trivial) mixed 0 Try.f16.ntmps rfl (by kernel_rfl) (by decide) ?_
   |refine zKg (id:=18) C_ok (fun _=>trivial) mixed 0 Try.f16.ntmps rfl (by kernel_rfl) (by decide) ?_
   |simp only[↓zaL,↓zHC,WZ,reduceIte,yA,yB,yC,yD,reduceCtorEq,yE,yF,W1,W1P,W1E,W5]
 |true=>
 cases h2:rgtP q u with
 |false=>
  rw[h1]at q1
  rw[h2]at q2
  refine zSa C_ok Try.func16 rfl (by decide) (YAL rfl) (by decide) rfl fun ok H=> ?_
  rw[Try.results16]
  repeat' first
   |(apply zJn (fun _ _=>rfl);(· intro hb;(try simp only[YAA,YAD,YAE,YAC]at hb);simp only[hb,↓zaL,↓zHC,WZ,reduceIte,yA,yB,yC,yD,reduceCtorEq,yE,yF,W1,W1P,W1E,W5];exact⟨rfl,trivial⟩))
   |(apply zJi (q1);(· intro hb;(try simp only[YAA,YAD,YAE,YAC]at hb);simp only[hb,AV.norm,AV.zQg,W2,W2P,W2E,↓zaL,↓zHC,WZ,reduceIte,yA,yB,yC,yD,reduceCtorEq,yE,yF,W1,W1P,W1E,W5];rfl))
   |(apply zJi (q2);(· intro hb;(try simp only[YAA,YAD,YAE,YAC]at hb);simp only[hb,AV.norm,AV.zQg,W2,W2P,W2E,↓zaL,↓zHC,WZ,reduceIte,yA,yB,yC,yD,reduceCtorEq,yE,yF,W1,W1P,W1E,W5];rfl))
   |(apply zIy (fun _ _=>rfl);(· intro hb;(try simp only[YAA,YAD,YAE,YAC]at hb);simp only[hb,↓zaL,↓zHC,WZ,reduceIte,yA,yB,yC,yD,reduceCtorEq,yE,yF,W1,W1P,W1E,W5];exact⟨rfl,trivial⟩))
   |(apply zIt (q1);(· intro hb;(try simp only[YAA,YAD,YAE,YAC]at hb);simp only[hb,AV.norm,AV.zQg,W2,W2P,W2E,↓zaL,↓zHC,WZ,reduceIte,yA,yB,yC,yD,reduceCtorEq,yE,yF,W1,W1P,W1E,W5];rfl))
   |(apply zIt (q2);(· intro hb;(try simp only[YAA,YAD,YAE,YAC]at hb);simp only[hb,AV.norm,AV.zQg,W2,W2P,W2E,↓zaL,↓zHC,WZ,reduceIte,yA,yB,yC,yD,reduceCtorEq,yE,yF,W1,W1P,W1E,W5];rfl))
   |(with_reducible first|apply bA|apply bB|apply bC|apply bD|apply bE|apply bF)<;>intro h<;>try simp only[h,↓zaL,↓zHC,WZ,reduceIte,yA,yB,yC,yD,reduceCtorEq,yE,yF,W1,W1P,W1E,W5]
   |((first|apply bG|apply bH);simp only[AV.norm,AV.zQg,W2,W2P,W2E];first|refine zIf (q1) (.inl rfl) ?_|refine zIf (q2) (.inl rfl) ?_|refine zIj (q1) (.inl rfl) ?_|refine zIj (q2) (.inl rfl) ?_)
   |refine zKg (id:=6) C_ok (fun _=>trivial) mixed 0 Try.f16.ntmps rfl (by kernel_rfl) (by decide) ?_
   |refine zKg (id:=10) C_ok (fun _=>trivial) mixed 0 Try.f16.ntmps rfl (by kernel_rfl) (by decide) ?_
   |refine zKg (id:=11) C_ok (fun _=>trivial) mixed 0 Try.f16.ntmps rfl (by kernel_rfl) (by decide) ?_
   |refine zKg (id:=12) C_ok (fun _=>trivial) mixed 0 Try.f16.ntmps rfl (by kernel_rfl) (by decide) ?_
   |refine zKg (id:=17) C_ok (fun _=>trivial) mixed 0 Try.f16.ntmps rfl (by kernel_rfl) (by decide) ?_
   |refine zKg (id:=18) C_ok (fun _=>trivial) mixed 0 Try.f16.ntmps rfl (by kernel_rfl) (by decide) ?_
   |simp only[↓zaL,↓zHC,WZ,reduceIte,yA,yB,yC,yD,reduceCtorEq,yE,yF,W1,W1P,W1E,W5]
 |true=>
 rw[h1]at q1
 rw[h2]at q2
 simp only[rgtP,YAA,YAD]at h1 h2
 obtain⟨⟨⟨a1,a2⟩,a3⟩,a4⟩:=h1
 obtain⟨⟨⟨b1,b2⟩,b3⟩,b4⟩:=h2
 have s1:=zLJ a1
 have s2:=zLJ b1
 have n1:=zLP (l:=[t]) (by rw[a2];decide) (t:=t) (by simp)
 have n2:=zLP (l:=[u]) (by rw[b2];decide) (t:=u) (by simp)
 have qw:=zao
 have hsz:zV6 (zci 7 p q)<=1000000:=by rw[zdR];omega
 have hsz9:zV6 (zci 9 p q)<=1000000:=by rw[zdR];omega
 have qr:=zTH (zci 7 p q) hsz
 rw[<-zEk]at qr
 have qt2:=zdU 7 t u
 have qt9:=zdU 9 t u
 have ql:=zNX t
 have r7:=zdQ 7 (.inl rfl) a4 b4
 have r9:=zdQ 9 (.inr rfl) a4 b4
 have rl:=zdP a4
 have c1:=bind_ok (zci 7 p q) (twoT 7 t u) hsz
 have e7:embP (.mk 7 0 0 ByteArray.empty 0 ByteArray.empty [p,q])=embP (zci 7 p q):=rfl
 have e9:embP (.mk 9 0 0 ByteArray.empty 0 ByteArray.empty [p,q])=embP (zci 9 p q):=rfl
 have z1:((1:Int)==1)=true:=rfl
 have z4:((4:Int)==0)=false:=rfl
 have z44:((4:Int)==4)=true:=rfl
 have z0:((0:Int)==0)=true:=rfl
 cases hc:chkP (zci 7 p q)with
 |false=>
  rw[hc]at qr
  rw[zDm (by rw[hc];simp)]at c1
  refine zSa C_ok Try.func16 rfl (by decide) (YAL rfl) (by decide) rfl fun ok H=> ?_
  rw[Try.results16]
  repeat' first
   |(apply zJn (fun _ _=>rfl);(· intro hb;(try simp only[YAA,YAD,YAE,YAC]at hb);simp only[hb,↓zaL,↓zHC,WZ,reduceIte,yA,yB,yC,yD,reduceCtorEq,yE,yF,W1,W1P,W1E,W5,e7,e9,z1];exact⟨rfl,trivial⟩))
   |(apply zJi (q1);(· intro hb;(try simp only[YAA,YAD,YAE,YAC]at hb);simp only[hb,AV.norm,AV.zQg,W2,W2P,W2E,↓zaL,↓zHC,WZ,reduceIte,yA,yB,yC,yD,reduceCtorEq,yE,yF,W1,W1P,W1E,W5,e7,e9,z1];rfl))
   |(apply zJi (q2);(· intro hb;(try simp only[YAA,YAD,YAE,YAC]at hb);simp only[hb,AV.norm,AV.zQg,W2,W2P,W2E,↓zaL,↓zHC,WZ,reduceIte,yA,yB,yC,yD,reduceCtorEq,yE,yF,W1,W1P,W1E,W5,e7,e9,z1];rfl))
   |(apply zJi (qr);(· intro hb;(try simp only[YAA,YAD,YAE,YAC]at hb);simp only[hb,AV.norm,AV.zQg,W2,W2P,W2E,↓zaL,↓zHC,WZ,reduceIte,yA,yB,yC,yD,reduceCtorEq,yE,yF,W1,W1P,W1E,W5,e7,e9,z1];rfl))
   |(apply zJi (qt2);(· intro hb;(try simp only[YAA,YAD,YAE,YAC]at hb);simp only[hb,AV.norm,AV.zQg,W2,W2P,W2E,↓zaL,↓zHC,WZ,reduceIte,yA,yB,yC,yD,reduceCtorEq,yE,yF,W1,W1P,W1E,W5,e7,e9,z1];rfl))
   |(apply zJi (c1);(· intro hb;(try simp only[YAA,YAD,YAE,YAC]at hb);simp only[hb,AV.norm,AV.zQg,W2,W2P,W2E,↓zaL,↓zHC,WZ,reduceIte,yA,yB,yC,yD,reduceCtorEq,yE,yF,W1,W1P,W1E,W5,e7,e9,z1];rfl))
   |(apply zJi (qw);(· intro hb;(try simp only[YAA,YAD,YAE,YAC]at hb);simp only[hb,AV.norm,AV.zQg,W2,W2P,W2E,↓zaL,↓zHC,WZ,reduceIte,yA,yB,yC,yD,reduceCtorEq,yE,yF,W1,W1P,W1E,W5,e7,e9,z1];rfl))
   |(apply zIy (fun _ _=>rfl);(· intro hb;(try simp only[YAA,YAD,YAE,YAC]at hb);simp only[hb,↓zaL,↓zHC,WZ,reduceIte,yA,yB,yC,yD,reduceCtorEq,yE,yF,W1,W1P,W1E,W5,e7,e9,z1];exact⟨rfl,trivial⟩))
   |(apply zIt (q1);(· intro hb;(try simp only[YAA,YAD,YAE,YAC]at hb);simp only[hb,AV.norm,AV.zQg,W2,W2P,W2E,↓zaL,↓zHC,WZ,reduceIte,yA,yB,yC,yD,reduceCtorEq,yE,yF,W1,W1P,W1E,W5,e7,e9,z1];rfl))
   |(apply zIt (q2);(· intro hb;(try simp only[YAA,YAD,YAE,YAC]at hb);simp only[hb,AV.norm,AV.zQg,W2,W2P,W2E,↓zaL,↓zHC,WZ,reduceIte,yA,yB,yC,yD,reduceCtorEq,yE,yF,W1,W1P,W1E,W5,e7,e9,z1];rfl))
   |(apply zIt (qr);(· intro hb;(try simp only[YAA,YAD,YAE,YAC]at hb);simp only[hb,AV.norm,AV.zQg,W2,W2P,W2E,↓zaL,↓zHC,WZ,reduceIte,yA,yB,yC,yD,reduceCtorEq,yE,yF,W1,W1P,W1E,W5,e7,e9,z1];rfl))
   |(apply zIt (qt2);(· intro hb;(try simp only[YAA,YAD,YAE,YAC]at hb);simp only[hb,AV.norm,AV.zQg,W2,W2P,W2E,↓zaL,↓zHC,WZ,reduceIte,yA,yB,yC,yD,reduceCtorEq,yE,yF,W1,W1P,W1E,W5,e7,e9,z1];rfl))
   |(apply zIt (c1);(· intro hb;(try simp only[YAA,YAD,YAE,YAC]at hb);simp only[hb,AV.norm,AV.zQg,W2,W2P,W2E,↓zaL,↓zHC,WZ,reduceIte,yA,yB,yC,yD,reduceCtorEq,yE,yF,W1,W1P,W1E,W5,e7,e9,z1];rfl))
   |(apply zIt (qw);(· intro hb;(try simp only[YAA,YAD,YAE,YAC]at hb);simp only[hb,AV.norm,AV.zQg,W2,W2P,W2E,↓zaL,↓zHC,WZ,reduceIte,yA,yB,yC,yD,reduceCtorEq,yE,yF,W1,W1P,W1E,W5,e7,e9,z1];rfl))
   |(with_reducible first|apply bA|apply bB|apply bC|apply bD|apply bE|apply bF)<;>intro h<;>try simp only[h,↓zaL,↓zHC,WZ,reduceIte,yA,yB,yC,yD,reduceCtorEq,yE,yF,W1,W1P,W1E,W5,e7,e9,z1]
   |((first|apply bG|apply bH);simp only[AV.norm,AV.zQg,W2,W2P,W2E,e7,e9,z1];first|refine zIf (q1) (.inl rfl) ?_|refine zIf (q2) (.inl rfl) ?_|refine zIf (qr) (.inl rfl) ?_|refine zIf (qt2) (.inl rfl) ?_|refine zIf (c1) (.inl rfl) ?_|refine zIf (qw) (.inl rfl) ?_|refine zIj (q1) (.inl rfl) ?_|refine zIj (q2) (.inl rfl) ?_|refine zIj (qr) (.inl rfl) ?_|refine zIj (qt2) (.inl rfl) ?_|refine zIj (c1) (.inl rfl) ?_|refine zIj (qw) (.inl rfl) ?_)
   |refine zKg (id:=6) C_ok (fun _=>trivial) mixed 0 Try.f16.ntmps rfl (by kernel_rfl) (by decide) ?_
   |refine zKg (id:=10) C_ok (fun _=>trivial) mixed 0 Try.f16.ntmps rfl (by kernel_rfl) (by decide) ?_
   |refine zKg (id:=11) C_ok (fun _=>trivial) mixed 0 Try.f16.ntmps rfl (by kernel_rfl) (by decide) ?_
   |refine zKg (id:=12) C_ok (fun _=>trivial) mixed 0 Try.f16.ntmps rfl (by kernel_rfl) (by decide) ?_
   |refine zKg (id:=17) C_ok (fun _=>trivial) mixed 0 Try.f16.ntmps rfl (by kernel_rfl) (by decide) ?_
   |refine zKg (id:=18) C_ok (fun _=>trivial) mixed 0 Try.f16.ntmps rfl (by kernel_rfl) (by decide) ?_
   |simp only[↓zaL,↓zHC,WZ,reduceIte,yA,yB,yC,yD,reduceCtorEq,yE,yF,W1,W1P,W1E,W5,e7,e9,z1]
 |true=>
 rw[hc]at qr
 have hc9:chkP (zci 9 p q)=true:=by rw[zdL,hc]
 have c2:=bind_ok p t (by omega)
 have c3:=bind_ok q u (by omega)
 have c4:=bind_ok q (zNW t) (by omega)
 have c5:=bind_ok (zci 9 p q) (zNW t) hsz9
 have c6:=bind_ok (zci 7 p q) (twoT 9 t u) hsz
 have m1:=zRt p (by omega)
 have m2:=zRt q (by omega)
 have m3:=zRt (zci 7 p q) hsz
 have m4:=zYR (zPr p++zPr q)
 have l1:=zPp p []
 have l2:=zPp q []
 rw[zdN (by decide)]at m3
 rw[List.map_append]at m3 m4
 rw[zdG hc r7,zdK]at c1
 rw[zdG a3 a4]at c2
 rw[zdG b3 b4]at c3
 rw[zdG b3 rl]at c4
 rw[zdG hc9 rl,zdI]at c5
 rw[zdG hc r9,zdJ]at c6
 have k1:=fun L h=>(zDr p (zRK a3) t [] L h).2
 have k2:=fun L h=>(zDr q (zRK b3) u [] L h).2
 have k3:=fun L h=>(zDr q (zRK b3) (zNW t) [] L h).2
 simp only[List.length_nil,Nat.zero_add]at k1 k2 k3 l1 l2
 change (zPr p).length<=_ at l1
 change (zPr q).length<=_ at l2
 have f1:∀A,zDo p t []=some A->zPr p=A.map Prod.fst:=fun A h=>zdH p (zRK a3) t [] A h
 have f2:∀A,zDo q u []=some A->zPr q=A.map Prod.fst:=fun A h=>zdH q (zRK b3) u [] A h
 generalize zDo p t []=A at*
 generalize zDo q u []=B at*
 generalize zDo q (zNW t) []=D at*
 generalize zPr p=N1 at*
 generalize zPr q=N2 at*
 unfold bdA at c1 c2 c3 c4 c5 c6
 have qe1:=zcB ((A.getD [])++(B.getD []))
 have qe2:=zcB ((A.getD [])++(D.getD []))
 have hmax1:∀L,A=some L->(L.length<=9223372036854775806)=True:=fun L h=>by have:=k1 L h;simp only[YAb,iff_true];omega
 have hk:((A=none/\(N1=[]/\N2=[]\/N1=[]/\(∃n l,N2=n::l)\/∃n l,N1=n::l))\/
  (A=some []/\N1=[]/\((B=none/\(N2=[]\/∃n l,N2=n::l))\/(B=some []/\N2=[])\/∃b l n l',B=some (b::l)/\N2=n::l')/\(D=none\/D=some []\/∃b l,D=some (b::l)))\/
  ∃a l n l',A=some (a::l)/\N1=n::l'/\(B=none\/∃l,B=some l)/\(D=none\/∃l,D=some l)):=by
  rcases A with _|(_|⟨a,A⟩)
  ·refine .inl ⟨rfl,?_⟩
   rcases N1 with _|⟨n,N1⟩
   ·rcases N2 with _|⟨n,N2⟩
    ·exact .inl ⟨rfl,rfl⟩
    ·exact .inr (.inl ⟨rfl,_,_,rfl⟩)
   ·exact .inr (.inr ⟨_,_,rfl⟩)
  ·refine .inr (.inl ⟨rfl,f1 _ rfl,?_,?_⟩)
   ·rcases B with _|(_|⟨b,B⟩)
    ·refine .inl ⟨rfl,?_⟩
     rcases N2 with _|⟨n,N2⟩
     ·exact .inl rfl
     ·exact .inr ⟨_,_,rfl⟩
    ·exact .inr (.inl ⟨rfl,f2 _ rfl⟩)
    ·exact .inr (.inr ⟨b,B,_,_,rfl,f2 _ rfl⟩)
   ·rcases D with _|(_|⟨d,D⟩)
    ·exact .inl rfl
    ·exact .inr (.inl rfl)
    ·exact .inr (.inr ⟨_,_,rfl⟩)
  ·refine .inr (.inr ⟨a,A,_,_,rfl,f1 _ rfl,?_,?_⟩)
   ·cases B
    ·exact .inl rfl
    ·exact .inr ⟨_,rfl⟩
   ·cases D
    ·exact .inl rfl
    ·exact .inr ⟨_,rfl⟩
 clear f1 f2
 have kA:∀L,A=some L->L.length<=401:=fun L h=>by have:=k1 L h;omega
 have kB:∀L,B=some L->L.length<=401:=fun L h=>by have:=k2 L h;omega
 have kD:∀L,D=some L->L.length<=401:=fun L h=>by have:=k3 L h;omega
 clear k1 k2 k3 hmax1
 have kM:N1.length<=401/\N2.length<=401:=by omega
 clear qw a1 a2 a3 a4 b1 b2 b3 b4 n1 n2 r7 r9 rl hc hc9 l1 l2 s1 s2 hsz hsz9
 have qw:=zao
 generalize zci 7 p q=P7 at*
 generalize zci 9 p q=P9 at*
 generalize twoT 7 t u=U7 at*
 generalize twoT 9 t u=U9 at*
 generalize zNW t=UL at*
 refine zSa C_ok Try.func16 rfl (by decide) (YAL rfl) (by decide) rfl fun ok H=> ?_
 rw[Try.results16]
 repeat' first
  |(apply zJn (fun _ _=>rfl);(· intro hb;(try simp only[YAA,YAD,YAE,YAC]at hb);simp only[hb,↓zaL,↓zHC,WZ,reduceIte,yA,yB,yC,yD,reduceCtorEq,yE,yF,W1,W1P,W1E,W5,e7,e9];exact⟨rfl,trivial⟩))
  |(apply zJi (q1);(· intro hb;(try simp only[YAA,YAD,YAE,YAC]at hb);simp only[hb,AV.norm,AV.zQg,W2,W2P,W2E,↓zaL,↓zHC,WZ,reduceIte,yA,yB,yC,yD,reduceCtorEq,yE,yF,W1,W1P,W1E,W5,e7,e9];rfl))
  |(apply zJi (q2);(· intro hb;(try simp only[YAA,YAD,YAE,YAC]at hb);simp only[hb,AV.norm,AV.zQg,W2,W2P,W2E,↓zaL,↓zHC,WZ,reduceIte,yA,yB,yC,yD,reduceCtorEq,yE,yF,W1,W1P,W1E,W5,e7,e9];rfl))
  |(apply zJi (qr);(· intro hb;(try simp only[YAA,YAD,YAE,YAC]at hb);simp only[hb,AV.norm,AV.zQg,W2,W2P,W2E,↓zaL,↓zHC,WZ,reduceIte,yA,yB,yC,yD,reduceCtorEq,yE,yF,W1,W1P,W1E,W5,e7,e9];rfl))
  |(apply zJi (qt2);(· intro hb;(try simp only[YAA,YAD,YAE,YAC]at hb);simp only[hb,AV.norm,AV.zQg,W2,W2P,W2E,↓zaL,↓zHC,WZ,reduceIte,yA,yB,yC,yD,reduceCtorEq,yE,yF,W1,W1P,W1E,W5,e7,e9];rfl))
  |(apply zJi (ql);(· intro hb;(try simp only[YAA,YAD,YAE,YAC]at hb);simp only[hb,AV.norm,AV.zQg,W2,W2P,W2E,↓zaL,↓zHC,WZ,reduceIte,yA,yB,yC,yD,reduceCtorEq,yE,yF,W1,W1P,W1E,W5,e7,e9];rfl))
  |(apply zJi (c2);(· intro hb;(try simp only[YAA,YAD,YAE,YAC]at hb);simp only[hb,AV.norm,AV.zQg,W2,W2P,W2E,↓zaL,↓zHC,WZ,reduceIte,yA,yB,yC,yD,reduceCtorEq,yE,yF,W1,W1P,W1E,W5,e7,e9];rfl))
  |(apply zJi (c3);(· intro hb;(try simp only[YAA,YAD,YAE,YAC]at hb);simp only[hb,AV.norm,AV.zQg,W2,W2P,W2E,↓zaL,↓zHC,WZ,reduceIte,yA,yB,yC,yD,reduceCtorEq,yE,yF,W1,W1P,W1E,W5,e7,e9];rfl))
  |(apply zJi (c1);(· intro hb;(try simp only[YAA,YAD,YAE,YAC]at hb);simp only[hb,AV.norm,AV.zQg,W2,W2P,W2E,↓zaL,↓zHC,WZ,reduceIte,yA,yB,yC,yD,reduceCtorEq,yE,yF,W1,W1P,W1E,W5,e7,e9];rfl))
  |(apply zJi (c4);(· intro hb;(try simp only[YAA,YAD,YAE,YAC]at hb);simp only[hb,AV.norm,AV.zQg,W2,W2P,W2E,↓zaL,↓zHC,WZ,reduceIte,yA,yB,yC,yD,reduceCtorEq,yE,yF,W1,W1P,W1E,W5,e7,e9];rfl))
  |(apply zIy (fun _ _=>rfl);(· intro hb;(try simp only[YAA,YAD,YAE,YAC]at hb);simp only[hb,↓zaL,↓zHC,WZ,reduceIte,yA,yB,yC,yD,reduceCtorEq,yE,yF,W1,W1P,W1E,W5,e7,e9];exact⟨rfl,trivial⟩))
  |(apply zIt (q1);(· intro hb;(try simp only[YAA,YAD,YAE,YAC]at hb);simp only[hb,AV.norm,AV.zQg,W2,W2P,W2E,↓zaL,↓zHC,WZ,reduceIte,yA,yB,yC,yD,reduceCtorEq,yE,yF,W1,W1P,W1E,W5,e7,e9];rfl))
  |(apply zIt (q2);(· intro hb;(try simp only[YAA,YAD,YAE,YAC]at hb);simp only[hb,AV.norm,AV.zQg,W2,W2P,W2E,↓zaL,↓zHC,WZ,reduceIte,yA,yB,yC,yD,reduceCtorEq,yE,yF,W1,W1P,W1E,W5,e7,e9];rfl))
  |(apply zIt (qr);(· intro hb;(try simp only[YAA,YAD,YAE,YAC]at hb);simp only[hb,AV.norm,AV.zQg,W2,W2P,W2E,↓zaL,↓zHC,WZ,reduceIte,yA,yB,yC,yD,reduceCtorEq,yE,yF,W1,W1P,W1E,W5,e7,e9];rfl))
  |(apply zIt (qt2);(· intro hb;(try simp only[YAA,YAD,YAE,YAC]at hb);simp only[hb,AV.norm,AV.zQg,W2,W2P,W2E,↓zaL,↓zHC,WZ,reduceIte,yA,yB,yC,yD,reduceCtorEq,yE,yF,W1,W1P,W1E,W5,e7,e9];rfl))
  |(apply zIt (ql);(· intro hb;(try simp only[YAA,YAD,YAE,YAC]at hb);simp only[hb,AV.norm,AV.zQg,W2,W2P,W2E,↓zaL,↓zHC,WZ,reduceIte,yA,yB,yC,yD,reduceCtorEq,yE,yF,W1,W1P,W1E,W5,e7,e9];rfl))
  |(apply zIt (c2);(· intro hb;(try simp only[YAA,YAD,YAE,YAC]at hb);simp only[hb,AV.norm,AV.zQg,W2,W2P,W2E,↓zaL,↓zHC,WZ,reduceIte,yA,yB,yC,yD,reduceCtorEq,yE,yF,W1,W1P,W1E,W5,e7,e9];rfl))
  |(apply zIt (c3);(· intro hb;(try simp only[YAA,YAD,YAE,YAC]at hb);simp only[hb,AV.norm,AV.zQg,W2,W2P,W2E,↓zaL,↓zHC,WZ,reduceIte,yA,yB,yC,yD,reduceCtorEq,yE,yF,W1,W1P,W1E,W5,e7,e9];rfl))
  |(apply zIt (c1);(· intro hb;(try simp only[YAA,YAD,YAE,YAC]at hb);simp only[hb,AV.norm,AV.zQg,W2,W2P,W2E,↓zaL,↓zHC,WZ,reduceIte,yA,yB,yC,yD,reduceCtorEq,yE,yF,W1,W1P,W1E,W5,e7,e9];rfl))
  |(apply zIt (c4);(· intro hb;(try simp only[YAA,YAD,YAE,YAC]at hb);simp only[hb,AV.norm,AV.zQg,W2,W2P,W2E,↓zaL,↓zHC,WZ,reduceIte,yA,yB,yC,yD,reduceCtorEq,yE,yF,W1,W1P,W1E,W5,e7,e9];rfl))
  |(with_reducible first|apply bA|apply bB|apply bC|apply bD|apply bE|apply bF)<;>intro h<;>try simp only[h,↓zaL,↓zHC,WZ,reduceIte,yA,yB,yC,yD,reduceCtorEq,yE,yF,W1,W1P,W1E,W5,e7,e9]
  |((first|apply bG|apply bH);simp only[AV.norm,AV.zQg,W2,W2P,W2E,e7,e9];first|refine zIf (q1) (.inl rfl) ?_|refine zIf (q2) (.inl rfl) ?_|refine zIf (qr) (.inl rfl) ?_|refine zIf (qt2) (.inl rfl) ?_|refine zIf (ql) (.inl rfl) ?_|refine zIf (c2) (.inl rfl) ?_|refine zIf (c3) (.inl rfl) ?_|refine zIf (c1) (.inl rfl) ?_|refine zIf (c4) (.inl rfl) ?_|refine zIj (q1) (.inl rfl) ?_|refine zIj (q2) (.inl rfl) ?_|refine zIj (qr) (.inl rfl) ?_|refine zIj (qt2) (.inl rfl) ?_|refine zIj (ql) (.inl rfl) ?_|refine zIj (c2) (.inl rfl) ?_|refine zIj (c3) (.inl rfl) ?_|refine zIj (c1) (.inl rfl) ?_|refine zIj (c4) (.inl rfl) ?_)
  |refine zKg (id:=6) C_ok (fun _=>trivial) mixed 0 Try.f16.ntmps rfl (by kernel_rfl) (by decide) ?_
  |refine zKg (id:=10) C_ok (fun _=>trivial) mixed 0 Try.f16.ntmps rfl (by kernel_rfl) (by decide) ?_
  |refine zKg (id:=11) C_ok (fun _=>trivial) mixed 0 Try.f16.ntmps rfl (by kernel_rfl) (by decide) ?_
  |refine zKg (id:=12) C_ok (fun _=>trivial) mixed 0 Try.f16.ntmps rfl (by kernel_rfl) (by decide) ?_
  |refine zKg (id:=17) C_ok (fun _=>trivial) mixed 0 Try.f16.ntmps rfl (by kernel_rfl) (by decide) ?_
  |refine zKg (id:=18) C_ok (fun _=>trivial) mixed 0 Try.f16.ntmps rfl (by kernel_rfl) (by decide) ?_
  |simp only[↓zaL,↓zHC,WZ,reduceIte,yA,yB,yC,yD,reduceCtorEq,yE,yF,W1,W1P,W1E,W5,e7,e9]
 rcases hk with ⟨rfl,⟨rfl,rfl⟩|⟨rfl,n2,k2,rfl⟩|⟨n1,k1,rfl⟩⟩|⟨rfl,rfl,(⟨rfl,rfl|⟨n2,k2,rfl⟩⟩|⟨rfl,rfl⟩|⟨b,lB,n2,k2,rfl,rfl⟩),(rfl|rfl|⟨d,lD,rfl⟩)⟩|⟨a,lA,n1,k1,rfl,rfl,(rfl|⟨lB,rfl⟩),(rfl|⟨lD,rfl⟩)⟩
 all_goals
  simp only[Option.bind_none,Option.bind_some,Option.map_none,Option.map_some,Option.getD_none,Option.getD_some,Option.isSome_none,Option.isSome_some,if_true,if_false,YAB,List.map_nil,List.map_cons,List.map_append,List.nil_append,List.cons_append,List.append_nil]at c5 c6 m1 m2 m3 m4 qe1 qe2⊢
  first|have kA:=kA _ rfl|skip
  first|have kB:=kB _ rfl|skip
  first|have kD:=kD _ rfl|skip
  first|have w1:=rm14 k1.length (by have:=kM.1;simp only[List.length_cons]at this;omega)|have w1:=YAN
  first|have w2:=rm14 k2.length (by have:=kM.2;simp only[List.length_cons]at this;omega)|have w2:=YAN
  first|have w3:=rm14 lA.length (by simp only[List.length_cons]at kA;omega)|have w3:=YAN
  first|have w4:=rm14 lB.length (by simp only[List.length_cons]at kB;omega)|have w4:=YAN
  first|have w5:=rm14 lD.length (by simp only[List.length_cons]at kD;omega)|have w5:=YAN
  first|have w6:=rs14 k1.length N2.length (by have:=kM.1;simp only[List.length_cons]at this;omega) kM.2|have w6:=YAN
  first|have w7:=rs14 lA.length lB.length (by simp only[List.length_cons]at kA;omega) kB|have w7:=YAN
  first|have w8:=rs14 lA.length lD.length (by simp only[List.length_cons]at kA;omega) kD|have w8:=YAN
  have h:=YAN
  repeat' (first
   |(with_reducible first|apply bA|apply bB|apply bC|apply bD|apply bE|apply bF)<;>intro h
   |((first|apply bG|apply bH);simp only[AV.norm,AV.zQg,W2,W2P,W2E,e7,e9,w1,w2,w3,w4,w5,w6,w7,w8,zdF,zdE,zdM,z0,z4,z44,zXu,zdT,zdS,zCJ,YAK,List.length_cons,YAJ];first|refine zIf (c5) (.inl rfl) ?_|refine zIf (qt9) (.inl rfl) ?_|refine zIf (c6) (.inl rfl) ?_|refine zIf (m1) (.inl rfl) ?_|refine zIf (m2) (.inl rfl) ?_|refine zIf (m3) (.inl rfl) ?_|refine zIf (m4) (.inl rfl) ?_|refine zIf (qe1) (.inl rfl) ?_|refine zIf (qe2) (.inl rfl) ?_|refine zIf (qw) (.inl rfl) ?_|refine zIj (c5) (.inl rfl) ?_|refine zIj (qt9) (.inl rfl) ?_|refine zIj (c6) (.inl rfl) ?_|refine zIj (m1) (.inl rfl) ?_|refine zIj (m2) (.inl rfl) ?_|refine zIj (m3) (.inl rfl) ?_|refine zIj (m4) (.inl rfl) ?_|refine zIj (qe1) (.inl rfl) ?_|refine zIj (qe2) (.inl rfl) ?_|refine zIj (qw) (.inl rfl) ?_)
   |refine zKg (id:=6) C_ok (fun _=>trivial) mixed 0 Try.f16.ntmps rfl (by kernel_rfl) (by decide) ?_
   |refine zKg (id:=10) C_ok (fun _=>trivial) mixed 0 Try.f16.ntmps rfl (by kernel_rfl) (by decide) ?_
   |refine zKg (id:=11) C_ok (fun _=>trivial) mixed 0 Try.f16.ntmps rfl (by kernel_rfl) (by decide) ?_
   |refine zKg (id:=12) C_ok (fun _=>trivial) mixed 0 Try.f16.ntmps rfl (by kernel_rfl) (by decide) ?_
   |refine zKg (id:=17) C_ok (fun _=>trivial) mixed 0 Try.f16.ntmps rfl (by kernel_rfl) (by decide) ?_
   |refine zKg (id:=18) C_ok (fun _=>trivial) mixed 0 Try.f16.ntmps rfl (by kernel_rfl) (by decide) ?_
   |skip)<;>simp only[h,↓zaL,↓zHC,WZ,reduceIte,yA,yB,yC,yD,reduceCtorEq,yE,yF,W1,W1P,W1E,e7,e9,w1,w2,w3,w4,w5,w6,w7,w8,zdF,zdE,zdM,z0,z4,z44,zXu,zdT,zdS,zCJ,YAK,List.length_cons,YAJ]
end Go.Proofs.Ytdngjamjccjlmaa
