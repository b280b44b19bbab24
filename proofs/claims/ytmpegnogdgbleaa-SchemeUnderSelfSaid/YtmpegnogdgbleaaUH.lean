/- Layer 11: every type is under itself, and what follows. No condition. -/
import Derived.Test.YtmpegnogdgbleaaUG
set_option linter.unusedSimpArgs false
set_option linter.unusedVariables false
set_option maxHeartbeats 4000000
set_option maxRecDepth 100000
namespace Go.Proofs.Ytmpegnogdgbleaa
open Go Go.Ab
open Nat renaming reduceEqDiff -> yA, reduceAdd -> yB, reduceLT -> yC, reduceLeDiff -> yD, reduceMul -> yE, reducePow -> yF, reduceBEq -> yG
open Int renaming reduceAdd -> yH, reduceLT -> yI, reduceToNat -> yJ, reduceBEq -> yK, reduceBNe -> yL, reduceLE -> yM
attribute [local irreducible] zA0 zAA zAa zAi zAj GoIf GoGb zAk GoO GoD GoX GoDX GoG GoDG GoGv zAl Go zAB
theorem zkj(a b c:Ty):zA0 Try.prog 9 [.sl [emb a,emb b,emb c] .no] (.bool (small [a,b,c])):=zWQ [a,b,c]
def few3(a b c:Ty):Bool:=few a b&& !decide (((cnt6 c 0:Nat):Int)>60)
theorem ziM(a b c:Ty):zA0 Try.prog 10 [.sl [emb a,emb b,emb c] .no] (.bool (few3 a b c)):=by
 have q1:=ziH a 0 (by decide)
 have q2:=ziH b 0 (by decide)
 have q3:=ziH c 0 (by decide)
 unfold few3 few
 generalize cnt6 a 0=x at*
 generalize cnt6 b 0=y at*
 generalize cnt6 c 0=z at*
 simp only[Int.natCast_zero]at q1 q2 q3
 refine zSa C_ok Try.func10 rfl (by decide) (YAL rfl) (by decide) rfl fun ok H=> ?_
 rw[Try.results10]
 by_cases h1:((x:Int)>60)
 ·have e1:((x:Int)>60)=True:=by simp only[YAb,iff_true];exact h1
  have h:=YAN
  repeat' (first
   |(with_reducible first|apply bA|apply bB|apply bC|apply bD|apply bE|apply bF)<;>intro h
   |((first|apply bG|apply bH);simp only[AV.norm,AV.zQg,W2,W2B,W3,yH,yI,yJ,yK,yL,yM,e1,decide_true,Bool.not_true,Bool.false_and];first|refine zIf (q1) (.inl rfl) ?_|refine zIf (q2) (.inl rfl) ?_|refine zIf (q3) (.inl rfl) ?_|refine zIj (q1) (.inl rfl) ?_|refine zIj (q2) (.inl rfl) ?_|refine zIj (q3) (.inl rfl) ?_)
   |refine zJ9 ?_ C_ok Try.f10.ntmps rfl (by decide)
   |skip)<;>simp only[h,↓zaL,↓zHC,WZ,reduceIte,yA,yB,yC,yD,reduceCtorEq,yE,yF,W1,W1B,W3,yH,yI,yJ,yK,yL,yM,e1,decide_true,Bool.not_true,Bool.false_and,zFY]
 have e1:((x:Int)>60)=False:=by simp only[YAb,iff_false];exact h1
 by_cases h2:((y:Int)>60)
 ·have e2:((y:Int)>60)=True:=by simp only[YAb,iff_true];exact h2
  have h:=YAN
  repeat' (first
   |(with_reducible first|apply bA|apply bB|apply bC|apply bD|apply bE|apply bF)<;>intro h
   |((first|apply bG|apply bH);simp only[AV.norm,AV.zQg,W2,W2B,W3,yH,yI,yJ,yK,yL,yM,e1,e2,decide_true,decide_false,Bool.not_true,Bool.not_false,Bool.true_and,Bool.false_and];first|refine zIf (q1) (.inl rfl) ?_|refine zIf (q2) (.inl rfl) ?_|refine zIf (q3) (.inl rfl) ?_|refine zIj (q1) (.inl rfl) ?_|refine zIj (q2) (.inl rfl) ?_|refine zIj (q3) (.inl rfl) ?_)
   |refine zJ9 ?_ C_ok Try.f10.ntmps rfl (by decide)
   |skip)<;>simp only[h,↓zaL,↓zHC,WZ,reduceIte,yA,yB,yC,yD,reduceCtorEq,yE,yF,W1,W1B,W3,yH,yI,yJ,yK,yL,yM,e1,e2,decide_true,decide_false,Bool.not_true,Bool.not_false,Bool.true_and,Bool.false_and,zFY]
 have e2:((y:Int)>60)=False:=by simp only[YAb,iff_false];exact h2
 by_cases h3:((z:Int)>60)
 ·have e3:((z:Int)>60)=True:=by simp only[YAb,iff_true];exact h3
  have h:=YAN
  repeat' (first
   |(with_reducible first|apply bA|apply bB|apply bC|apply bD|apply bE|apply bF)<;>intro h
   |((first|apply bG|apply bH);simp only[AV.norm,AV.zQg,W2,W2B,W3,yH,yI,yJ,yK,yL,yM,e1,e2,e3,decide_true,decide_false,Bool.not_true,Bool.not_false,Bool.true_and];first|refine zIf (q1) (.inl rfl) ?_|refine zIf (q2) (.inl rfl) ?_|refine zIf (q3) (.inl rfl) ?_|refine zIj (q1) (.inl rfl) ?_|refine zIj (q2) (.inl rfl) ?_|refine zIj (q3) (.inl rfl) ?_)
   |refine zJ9 ?_ C_ok Try.f10.ntmps rfl (by decide)
   |skip)<;>simp only[h,↓zaL,↓zHC,WZ,reduceIte,yA,yB,yC,yD,reduceCtorEq,yE,yF,W1,W1B,W3,yH,yI,yJ,yK,yL,yM,e1,e2,e3,decide_true,decide_false,Bool.not_true,Bool.not_false,Bool.true_and,zFY]
 ·have e3:((z:Int)>60)=False:=by simp only[YAb,iff_false];exact h3
  have h:=YAN
  repeat' (first
   |(with_reducible first|apply bA|apply bB|apply bC|apply bD|apply bE|apply bF)<;>intro h
   |((first|apply bG|apply bH);simp only[AV.norm,AV.zQg,W2,W2B,W3,yH,yI,yJ,yK,yL,yM,e1,e2,e3,decide_true,decide_false,Bool.not_true,Bool.not_false,Bool.true_and];first|refine zIf (q1) (.inl rfl) ?_|refine zIf (q2) (.inl rfl) ?_|refine zIf (q3) (.inl rfl) ?_|refine zIj (q1) (.inl rfl) ?_|refine zIj (q2) (.inl rfl) ?_|refine zIj (q3) (.inl rfl) ?_)
   |refine zJ9 ?_ C_ok Try.f10.ntmps rfl (by decide)
   |skip)<;>simp only[h,↓zaL,↓zHC,WZ,reduceIte,yA,yB,yC,yD,reduceCtorEq,yE,yF,W1,W1B,W3,yH,yI,yJ,yK,yL,yM,e1,e2,e3,decide_true,decide_false,Bool.not_true,Bool.not_false,Bool.true_and,zFY]
theorem zkT(t u w:Ty):zA0 Try.prog 8 [emb t,emb u,emb w] (.bool true):=by
 cases hv:small [t,u,w]with
 |false=>
  refine zSa C_ok Try.func8 rfl (by decide) (YAL rfl) (by decide) rfl fun ok H=> ?_
  rw[Try.results8]
  have h:=YAN
  repeat' (first
   |(with_reducible first|apply bA|apply bB|apply bC|apply bD|apply bE|apply bF)<;>intro h
   |((first|apply bG|apply bH);simp only[AV.norm,AV.zQg,W2,W2B,hv,hv,YAK];first|refine zIf (zkj _ _ _) (.inl rfl) ?_|refine zIf (ziM _ _ _) (.inl rfl) ?_|refine zIf (ziQ _ _ _) (.inl rfl) ?_|refine zIj (zkj _ _ _) (.inl rfl) ?_|refine zIj (ziM _ _ _) (.inl rfl) ?_|refine zIj (ziQ _ _ _) (.inl rfl) ?_)
   |refine zKg (id:=5) C_ok (fun _=>trivial) mixed 0 Try.f8.ntmps rfl (by kernel_rfl) (by decide) ?_
   |skip)<;>simp only[h,↓zaL,↓zHC,WZ,reduceIte,yA,yB,yC,yD,reduceCtorEq,yE,yF,W1,W1B,hv,hv,YAK]
 |true=>
 have na:=zkd hv (t:=t) (by simp)
 have nb:=zkd hv (t:=u) (by simp)
 have nc:=zkd hv (t:=w) (by simp)
 cases hw:few3 t u w with
 |false=>
  refine zSa C_ok Try.func8 rfl (by decide) (YAL rfl) (by decide) rfl fun ok H=> ?_
  rw[Try.results8]
  have h:=YAN
  repeat' (first
   |(with_reducible first|apply bA|apply bB|apply bC|apply bD|apply bE|apply bF)<;>intro h
   |((first|apply bG|apply bH);simp only[AV.norm,AV.zQg,W2,W2B,hv,hw,YAK];first|refine zIf (zkj _ _ _) (.inl rfl) ?_|refine zIf (ziM _ _ _) (.inl rfl) ?_|refine zIf (ziQ _ _ _) (.inl rfl) ?_|refine zIj (zkj _ _ _) (.inl rfl) ?_|refine zIj (ziM _ _ _) (.inl rfl) ?_|refine zIj (ziQ _ _ _) (.inl rfl) ?_)
   |refine zKg (id:=5) C_ok (fun _=>trivial) mixed 0 Try.f8.ntmps rfl (by kernel_rfl) (by decide) ?_
   |skip)<;>simp only[h,↓zaL,↓zHC,WZ,reduceIte,yA,yB,yC,yD,reduceCtorEq,yE,yF,W1,W1B,hv,hw,YAK]
 |true=>
 cases hf:fine [t,u,w]with
 |false=>
  refine zSa C_ok Try.func8 rfl (by decide) (YAL rfl) (by decide) rfl fun ok H=> ?_
  rw[Try.results8]
  have h:=YAN
  repeat' (first
   |(with_reducible first|apply bA|apply bB|apply bC|apply bD|apply bE|apply bF)<;>intro h
   |((first|apply bG|apply bH);simp only[AV.norm,AV.zQg,W2,W2B,hv,hw,hf,YAK];first|refine zIf (zkj _ _ _) (.inl rfl) ?_|refine zIf (ziM _ _ _) (.inl rfl) ?_|refine zIf (ziQ _ _ _) (.inl rfl) ?_|refine zIj (zkj _ _ _) (.inl rfl) ?_|refine zIj (ziM _ _ _) (.inl rfl) ?_|refine zIj (ziQ _ _ _) (.inl rfl) ?_)
   |refine zKg (id:=5) C_ok (fun _=>trivial) mixed 0 Try.f8.ntmps rfl (by kernel_rfl) (by decide) ?_
   |skip)<;>simp only[h,↓zaL,↓zHC,WZ,reduceIte,yA,yB,yC,yD,reduceCtorEq,yE,yF,W1,W1B,hv,hw,hf,YAK]
 |true=>
 have r1:∀y∈[t,u,w],right y=true:=by
  simp only[fine,YAA]at hf
  exact fun y hy=>zTw hf.2 hy
 obtain⟨x,rfl,hx⟩:=T.zRB (r1 t (by simp))
 obtain⟨y,rfl,hy⟩:=T.zRB (r1 u (by simp))
 obtain⟨z,rfl,hz⟩:=T.zRB (r1 w (by simp))
 rw[zQb]at na nb nc
 have k1:=zcu x.ty 5
 rw[zdC]at k1
 obtain⟨L,qm⟩:=zjc hx hy
 have km:=zcZ x.ty y.ty (by rw[zQb];omega)
 rw[qm]at km
 have u1:=zlH hx hx (by omega) (UndT.self x)
 obtain⟨r,hr,u2⟩:=zk9 x y hx hy (by omega)
 obtain⟨r',hr',u3⟩:=zk9 x z hx hz (by omega)
 obtain⟨r0,hr0,u4⟩:=zk9 (.var 0) x rfl hx (by simp only[T.size];omega)
 have kv:=v_ok 0
 have vt:Ty.mk 6 0 []=(T.var 0).ty:=rfl
 rw[vt]at kv
 have k2:=zcu y.ty 6
 have k3:=zcu z.ty 6
 rw[T.zEw]at k2 k3
 have kb:=zj1 y.ty z.ty
 rw[T.zT5,T.zT5,hy,hz,T.zh2,Bool.true_and,Bool.true_and]at kb
 have em:(zO6 x y []).isSome=true->r=true:=fun h=>by
  obtain⟨l,hl⟩:=Option.isSome_iff_exists.1 h
  exact hr.2 (zlB hx hy hl)
 have es:x.stat=true->r0=true:=fun h=>hr0.2 (zlG h 0)
 have ec:y.closed=true->z.closed=true->r=true->zDd y z=true->r'=true:=fun h1 h2 h3 h4=>hr'.2 (zlF h1 h2 (hr.1 h3) h4)
 clear hr hr' hr0 qm na nb nc hx hy hz r1 vt
 generalize (zO6 x y []).isSome=mo at*
 generalize x.stat=st at*
 generalize y.closed=cb at*
 generalize z.closed=cc at*
 generalize zDd y z=be at*
 generalize x.ty=t at*
 generalize y.ty=u at*
 generalize z.ty=w at*
 generalize (T.var 0).ty=v0 at*
 have h1:(mo=true/\r=true)\/mo=false:=by
  cases mo
  ·exact .inr rfl
  ·exact .inl ⟨rfl,em rfl⟩
 have h2:(st=true/\r0=true)\/st=false:=by
  cases st
  ·exact .inr rfl
  ·exact .inl ⟨rfl,es rfl⟩
 have h3:cb=false\/(cb=true/\cc=false)\/(cb=true/\cc=true/\r=false)\/(cb=true/\cc=true/\r=true/\be=false)\/(cb=true/\cc=true/\r=true/\be=true/\r'=true):=by
  cases cb<;>cases cc<;>cases r<;>cases be<;>simp_all
 clear em es ec
 rcases h1 with ⟨rfl,rfl⟩|rfl<;>rcases h2 with ⟨rfl,rfl⟩|rfl<;>rcases h3 with rfl|⟨rfl,rfl⟩|⟨rfl,rfl,h4⟩|⟨rfl,rfl,h4,rfl⟩|⟨rfl,rfl,h4,rfl,rfl⟩
 all_goals try (exfalso;revert h4;simp;done)
 all_goals
  try subst h4
  refine zSa C_ok Try.func8 rfl (by decide) (YAL rfl) (by decide) rfl fun ok H=> ?_
  rw[Try.results8]
  have h:=YAN
  repeat' (first
   |(with_reducible first|apply bA|apply bB|apply bC|apply bD|apply bE|apply bF)<;>intro h
   |((first|apply bG|apply bH);simp only[AV.norm,AV.zQg,W2,W2B,hv,hw,hf,YAK,zOZ,YAO];first|refine zIf (zkj _ _ _) (.inl rfl) ?_|refine zIf (ziM _ _ _) (.inl rfl) ?_|refine zIf (ziQ _ _ _) (.inl rfl) ?_|refine zIf (k1) (.inl rfl) ?_|refine zIf (km) (.inl rfl) ?_|refine zIf (u1) (.inl rfl) ?_|refine zIf (u2) (.inl rfl) ?_|refine zIf (u3) (.inl rfl) ?_|refine zIf (u4) (.inl rfl) ?_|refine zIf (kv) (.inl rfl) ?_|refine zIf (k2) (.inl rfl) ?_|refine zIf (k3) (.inl rfl) ?_|refine zIf (kb) (.inl rfl) ?_|refine zIf (zlO) (.inl rfl) ?_|refine zIj (zkj _ _ _) (.inl rfl) ?_|refine zIj (ziM _ _ _) (.inl rfl) ?_|refine zIj (ziQ _ _ _) (.inl rfl) ?_|refine zIj (k1) (.inl rfl) ?_|refine zIj (km) (.inl rfl) ?_|refine zIj (u1) (.inl rfl) ?_|refine zIj (u2) (.inl rfl) ?_|refine zIj (u3) (.inl rfl) ?_|refine zIj (u4) (.inl rfl) ?_|refine zIj (kv) (.inl rfl) ?_|refine zIj (k2) (.inl rfl) ?_|refine zIj (k3) (.inl rfl) ?_|refine zIj (kb) (.inl rfl) ?_|refine zIj (zlO) (.inl rfl) ?_)
   |refine zKg (id:=5) C_ok (fun _=>trivial) mixed 0 Try.f8.ntmps rfl (by kernel_rfl) (by decide) ?_
   |skip)<;>simp only[h,↓zaL,↓zHC,WZ,reduceIte,yA,yB,yC,yD,reduceCtorEq,yE,yF,W1,W1B,hv,hw,hf,YAK,zOZ,YAO]
end Go.Proofs.Ytmpegnogdgbleaa
