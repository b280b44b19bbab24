/- Lemmas: the laws of stores, first part. No condition. -/
import Derived.Test.YtdngjamjccjlmaaPWc
import Derived.Test.YtdngjamjccjlmaaPFa
set_option linter.unusedSimpArgs false
set_option linter.unusedVariables false
set_option maxHeartbeats 4000000
set_option maxRecDepth 100000
namespace Go.Proofs.Ytdngjamjccjlmaa
open Go Go.Ab
open Nat renaming reduceEqDiff -> yA, reduceAdd -> yB, reduceLT -> yC, reduceLeDiff -> yD, reduceMul -> yE, reducePow -> yF, reduceBEq -> yG
open Int renaming reduceAdd -> yH, reduceLT -> yI, reduceToNat -> yJ, reduceBEq -> yK, reduceBNe -> yL, reduceLE -> yM
section
attribute [local irreducible] zA0 zAA zAa zAi zAj GoIf GoGb zAk GoO GoD GoX GoDX GoG GoDG GoGv zAl Go zAB
theorem zLX(F:List AObj)(v:Nat)(L:Mem)(lim cnt rd:Int)(x y:AObj):hpS (F++ [x,y]) F.length (F.length+1) v L lim cnt rd=F++ [bxS (F.length+1) v L.length lim cnt rd,arS v L]:=by
 unfold hpS stF
 rw[zCX rfl,zCY rfl];rfl
theorem zQH(F:List AObj)(n:Int):∃G s r,s<G.length/\r<G.length/\r≠s/\F.length<=G.length/\G.take F.length=F/\F.length<=s/\F.length<=r/\
 zAd Try.prog 21 [.int .i64 n] F (.bptr s 0) (hpS G s r 4 mem0 (zNK n) 0 0):=by
 refine⟨F++ [.dead,.dead],F.length,F.length+1,by simp,by simp,by omega,by simp,List.take_left' rfl,by omega,by omega,?_⟩
 rw[zLX]
 exact zQD F n
theorem zLW{G:List AObj}{s r v b:Nat}{L:Mem}{lim cnt rd:Int}(hs:b<=s)(hr:b<=r):(hpS G s r v L lim cnt rd).take b=G.take b:=by
 unfold hpS stF
 rw[List.take_set,List.take_set,List.set_eq_of_length_le (by simp;omega),List.set_eq_of_length_le (by simp;omega)]
def wk1:Mem:=mem0++ [varN 2]
def wk2:Mem:=wk1++ [(⟨7,0,none,[5,0]⟩,0)]
def wk3:Mem:=wk2++ [(⟨8,0,none,[5]⟩,0)]
def wk4:Mem:=mkL wk3 1 (wk3.st.all 6)
def wk5:Mem:=zNL wk4 1 5 1
theorem zP7{F G:List AObj}{s r v b:Nat}{L:Mem}{lim cnt rd:Int}(hb:b<=F.length)(hs:F.length<=s)(hr:F.length<=r)(ht:G.take F.length=F)(h:∀x∈F.take b,x.bel b=true):
 ∀x∈(hpS G s r v L lim cnt rd).take b,x.bel b=true:=by
 have e:G.take b=F.take b:=by rw[<-ht,List.take_take,Nat.min_eq_left hb]
 rw[zLW (by omega) (by omega),e];exact h
section
variable {F : List AObj} {s r : Nat}
end
end
section
attribute [local irreducible] zA0 zAA zAa zAi zAj GoIf GoGb zAk GoO GoD GoX GoDX GoG GoDG GoGv zAl Go zAB
section
variable {F : List AObj} {s r v : Nat} {L : Mem} {lim cnt rd : Int}
theorem zea(hs:s<F.length)(hr:r<F.length)(hne:r≠s)(n:Int)(hn:n<0\/(L.length:Int)<=n):zAd Try.prog 32 [.bptr s 0,.int .i64 n] (hpS F s r v L lim cnt rd) (.int .i64 0) (hpS F s r v L lim cnt rd):=by
 unfold zAd
 refine zBN C_ok Try.func32 rfl (by decide) (YAL rfl) (by decide) fun ok=> ?_
 rw[Try.results32]
 have h:=YAN
 repeat' (first
  |(with_reducible first|apply bA|apply bB|apply bC|apply bD|apply bE|apply bF)<;>intro h
  |((first|apply bG|apply bH);simp only[AV.norm,AV.zQg,W2,hpS,bxS,arS,stP hs hr hne,zTh,zTg,AV.bel,zOg];first|refine zIB (zeW hs hr hne hn) (.inl rfl) ?_)
  |refine zKh (id:=3) C_ok (fun _=>trivial) mixed 0 Try.f32.ntmps (by first|(simp;done)|(simp;omega)) rfl (by kernel_rfl) (by decide) ?_
  |skip)<;>simp only[h,↓zaL,↓zHC,WY,reduceIte,yA,yB,yC,yD,reduceCtorEq,yE,yF,W1,WS,hpS,bxS,arS,stP hs hr hne,zTh,zTg,AV.bel,zOg]
end
def limL(k:Nat):Mem:=mem0++(List.range k).map fun j:Nat=>varN (j:Int)
section
variable {F : List AObj} {s r M : Nat} {i : Nat}
end
theorem zXU{F G:List AObj}{s r:Nat}{bx ar:AObj}(hs:F.length<=s)(hr:F.length<=r)(ht:G.take F.length=F):(stF G s r bx ar).take F.length=F:=by
 unfold stF
 rw[List.take_set,List.take_set,List.set_eq_of_length_le (by simp;omega),List.set_eq_of_length_le (by simp;omega),ht]
end
section
attribute [local irreducible] zA0 zAA zAa zAi zAj GoIf GoGb zAk GoO GoD GoX GoDX GoG GoDG GoGv zAl Go zAB
theorem wrapN{a:Nat}{x:Int}(h:x=a)(ha:a<=9000000):IntKind.wrap .i64 x=(a:Int):=by rw[h];exact zbT (by omega) (by omega)
theorem zOM(k n m:Int):zA0 Try.prog 96 [emb (.mk k n []),.int .i64 m] (.int .i64 0):=by
 refine zSa C_ok Try.func96 rfl (by decide) (YAL rfl) (by decide) rfl fun ok H=> ?_
 rw[Try.results96]
 have h:=YAN
 repeat' (first
  |(with_reducible first|apply bA|apply bB|apply bC|apply bD|apply bE|apply bF)<;>intro h
  |refine zJ9 ?_ C_ok Try.f96.ntmps rfl (by decide)
  |skip)<;>simp only[h,↓zaL,↓zHC,WZ,reduceIte,yA,yB,yC,yD,reduceCtorEq,yE,yF,W1,W3,yH,yI,yJ,yK,yL,yM,zFY]
theorem zOO(k n:Int)(x y:Ty){m:Int}(h:m<1):zA0 Try.prog 96 [emb (.mk k n [x,y]),.int .i64 m] (.int .i64 1):=by
 refine zSa C_ok Try.func96 rfl (by decide) (YAL rfl) (by decide) rfl fun ok H=> ?_
 rw[Try.results96]
 repeat' first
  |(with_reducible first|apply bA|apply bB|apply bC|apply bD|apply bE|apply bF)<;>intro h<;>try simp only[h,↓zaL,↓zHC,WZ,reduceIte,yA,yB,yC,yD,reduceCtorEq,yE,yF,W1,W3,yH,yI,yJ,yK,yL,yM,h,zFY]
  |refine zJ9 ?_ C_ok Try.f96.ntmps rfl (by decide)
  |simp only[↓zaL,↓zHC,WZ,reduceIte,yA,yB,yC,yD,reduceCtorEq,yE,yF,W1,W3,yH,yI,yJ,yK,yL,yM,h,zFY]
theorem zON(k n:Int)(x:Ty){m:Int}(h:m<1):zA0 Try.prog 96 [emb (.mk k n [x]),.int .i64 m] (.int .i64 1):=by
 refine zSa C_ok Try.func96 rfl (by decide) (YAL rfl) (by decide) rfl fun ok H=> ?_
 rw[Try.results96]
 repeat' first
  |(with_reducible first|apply bA|apply bB|apply bC|apply bD|apply bE|apply bF)<;>intro h<;>try simp only[h,↓zaL,↓zHC,WZ,reduceIte,yA,yB,yC,yD,reduceCtorEq,yE,yF,W1,W3,yH,yI,yJ,yK,yL,yM,h,zFY]
  |refine zJ9 ?_ C_ok Try.f96.ntmps rfl (by decide)
  |simp only[↓zaL,↓zHC,WZ,reduceIte,yA,yB,yC,yD,reduceCtorEq,yE,yF,W1,W3,yH,yI,yJ,yK,yL,yM,h,zFY]
theorem zOQ{x:Ty}{a m m1:Int}(k n:Int)(h:¬m<1)(e1:IntKind.wrap .i64 (m-1)=m1)(ha:0<=a/\a<=1000000)(i1:zA0 Try.prog 96 [emb x,.int .i64 m1] (.int .i64 a)):
 zA0 Try.prog 96 [emb (.mk k n [x]),.int .i64 m] (.int .i64 (1+a)):=by
 have w1:IntKind.wrap .i64 (1+a)=1+a:=zbT (by omega) (by omega)
 refine zSa C_ok Try.func96 rfl (by decide) (YAL rfl) (by decide) rfl fun ok H=> ?_
 rw[Try.results96]
 repeat' first
  |(with_reducible first|apply bA|apply bB|apply bC|apply bD|apply bE|apply bF)<;>intro h<;>try simp only[h,↓zaL,↓zHC,WZ,reduceIte,yA,yB,yC,yD,reduceCtorEq,yE,yF,W1,W3,yH,yI,yJ,yK,yL,yM,h,e1,w1,zFY]
  |((first|apply bG|apply bH);simp only[AV.norm,AV.zQg,W2,W3,yH,yI,yJ,yK,yL,yM,h,e1,w1];first|refine zIf (i1) (.inl rfl) ?_|refine zIj (i1) (.inl rfl) ?_)
  |refine zJ9 ?_ C_ok Try.f96.ntmps rfl (by decide)
  |simp only[↓zaL,↓zHC,WZ,reduceIte,yA,yB,yC,yD,reduceCtorEq,yE,yF,W1,W3,yH,yI,yJ,yK,yL,yM,h,e1,w1,zFY]
theorem zOL{x y:Ty}{a m m1:Int}(k n:Int)(h:¬m<1)(e1:IntKind.wrap .i64 (m-1)=m1)(ha:0<=a/\a<=1000000)(i1:zA0 Try.prog 96 [emb x,.int .i64 m1] (.int .i64 a))(h2:m<1+a):
 zA0 Try.prog 96 [emb (.mk k n [x,y]),.int .i64 m] (.int .i64 (1+a)):=by
 have w1:IntKind.wrap .i64 (1+a)=1+a:=zbT (by omega) (by omega)
 refine zSa C_ok Try.func96 rfl (by decide) (YAL rfl) (by decide) rfl fun ok H=> ?_
 rw[Try.results96]
 repeat' first
  |(with_reducible first|apply bA|apply bB|apply bC|apply bD|apply bE|apply bF)<;>intro h<;>try simp only[h,↓zaL,↓zHC,WZ,reduceIte,yA,yB,yC,yD,reduceCtorEq,yE,yF,W1,W3,yH,yI,yJ,yK,yL,yM,h,e1,w1,h2,zFY]
  |((first|apply bG|apply bH);simp only[AV.norm,AV.zQg,W2,W3,yH,yI,yJ,yK,yL,yM,h,e1,w1,h2];first|refine zIf (i1) (.inl rfl) ?_|refine zIj (i1) (.inl rfl) ?_)
  |refine zJ9 ?_ C_ok Try.f96.ntmps rfl (by decide)
  |simp only[↓zaL,↓zHC,WZ,reduceIte,yA,yB,yC,yD,reduceCtorEq,yE,yF,W1,W3,yH,yI,yJ,yK,yL,yM,h,e1,w1,h2,zFY]
theorem zOS{x y:Ty}{a b m m1 m2:Int}(k n:Int)(h:¬m<1)(e1:IntKind.wrap .i64 (m-1)=m1)(ha:0<=a/\a<=1000000)(i1:zA0 Try.prog 96 [emb x,.int .i64 m1] (.int .i64 a))(h2:¬m<1+a)
 (e2:IntKind.wrap .i64 (m-(1+a))=m2) (hb:0<=b/\b<=1000000) (i2:zA0 Try.prog 96 [emb y,.int .i64 m2] (.int .i64 b)):
 zA0 Try.prog 96 [emb (.mk k n [x,y]),.int .i64 m] (.int .i64 (1+a+b)):=by
 have w1:IntKind.wrap .i64 (1+a)=1+a:=zbT (by omega) (by omega)
 have w2:IntKind.wrap .i64 (1+a+b)=1+a+b:=zbT (by omega) (by omega)
 refine zSa C_ok Try.func96 rfl (by decide) (YAL rfl) (by decide) rfl fun ok H=> ?_
 rw[Try.results96]
 repeat' first
  |(with_reducible first|apply bA|apply bB|apply bC|apply bD|apply bE|apply bF)<;>intro h<;>try simp only[h,↓zaL,↓zHC,WZ,reduceIte,yA,yB,yC,yD,reduceCtorEq,yE,yF,W1,W3,yH,yI,yJ,yK,yL,yM,h,e1,w1,h2,e2,w2,zFY]
  |((first|apply bG|apply bH);simp only[AV.norm,AV.zQg,W2,W3,yH,yI,yJ,yK,yL,yM,h,e1,w1,h2,e2,w2];first|refine zIf (i1) (.inl rfl) ?_|refine zIf (i2) (.inl rfl) ?_|refine zIj (i1) (.inl rfl) ?_|refine zIj (i2) (.inl rfl) ?_)
  |refine zJ9 ?_ C_ok Try.f96.ntmps rfl (by decide)
  |simp only[↓zaL,↓zHC,WZ,reduceIte,yA,yB,yC,yD,reduceCtorEq,yE,yF,W1,W3,yH,yI,yJ,yK,yL,yM,h,e1,w1,h2,e2,w2,zFY]
theorem zOR{x y:T}{t:T}(k n:Int)(ht:t.ty= .mk k n [x.ty,y.ty])(hi:t.inner=x.inner+y.inner+1)(hd:∀m,zOH t m=if m<1 then 1 else let n:=1+zOH x (m-1);if m<n then n else n+zOH y (m-n))
 (ih1:∀m:Nat,x.inner<=1000000->m<=1000000->zA0 Try.prog 96 [emb x.ty,.int .i64 m] (.int .i64 (zOH x m))) (ih2:∀m:Nat,y.inner<=1000000->m<=1000000->zA0 Try.prog 96 [emb y.ty,.int .i64 m] (.int .i64 (zOH y m)))
 (m:Nat) (h:t.inner<=1000000) (hm:m<=1000000):zA0 Try.prog 96 [emb t.ty,.int .i64 m] (.int .i64 (zOH t m)):=by
 have g1:=zOI x (m-1)
 have g2:=zOI y (m-(1+zOH x (m-1)))
 rw[ht,hd]
 by_cases h1:m<1
 ·rw[if_pos h1];exact zOO _ _ _ _ (by omega)
 ·rw[if_neg h1]
  simp only
  have i1:=ih1 (m-1) (by omega) (by omega)
  have e1:IntKind.wrap .i64 ((m:Int)-1)=((m-1:Nat):Int):=wrapN (by omega) (by omega)
  by_cases h2:m<1+zOH x (m-1)
  ·rw[if_pos h2]
   have:=zOL (x:=x.ty) (y:=y.ty) k n (by omega) e1 (by omega) i1 (by omega)
   rw[show((1+zOH x (m-1):Nat):Int)=1+(zOH x (m-1):Int)by omega];exact this
  ·rw[if_neg h2]
   have i2:=ih2 (m-(1+zOH x (m-1))) (by omega) (by omega)
   have e2:IntKind.wrap .i64 ((m:Int)-(1+(zOH x (m-1):Int)))=((m-(1+zOH x (m-1)):Nat):Int):=wrapN (by omega) (by omega)
   have:=zOS (x:=x.ty) (y:=y.ty) k n (by omega) e1 (by omega) i1 (by omega) e2 (by omega) i2
   rw[show((1+zOH x (m-1)+zOH y (m-(1+zOH x (m-1))):Nat):Int)=1+(zOH x (m-1):Int)+(zOH y (m-(1+zOH x (m-1))):Int)by omega];exact this
theorem zOP:∀(t:T) (m:Nat),t.inner<=1000000->m<=1000000->zA0 Try.prog 96 [emb t.ty,.int .i64 m] (.int .i64 (zOH t m)):=by
 intro t
 induction t with
 |base k=>intro m h hm;exact zOM _ _ _
 |dyn=>intro m h hm;exact zOM _ _ _
 |var n=>intro m h hm;exact zOM _ _ _
 |pair a b ih1 ih2=>exact zOR 7 0 rfl rfl (fun m=>rfl) ih1 ih2
 |fn a b ih1 ih2=>exact zOR 9 0 rfl rfl (fun m=>rfl) ih1 ih2
 |list a ih1=>
  intro m h hm
  have g1:=zOI a (m-1)
  simp only[T.inner]at h
  simp only[zOH]
  by_cases h1:m<1
  ·rw[if_pos h1];exact zON _ _ _ (by omega)
  ·rw[if_neg h1]
   have e1:IntKind.wrap .i64 ((m:Int)-1)=((m-1:Nat):Int):=wrapN (by omega) (by omega)
   have:=zOQ (x:=a.ty) 8 0 (by omega) e1 (by omega) (ih1 (m-1) (by omega) (by omega))
   rw[show((1+zOH a (m-1):Nat):Int)=1+(zOH a (m-1):Int)by omega];exact this
end
end Go.Proofs.Ytdngjamjccjlmaa
