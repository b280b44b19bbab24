/- Lemmas: the laws of stores, first part. No condition. -/
import Derived.Test.YtdngjamjccjlmaaGreatPWc
import Derived.Test.YtdngjamjccjlmaaGreatPFa
set_option linter.unusedSimpArgs false
set_option linter.unusedVariables false
set_option maxHeartbeats 4000000
set_option maxRecDepth 100000
namespace Go.Proofs.YtdngjamjccjlmaaGreat
open Go Go.Ab
open Nat renaming reduceEqDiff -> yA, reduceAdd -> yB
open AV renaming bel -> yN, normL -> yQ, norm -> yP
open Int renaming reduceAdd -> yH, reduceLT -> yI, reduceBEq -> yK, reduceLE -> yM
attribute [local irreducible] zA0 zAA zAa zAi zAj GoIf GoGb zAk GoO GoD GoX GoDX GoG GoDG GoGv zAl Go zAB
section
theorem zLX(F:List AObj)(v:Nat)(L:Mem)(lim cnt rd:Int)(x y:AObj):hpS (F++ [x,y]) F.length (F.length+1) v L lim cnt rd=F++ [bxS (F.length+1) v L.length lim cnt rd,arS v L]:=by
 unfold hpS stF
 rw[zCX rfl,zCY rfl];rfl
theorem zQH(F:List AObj)(n:Int):∃G s r,s<G.length/\r<G.length/\r≠s/\F.length<=G.length/\G.take F.length=F/\F.length<=s/\F.length<=r/\
 zAd Tryz.prog 8 [.int .i64 n] F (.bptr s 0) (hpS G s r 4 mem0 (zNK n) 0 0):=by
 refine⟨F++ [.dead,.dead],F.length,F.length+1,by simp,by simp,by omega,by simp,List.take_left' rfl,by omega,by omega,?_⟩
 rw[zLX]
 exact zQD F n
theorem zLW{G:List AObj}{s r v b:Nat}{L:Mem}{lim cnt rd:Int}(hs:b<=s)(hr:b<=r):(hpS G s r v L lim cnt rd).take b=G.take b:=by
 unfold hpS stF
 rw[List.take_set,List.take_set,List.set_eq_of_length_le (by simp;omega),List.set_eq_of_length_le (by simp;omega)]
def wk1:Mem:=mem0++ [varN 2]
def wk2:Mem:=wk1++ [(⟨7,0,none,[5,0]⟩,0)]
def wk3:Mem:=wk2++ [(⟨8,0,none,[5]⟩,0)]
def wk4:Mem:=mkL wk3 1 (wk3.st.all 6)
def wk5:Mem:=zNL wk4 1 5 1
theorem zP7{F G:List AObj}{s r v b:Nat}{L:Mem}{lim cnt rd:Int}(hb:b<=F.length)(hs:F.length<=s)(hr:F.length<=r)(ht:G.take F.length=F)(h:∀x∈F.take b,x.bel b=true):
 ∀x∈(hpS G s r v L lim cnt rd).take b,x.bel b=true:=by
 have e:G.take b=F.take b:=by rw[<-ht,List.take_take,Nat.min_eq_left hb]
 rw[zLW (by omega) (by omega),e];exact h
theorem zIC{K:Exit->AState->Prop}{k:List KI}{e:Nat->AV}{F:List AObj}{b m:Nat}{n:Int}{CC:Cfg}{dst:Option Tmp}{ops:Array Oper}{todo:List Oper}(hb:b<=F.length)
 (hK:∀G s r,s<G.length->r<G.length->r≠s->F.length<=G.length->G.take F.length=F->F.length<=s->F.length<=r->GoO Tryz.prog CC K ops todo k ((FS e (hpS G s r 4 mem0 (zNK n) 0 0) b m).put dst (.bptr s 0))):
 zAi Tryz.prog CC K 8 [.int .i64 n] dst ops todo k (FS e F b m):=by
 obtain⟨G,s,r,hs,hr,hne,hl,ht,hbs,hbr,hnew⟩:=zQH F n
 exact zIA hnew (.inl rfl) (fun h=>zP7 hb hbs hbr ht h) (hK G s r hs hr hne hl ht hbs hbr)
theorem zXS{F G:List AObj}{s r q:Nat}{x:AObj}(hq:F[q]?=some x)(ht:G.take F.length=F)(hs:F.length<=s)(hr:F.length<=r):
 (∀bx ar,(stF G s r bx ar)[q]?=some x)/\∀J bx ar,(stF (G++J) s r bx ar)[q]?=some x:=by
 have hl:=zIc hq
 have e:G[q]?=some x:=by rw[<-ht]at hq;rw[List.getElem?_take_of_lt hl]at hq;exact hq
 have hg:=zIc e
 exact⟨fun bx ar=>by rw[zXC (by omega) (by omega)];exact e,fun J bx ar=>by rw[zXC (by omega) (by omega),YAG hg];exact e⟩
section
variable {F : List AObj} {s r : Nat}
end
theorem zXL{F G J:List AObj}{s r:Nat}{bx ar:AObj}(hs:F.length<=s)(hr:F.length<=r)(hl:F.length<=G.length)(ht:G.take F.length=F):(stF (G++J) s r bx ar).take F.length=F:=by
 unfold stF
 rw[List.take_set,List.take_set,List.set_eq_of_length_le (by simp;omega),List.set_eq_of_length_le (by simp;omega),List.take_append_of_le_length hl,ht]
end
section
section
variable {F : List AObj} {s r v : Nat} {L : Mem} {lim cnt rd : Int}
theorem zea(hs:s<F.length)(hr:r<F.length)(hne:r≠s)(n:Int)(hn:n<0\/(L.length:Int)<=n):zAd Tryz.prog 39 [.bptr s 0,.int .i64 n] (hpS F s r v L lim cnt rd) (.int .i64 0) (hpS F s r v L lim cnt rd):=by
 unfold zAd
 refine eD C_ok Tryz.func39 Tryz.results39 fun ok=> ?_
 repeat' (first
  |((first|apply bG|apply bH);simp only[yP,yQ];refine zIB (zeW hs hr hne hn) (.inl rfl) ?_)
  |skip)<;>simp only[↓zaL,WY,yA,reduceCtorEq,WS,hpS,bxS,arS,stP hs hr hne,zTh,yN]
end
def limL(k:Nat):Mem:=mem0++(List.range k).map fun j:Nat=>varN (j:Int)
section
variable {F : List AObj} {s r M : Nat} {i : Nat}
end
end
section
theorem wrapN{a:Nat}{x:Int}(h:x=a)(ha:a<=9000000):IntKind.wrap .i64 x=(a:Int):=by rw[h];exact zbT (by omega) (by omega)
theorem zOM(k n m:Int):zA0 Tryz.prog 58 [emb (.mk k n []),.int .i64 m] (.int .i64 0):=by
 refine eP C_ok Tryz.func58 Tryz.results58 fun ok H=> ?_
 repeat' (first
  |refine zJ9 ?_ C_ok Tryz.f58.ntmps rfl (by decide)
  |skip)<;>simp only[↓zaL,WZ,yA,yB,W1,W3]
theorem zOO(k n:Int)(x y:Ty){m:Int}(h:m<1):zA0 Tryz.prog 58 [emb (.mk k n [x,y]),.int .i64 m] (.int .i64 1):=by
 refine eP C_ok Tryz.func58 Tryz.results58 fun ok H=> ?_
 repeat' first
  |refine zJ9 ?_ C_ok Tryz.f58.ntmps rfl (by decide)
  |simp only[↓zaL,WZ,yA,yB,reduceCtorEq,W1,W3,yI,yK,yM,h]
theorem zON(k n:Int)(x:Ty){m:Int}(h:m<1):zA0 Tryz.prog 58 [emb (.mk k n [x]),.int .i64 m] (.int .i64 1):=by
 refine eP C_ok Tryz.func58 Tryz.results58 fun ok H=> ?_
 repeat' first
  |refine zJ9 ?_ C_ok Tryz.f58.ntmps rfl (by decide)
  |simp only[↓zaL,WZ,yA,yB,reduceCtorEq,W1,W3,yI,yK,yM,h]
theorem zOQ{x:Ty}{a m m1:Int}(k n:Int)(h:¬m<1)(e1:IntKind.wrap .i64 (m-1)=m1)(ha:0<=a/\a<=1000000)(i1:zA0 Tryz.prog 58 [emb x,.int .i64 m1] (.int .i64 a)):
 zA0 Tryz.prog 58 [emb (.mk k n [x]),.int .i64 m] (.int .i64 (1+a)):=by
 have w1:IntKind.wrap .i64 (1+a)=1+a:=zbT (by omega) (by omega)
 refine eP C_ok Tryz.func58 Tryz.results58 fun ok H=> ?_
 repeat' first
  |((first|apply bG|apply bH);simp only[yP,yQ,W2,h];refine zIf (i1) (.inl rfl) ?_)
  |refine zJ9 ?_ C_ok Tryz.f58.ntmps rfl (by decide)
  |simp only[↓zaL,WZ,yA,yB,W1,W3,yI,yK,yM,h,e1,w1]
theorem zOL{x y:Ty}{a m m1:Int}(k n:Int)(h:¬m<1)(e1:IntKind.wrap .i64 (m-1)=m1)(ha:0<=a/\a<=1000000)(i1:zA0 Tryz.prog 58 [emb x,.int .i64 m1] (.int .i64 a))(h2:m<1+a):
 zA0 Tryz.prog 58 [emb (.mk k n [x,y]),.int .i64 m] (.int .i64 (1+a)):=by
 have w1:IntKind.wrap .i64 (1+a)=1+a:=zbT (by omega) (by omega)
 refine eP C_ok Tryz.func58 Tryz.results58 fun ok H=> ?_
 repeat' first
  |((first|apply bG|apply bH);simp only[yP,yQ,W2,h];refine zIf (i1) (.inl rfl) ?_)
  |refine zJ9 ?_ C_ok Tryz.f58.ntmps rfl (by decide)
  |simp only[↓zaL,WZ,yA,yB,reduceCtorEq,W1,W3,yH,yI,yK,yM,h,e1,w1,h2]
theorem zOS{x y:Ty}{a b m m1 m2:Int}(k n:Int)(h:¬m<1)(e1:IntKind.wrap .i64 (m-1)=m1)(ha:0<=a/\a<=1000000)(i1:zA0 Tryz.prog 58 [emb x,.int .i64 m1] (.int .i64 a))(h2:¬m<1+a)
 (e2:IntKind.wrap .i64 (m-(1+a))=m2) (hb:0<=b/\b<=1000000) (i2:zA0 Tryz.prog 58 [emb y,.int .i64 m2] (.int .i64 b)):
 zA0 Tryz.prog 58 [emb (.mk k n [x,y]),.int .i64 m] (.int .i64 (1+a+b)):=by
 have w1:IntKind.wrap .i64 (1+a)=1+a:=zbT (by omega) (by omega)
 have w2:IntKind.wrap .i64 (1+a+b)=1+a+b:=zbT (by omega) (by omega)
 refine eP C_ok Tryz.func58 Tryz.results58 fun ok H=> ?_
 repeat' first
  |((first|apply bG|apply bH);simp only[yP,yQ,W2,h];first|refine zIf (i1) (.inl rfl) ?_|refine zIf (i2) (.inl rfl) ?_)
  |refine zJ9 ?_ C_ok Tryz.f58.ntmps rfl (by decide)
  |simp only[↓zaL,WZ,yA,yB,W1,W3,yH,yI,yK,yM,h,e1,w1,h2,e2,w2]
theorem zOR{x y:T}{t:T}(k n:Int)(ht:t.ty= .mk k n [x.ty,y.ty])(hi:t.inner=x.inner+y.inner+1)(hd:∀m,zOH t m=if m<1 then 1 else let n:=1+zOH x (m-1);if m<n then n else n+zOH y (m-n))
 (ih1:∀m:Nat,x.inner<=1000000->m<=1000000->zA0 Tryz.prog 58 [emb x.ty,.int .i64 m] (.int .i64 (zOH x m))) (ih2:∀m:Nat,y.inner<=1000000->m<=1000000->zA0 Tryz.prog 58 [emb y.ty,.int .i64 m] (.int .i64 (zOH y m)))
 (m:Nat) (h:t.inner<=1000000) (hm:m<=1000000):zA0 Tryz.prog 58 [emb t.ty,.int .i64 m] (.int .i64 (zOH t m)):=by
 have g1:=zOI x (m-1)
 have g2:=zOI y (m-(1+zOH x (m-1)))
 rw[ht,hd]
 by_cases h1:m<1
 ·rw[if_pos h1];exact zOO _ _ _ _ (by omega)
 ·rw[if_neg h1]
  simp only
  have i1:=ih1 (m-1) (by omega) (by omega)
  have e1:IntKind.wrap .i64 ((m:Int)-1)=((m-1:Nat):Int):=wrapN (by omega) (by omega)
  by_cases h2:m<1+zOH x (m-1)
  ·rw[if_pos h2]
   have:=zOL (x:=x.ty) (y:=y.ty) k n (by omega) e1 (by omega) i1 (by omega)
   rw[show((1+zOH x (m-1):Nat):Int)=1+(zOH x (m-1):Int)by omega];exact this
  ·rw[if_neg h2]
   have i2:=ih2 (m-(1+zOH x (m-1))) (by omega) (by omega)
   have e2:IntKind.wrap .i64 ((m:Int)-(1+(zOH x (m-1):Int)))=((m-(1+zOH x (m-1)):Nat):Int):=wrapN (by omega) (by omega)
   have:=zOS (x:=x.ty) (y:=y.ty) k n (by omega) e1 (by omega) i1 (by omega) e2 (by omega) i2
   rw[show((1+zOH x (m-1)+zOH y (m-(1+zOH x (m-1))):Nat):Int)=1+(zOH x (m-1):Int)+(zOH y (m-(1+zOH x (m-1))):Int)by omega];exact this
theorem zOP:∀(t:T) (m:Nat),t.inner<=1000000->m<=1000000->zA0 Tryz.prog 58 [emb t.ty,.int .i64 m] (.int .i64 (zOH t m)):=by
 intro t
 induction t with
 |base k=>intro m h hm;exact zOM _ _ _
 |dyn=>intro m h hm;exact zOM _ _ _
 |var n=>intro m h hm;exact zOM _ _ _
 |pair a b ih1 ih2=>exact zOR 7 0 rfl rfl (fun m=>rfl) ih1 ih2
 |fn a b ih1 ih2=>exact zOR 9 0 rfl rfl (fun m=>rfl) ih1 ih2
 |list a ih1=>
  intro m h hm
  have g1:=zOI a (m-1)
  simp only[T.inner]at h
  simp only[zOH]
  by_cases h1:m<1
  ·rw[if_pos h1];exact zON _ _ _ (by omega)
  ·rw[if_neg h1]
   have e1:IntKind.wrap .i64 ((m:Int)-1)=((m-1:Nat):Int):=wrapN (by omega) (by omega)
   have:=zOQ (x:=a.ty) 8 0 (by omega) e1 (by omega) (ih1 (m-1) (by omega) (by omega))
   rw[show((1+zOH a (m-1):Nat):Int)=1+(zOH a (m-1):Int)by omega];exact this
end
end Go.Proofs.YtdngjamjccjlmaaGreat
