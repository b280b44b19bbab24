/- Lemmas: words and rounds of names. No condition. -/
import Derived.Test.YtdngjamjccjlmaaGreatPYa
import Derived.Test.YtdngjamjccjlmaaGreatPMa
import Derived.Test.YtdngjamjccjlmaaGreatPRb
set_option linter.unusedSimpArgs false
set_option linter.unusedVariables false
set_option maxHeartbeats 4000000
set_option maxRecDepth 100000
namespace Go.Proofs.YtdngjamjccjlmaaGreat
open Go Go.Ab
open Nat renaming reduceEqDiff -> yA, reduceAdd -> yB, reduceLT -> yC, reduceLeDiff -> yD, reduceMul -> yE, reducePow -> yF
open AV renaming bel -> yN, normL -> yQ, norm -> yP, belL -> yO
open AObj renaming bel -> yR
attribute [local irreducible] zA0 zAA zAa zAi zAj GoIf GoGb zAk GoO GoD GoX GoDX GoG GoDG GoGv zAl Go zAB
section
theorem za7(s:ByteArray):zA0 Tryz.prog 92 [.str s] (.bool (keyS s)):=by
 refine eP C_ok Tryz.func92 Tryz.results92 fun ok H=> ?_
 have h:=YAN
 repeat' (first
  |(with_reducible first|refine bA ?_ ?_|refine bB ?_ ?_|refine bC ?_ ?_|refine bD ?_ ?_|refine bE ?_ ?_|refine bF ?_ ?_)<;>intro h
  |skip)<;>simp only[h,↓zaL,WZ,yA,reduceCtorEq,W1]
 all_goals (simp only[ByteArray.toList_eq,YAZ,beq_iff_eq,ne_eq]at*;simp_all [keyS,keys])
theorem zax(c:Nat):zA0 Tryz.prog 93 [.int .u8 c] (.bool (zLk c)):=by
 refine eP C_ok Tryz.func93 Tryz.results93 fun ok H=> ?_
 repeat' first
  |(apply zJn (fun _ _=>rfl);(· intro hb;(try simp only[YAA,YAD,YAE]at hb);simp only[hb,↓zaL,WZ,yA,reduceCtorEq,W1,zMM,zMJ,Bool.or_false];exact⟨rfl,trivial⟩))
  |(apply zIy (fun _ _=>rfl);(· intro hb;(try simp only[YAA,YAD,YAE,YAC]at hb);simp only[hb,↓zaL,↓zHC,WZ,reduceIte,yA,yB,yC,yD,reduceCtorEq,yE,yF,W1,W1P,W5];exact⟨rfl,trivial⟩))
  |simp only[↓zaL,WZ,yA,reduceCtorEq,W1,zMM,zML,zMJ,zMK,zJd]
 rw[Bool.eq_iff_iff];simp[zLk,lowerB];omega
theorem zPi{s:ByteArray}{i:Nat}(h1:1<=i)(h:i<s.size)(hi:zLk (zD2 s i)=false):zPh s=false:=by
 have:(allN s.size fun i=>i==0||zLk (zD2 s i))=false:=zB4 h (by simp[hi];omega)
 simp[zPh,this]
theorem zbH(s:ByteArray):zA0 Tryz.prog 83 [.str s] (.bool (zPh s)):=by
 by_cases h1:1<=s.size
 ·have e1:decide ((s.size:Int)<1)=false:=by simp;omega
  have e0:((0:Int)<(s.size:Int))=True:=by simp;omega
  refine eP C_ok Tryz.func83 Tryz.results83 fun ok H=> ?_
  have hmax:s.size<=maxLen:=ok.1
  have h:=YAN
  repeat' (first
   |(with_reducible first|refine bA ?_ ?_|refine bB ?_ ?_|refine bC ?_ ?_|refine bD ?_ ?_|refine bE ?_ ?_|refine bF ?_ ?_)<;>intro h
   |((first|apply bG|apply bH);simp only[yP,yQ];refine zIf (za7 _) (.inl rfl) ?_)
   |skip)<;>simp only[h,↓zaL,WZ,yA,reduceCtorEq,W1,e1,e0,YAQ,Int.toNat_zero]
  case pos.refine_2.refine_2.refine_2.refine_2 a b c d=>
   have ha:s.size<=32:=by omega
   have hb:97<=zD2 s 0:=by omega
   have hc:zD2 s 0<=122:=by omega
   refine aloop_trim [3,0] ?_
   simp only[List.map_cons,List.map_nil,↓zaL,WZ,yA,reduceCtorEq]
   refine zJ3 1 (fun i:Nat=> [(3,.int .i64 i)]) (fun _=>_) (fun i=>1<=i/\i<=s.size/\∀j,j<i->(j==0||zLk (zD2 s j))=true) (fun i=>s.size-i) C_ok 1 rfl rfl ⟨YAV _,h1,fun j hj=>by simp;omega⟩ (by decide) ?_
   rintro i ⟨hi1,hi,hall⟩
   simp only[List.drop_succ_cons,List.drop_zero,List.cons_append,List.nil_append]
   simp only[↓zaL,↓zHC,WZ,yA,reduceCtorEq,W1]
   refine zJv (fun hlt=> ?_) (fun hlt=> ?_)
   ·have h:=YAN
    repeat' (first
     |(with_reducible first|refine bA ?_ ?_|refine bB ?_ ?_|refine bC ?_ ?_|refine bD ?_ ?_|refine bE ?_ ?_|refine bF ?_ ?_)<;>intro h
     |((first|apply bG|apply bH);simp only[yP,yQ];refine zIf (zax _) (.inl rfl) ?_)
     |skip)<;>simp only[h,↓zaL,↓zHC,WZ,yA,reduceCtorEq,W1,hlt]
    ·refine⟨i+1,⟨by omega,by omega,fun j hj=> ?_⟩,by omega,zas rfl rfl rfl rfl ?_ ?_ ?_⟩
     ·rcases Nat.lt_succ_iff_lt_or_eq.1 hj with hj|rfl
      ·exact hall j hj
      ·simp[h]
     all_goals simp only[WK,↓zaL,↓zHC,yA,yN,yR,yP,zbX hlt hmax]
    ·exact(zPi hi1 hlt h).symm
   ·simp only[↓zaL,↓zHC,WZ,yA,reduceCtorEq]
    have:(allN s.size fun i=>i==0||zLk (zD2 s i))=true:=zB7 fun j hj=>hall j (by omega)
    simp only[zPh,this,lowerB,h]
    simp;omega
  all_goals (simp[zPh,lowerB, *];try (intros;omega))
 ·have e1:decide ((s.size:Int)<1)=true:=by simp;omega
  refine eP C_ok Tryz.func83 Tryz.results83 fun ok H=> ?_
  repeat' simp only[↓zaL,WZ,yA,reduceCtorEq,W1,e1]
  simp[zPh,h1]
theorem zQI(l:List UInt8):(ByteArray.empty.data.toList==l)=decide (l=[]):=by cases l<;>rfl
theorem zbw(n:Int):((0:Int)==n)=decide (n=0):=by rw[Bool.eq_iff_iff];simp;omega
theorem zRY(p:Pt):zA0 Tryz.prog 62 [embP p] (.bool (okP p)):=by
 refine eP C_ok Tryz.func62 Tryz.results62 fun ok H=> ?_
 have h:=YAN
 repeat' (first
  |(with_reducible first|refine bA ?_ ?_|refine bB ?_ ?_|refine bC ?_ ?_|refine bD ?_ ?_|refine bE ?_ ?_|refine bF ?_ ?_)<;>intro h
  |((first|apply bG|apply bH);simp only[yP,yQ];refine zIf (zbH _) (.inl rfl) ?_)
  |skip)<;>simp only[h,↓zaL,WZ,yA,yB,yC,yD,W1,W1P]
 all_goals simp only[ByteArray.toList_eq,zQI,zbw,YAa,decide_eq_false_iff_not,beq_iff_eq,YAZ,ne_eq,bne_iff_ne,bne_eq_false_iff_eq]at*
 all_goals (simp_all [okP];try omega)
end
section
theorem zG7:(#[]:Array Operand).isEmpty=true:=rfl
theorem zSS(p:Pt)(F:List AObj):zAd Tryz.prog 61 [embP p] F (.clo 81 [.bptr F.length 0]) (F++ [.box (cellsOf (embP p))]):=by
 unfold zAd
 refine eE C_ok Tryz.func61 Tryz.results61 fun ok=> ?_
 repeat' simp only[↓zaL,WY,yA,W1P,WS,zG7]
def zXh(l:List ByteArray)(q:Pt):Option (List ByteArray):=
 if okP q=false then none else if q.kind=2 then(if l.any (q.name== ·)then none else some (l++ [q.name]))else some l
mutual
def chkR:Pt->List ByteArray->Bool×List ByteArray
 | .mk k f t m n s ks,l=>match zXh l (.mk k f t m n s ks)with
  |none=>(false,l)
  |some l'=>zEl ks l'
def zEl:List Pt->List ByteArray->Bool×List ByteArray
 | [],l=>(true,l)
 |x::xs,l=>if(chkR x l).1 then zEl xs (chkR x l).2 else chkR x l
end
theorem zEo(p:Pt)(l:List ByteArray):chkR p l=match zXh l p with
 |none=>(false,l)
 |some l'=>zEl p.kids l':=by cases p;rw[chkR];rfl
structure Iter (E:Bool×List ByteArray->List AObj) (y B:Nat):Prop where
 hE:∀r,(E r).length=B
 hy:y<B
 hbel:∀l m,(∀x∈E (true,l),x.bel m=true)->∀r,∀x∈E r,x.bel m=true
 hY:∀l q Z,zBJ Tryz.prog y [embP q] (E (true,l)++Z) fun r H'=>r= .bool (zXh l q).isSome/\H'=E ((zXh l q).isSome,(zXh l q).getD l)++Z
theorem Iter.app{E:Bool×List ByteArray->List AObj}{y B:Nat}(h:Iter E y B)(X:List AObj):Iter (fun r=>E r++X) y (B+X.length):=by
 refine⟨fun r=>by simp[h.hE],by have:=h.hy;omega,fun l m hm r x hx=> ?_,fun l q Z=> ?_⟩
 ·rcases List.mem_append.1 hx with hx|hx
  ·exact h.hbel l m (fun x hx=>hm x (List.mem_append_left _ hx)) r x hx
  ·exact hm x (List.mem_append_right _ hx)
 ·simp only[List.append_assoc];exact h.hY l q (X++Z)
theorem zLf(args:List AV)(H:List AObj)(n:Nat):zLe args H n=FS (fun t=>args.getD t .any) H H.length n:=by simp[FS,zLe]
theorem zJ8{E:Bool×List ByteArray->List AObj}{y B:Nat}(hI:Iter E y B)(p:Pt)(ih:∀x∈p.kids,∀l Z,zAd Tryz.prog 82 [embP x,.yld y] (E (true,l)++Z) (.bool (chkR x l).1) (E (chkR x l)++Z))(l:List ByteArray):
 zAd Tryz.prog 82 [embP p,.yld y] (E (true,l)) (.bool (chkR p l).1) (E (chkR p l)):=by
 have hE:=hI.hE
 have hb0:∀(l:List ByteArray) (r:Bool×List ByteArray) (Z Z':List AObj),(∀x∈(E (true,l)++Z).take B,x.bel B=true)->∀x∈(E r++Z').take B,x.bel B=true:=fun l r Z Z' hb=>by
  rw[List.take_left' (hE _)]at hb⊢
  exact hI.hbel l B hb r
 unfold zAd
 refine zBP C_ok Tryz.func82 rfl (by decide) (YAL rfl) fun ok=> ?_
 rw[Tryz.results82]
 refine zC7 (n:=Tryz.f82.ntmps) C_ok rfl (by decide) ?_
 rw[zLf,X_go,hE]
 repeat' simp only[WY,W1P,WS,hE]
 refine⟨rfl,rfl,.inr ?_⟩
 unfold xop
 simp only[↓zaL,WY,yA,WS]
 refine⟨rfl,.inr ?_⟩
 unfold xop
 simp only[↓zaL,WY,yA,yB,W1,W1P,WS,hE]
 refine⟨rfl,.inl ⟨_,_,_,y,rfl,?_,?_⟩⟩
 ·simp only[↓zaL,WY,yA,WS]
 simp only[↓zaL,WY,yA,WS]
 refine zbs (by have:=hI.hY l p [.box (cellsOf (embP p))];rw[zGi]at this;exact this) fun r F' hr=> ?_
 obtain⟨rfl,rfl⟩:=hr
 refine⟨hb0 _ _ _ _,?_⟩
 refine⟨rfl,.inr ?_⟩
 unfold xop
 simp only[↓zaL,WY,yA,WS]
 unfold zbk
 cases hs:zXh l p with
 |none=>
  have hc:chkR p l=(false,l):=by rw[zEo,hs]
  repeat' simp only[↓zaL,WY,yA,WS,Option.isSome_none,Option.getD_none,zTh,hc,yN]
  exact List.take_left' (hE _)
 |some l'=>
  have hc:chkR p l=zEl p.kids l':=by rw[zEo,hs]
  have hmax:p.kids.length<=maxLen:=(zGp ok.1).1
  repeat' simp only[↓zaL,WY,yA,yB,W1,WS,hE,Option.getD_some]
  refine zCN [14,1,12,13] ?_
  simp only[List.map_cons,List.map_nil,↓zaL,WY,yA,WS]
  refine zJ1 1 (fun x:Nat×List ByteArray=> [(14,.int .i64 x.1)]) (fun x=>E (true,x.2)++ [.box (cellsOf (embP p))]) (fun x=>x.1<=p.kids.length/\zEl (p.kids.drop x.1) x.2=chkR p l) (fun x=>p.kids.length-x.1) C_ok (0,l') rfl (by rw[zGi]) ⟨YAX _,hc.symm⟩ (by decide) ?_
  rintro⟨i,li⟩ ⟨hi,hr⟩
  simp only[List.drop_succ_cons,List.drop_zero,List.cons_append,List.nil_append]
  simp only[↓zaL,↓zHC,WY,yA,W1,W1P,WS]
  refine zJv (fun hlt=> ?_) (fun hlt=> ?_)
  ·have hd:p.kids.drop i=p.kid i::p.kids.drop (i+1):=by rw[List.drop_eq_getElem_cons hlt];simp[Pt.kid,hlt]
   simp only at hr
   rw[hd,zEl]at hr
   have q1:=ih _ (zSk hlt) li [.box (cellsOf (embP p)),.box (cellsOf (embP (p.kid i)))]
   rw[zGi,zGi]at q1
   cases hk:(chkR (p.kid i) li).1 with
   |false=>
    rw[hk]at q1 hr
    simp only[YAB,if_false]at hr
    have hf:(chkR p l).1=false:=by rw[<-hr];exact hk
    repeat' (first
     |((first|apply bG|apply bH);simp only[yP,yQ,W2P];refine zIA (q1) (.inl rfl) (hb0 _ _ _ _) ?_)
     |skip)<;>simp only[↓zaL,↓zHC,WY,yA,yB,W1,W1P,WS,hE,hlt,zOi hlt,zTh,yN,hf]
    rw[hr];exact List.take_left' (hE _)
   |true=>
    rw[hk]at q1 hr
    simp only[if_true]at hr
    repeat' (first
     |((first|apply bG|apply bH);simp only[yP,yQ,W2P];refine zIA (q1) (.inl rfl) (hb0 _ _ _ _) ?_)
     |skip)<;>simp only[↓zaL,↓zHC,WY,yA,yB,W1,W1P,WS,hE,hlt,zOi hlt]
    have e2:chkR (p.kid i) li=(true,(chkR (p.kid i) li).2):=Prod.ext hk rfl
    refine⟨(i+1,(chkR (p.kid i) li).2),⟨hlt,hr⟩,by simp only;omega,zaq ?_ ?_ ?_ ?_ ?_⟩
    ·rw[e2]
     refine(congrArg (List.take _) (List.append_assoc (E (true,(chkR (p.kid i) li).2)) [_] [_]).symm).trans (List.take_left' (by simp[hE]))
    ·simp[hE]
    ·simp only[WK,↓zaL,↓zHC,yA,yP,zbX hlt hmax]
    ·have:=hI.hy
     simp only[WK,yN,zOh,YAJ,hE]
     simp;omega
    ·rw[List.drop_left' (hE _)]
     simp only[WK,yN,yO,yR,zOh]
  ·simp only at hr hi
   rw[List.drop_of_length_le (by omega),zEl]at hr
   repeat' simp only[↓zaL,↓zHC,WY,yA,WS,hlt,zTh,yN]
   refine⟨by rw[<-hr],?_⟩
   rw[<-hr];exact List.take_left' (hE _)
theorem zJ7(p:Pt):∀ {E:Bool×List ByteArray->List AObj} {y B:Nat},Iter E y B->∀l:List ByteArray,
 zAd Tryz.prog 82 [embP p,.yld y] (E (true,l)) (.bool (chkR p l).1) (E (chkR p l)):=
 Pt.ind (p:=fun p=>∀ {E:Bool×List ByteArray->List AObj} {y B:Nat},Iter E y B->∀l:List ByteArray,zAd Tryz.prog 82 [embP p,.yld y] (E (true,l)) (.bool (chkR p l).1) (E (chkR p l)))
  (fun p ih _ _ _ hI l=>zJ8 hI p (fun x hx l Z=>ih x hx (hI.app Z) l) l) p
end
end Go.Proofs.YtdngjamjccjlmaaGreat
