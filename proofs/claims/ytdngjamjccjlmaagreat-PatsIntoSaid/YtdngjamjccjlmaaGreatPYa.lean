/- Lemmas: patterns and values in plain Lean. No condition. -/
import Derived.Test.YtdngjamjccjlmaaGreatPMa
import Derived.Test.YtdngjamjccjlmaaGreatPAc
import Derived.Laws.Strings
set_option linter.defProp false
set_option linter.unusedSimpArgs false
set_option linter.unusedVariables false
set_option maxRecDepth 100000
namespace Go.Proofs.YtdngjamjccjlmaaGreat
open Go Go.Ab
open AV renaming belL -> yO, bel -> yN, normL -> yQ, norm -> yP
section
inductive Pt where
 |mk (kind from_ to_:Int) (name:ByteArray) (n:Int) (s:ByteArray) (kids:List Pt)
def Pt.kind:Pt->Int| .mk k _ _ _ _ _ _=>k
def Pt.fr:Pt->Int| .mk _ f _ _ _ _ _=>f
def Pt.to_:Pt->Int| .mk _ _ t _ _ _ _=>t
def Pt.name:Pt->ByteArray| .mk _ _ _ m _ _ _=>m
def Pt.num:Pt->Int| .mk _ _ _ _ n _ _=>n
def Pt.str:Pt->ByteArray| .mk _ _ _ _ _ s _=>s
def Pt.kids:Pt->List Pt| .mk _ _ _ _ _ _ ks=>ks
instance:Inhabited Pt:=⟨.mk 0 0 0 ByteArray.empty 0 ByteArray.empty []⟩
def Pt.kid(p:Pt)(i:Nat):Pt:=p.kids.getD i default
theorem Pt.eta(p:Pt):Pt.mk p.kind p.fr p.to_ p.name p.num p.str p.kids=p:=by cases p;rfl
theorem Pt.zMj(k f t:Int)(m:ByteArray)(n:Int)(s:ByteArray)(l:List Pt):(Pt.mk k f t m n s l).kind=k:=rfl
theorem Pt.zHz(k f t:Int)(m:ByteArray)(n:Int)(s:ByteArray)(l:List Pt):(Pt.mk k f t m n s l).fr=f:=rfl
theorem Pt.zYV(k f t:Int)(m:ByteArray)(n:Int)(s:ByteArray)(l:List Pt):(Pt.mk k f t m n s l).to_=t:=rfl
theorem Pt.zPj(k f t:Int)(m:ByteArray)(n:Int)(s:ByteArray)(l:List Pt):(Pt.mk k f t m n s l).name=m:=rfl
theorem Pt.zQn(k f t:Int)(m:ByteArray)(n:Int)(s:ByteArray)(l:List Pt):(Pt.mk k f t m n s l).num=n:=rfl
theorem Pt.zXr(k f t:Int)(m:ByteArray)(n:Int)(s:ByteArray)(l:List Pt):(Pt.mk k f t m n s l).str=s:=rfl
theorem Pt.zMf(k f t:Int)(m:ByteArray)(n:Int)(s:ByteArray)(l:List Pt):(Pt.mk k f t m n s l).kids=l:=rfl
theorem Pt.ind{p:Pt->Prop}(h:∀t,(∀x∈t.kids,p x)->p t):∀t,p t:=by
 intro t
 have key:∀(n:Nat) (t:Pt),SizeOf.sizeOf t<=n->p t:=by
  intro n
  induction n with
  |zero=>intro t hs;cases t;simp at hs
  |succ n ih=>
   rintro⟨k,f,to_,m,nn,s,ks⟩ hs
   refine h _ fun x hx=>ih x ?_
   have:=List.sizeOf_lt_of_mem (show x∈ks from hx)
   simp only[Pt.mk.sizeOf_spec]at hs;omega
 exact key _ t (YAV _)
theorem zSk{p:Pt}{i:Nat}(h:i<p.kids.length):p.kid i∈p.kids:=by simp[h,Pt.kid]
mutual
def embP:Pt->AV
 | .mk k f t m n s l=> .agg [.int .i64 k,.int .i64 f,.int .i64 t,.str m,.int .i64 n,.str s,.sl (zGd l) .no]
def zGd:List Pt->List AV
 | []=> []
 |t::l=>embP t::zGd l
end
theorem zGf:∀l:List Pt,zGd l=l.map embP
 | []=>rfl
 |t::l=>by simp[zGd,zGf l]
theorem zGj(t:Pt):embP t= .agg [.int .i64 t.kind,.int .i64 t.fr,.int .i64 t.to_,.str t.name,.int .i64 t.num,.str t.str,.sl (t.kids.map embP) .no]:=by
 cases t with|mk k f t m n s l=>simp only[embP,zGf,Pt.kind,Pt.fr,Pt.to_,Pt.name,Pt.num,Pt.str,Pt.kids]
theorem zGn(k f t:Int)(m:ByteArray)(n:Int)(s:ByteArray)(l:List Pt):AV.agg [.int .i64 k,.int .i64 f,.int .i64 t,.str m,.int .i64 n,.str s,.sl (l.map embP) .no]=embP (.mk k f t m n s l):=by simp only[embP,zGf]
theorem zGk(k f t:Int)(m:ByteArray)(n:Int)(s:ByteArray):AV.agg [.int .i64 k,.int .i64 f,.int .i64 t,.str m,.int .i64 n,.str s,.sl [] .no]=embP (.mk k f t m n s []):=zGn k f t m n s []
theorem zGl(k f t:Int)(m:ByteArray)(n:Int)(s:ByteArray)(a:Pt):AV.agg [.int .i64 k,.int .i64 f,.int .i64 t,.str m,.int .i64 n,.str s,.sl [embP a] .no]=embP (.mk k f t m n s [a]):=zGn k f t m n s [a]
theorem zGm(k f t:Int)(m:ByteArray)(n:Int)(s:ByteArray)(a b:Pt):AV.agg [.int .i64 k,.int .i64 f,.int .i64 t,.str m,.int .i64 n,.str s,.sl [embP a,embP b] .no]=embP (.mk k f t m n s [a,b]):=zGn k f t m n s [a,b]
theorem zGi(t:Pt):cellsOf (embP t)=[.int .i64 t.kind,.int .i64 t.fr,.int .i64 t.to_,.str t.name,.int .i64 t.num,.str t.str,.sl (t.kids.map embP) .no]:=by rw[zGj];rfl
theorem zGq(t:Pt):(embP t).solid=true:=by rw[zGj];rfl
theorem zCC(l:List Pt):(∀y,y∈l.map embP->(cellsOf y).length=7)=True:=by
 simp only[YAb,iff_true];intro y hy;obtain⟨t,_,rfl⟩:=List.mem_map.1 hy;rw[zGi];rfl
mutual
theorem zGo:∀t:Pt,(embP t).norm=embP t
 | .mk k f t m n s l=>by simp only[embP,yP,yQ,zGg l]
theorem zGg:∀l:List Pt,AV.normL (zGd l)=zGd l
 | []=>rfl
 |t::l=>by simp only[zGd,yQ,zGo t,zGg l]
end
mutual
theorem zGh(m:Nat):∀t:Pt,(embP t).bel m=true
 | .mk k f t mm n s l=>by simp only[embP,yN,yO,zGe m l,Bool.and_self]
theorem zGe(m:Nat):∀l:List Pt,AV.belL m (zGd l)=true
 | []=>rfl
 |t::l=>by simp only[zGd,yO,zGh m t,zGe m l,Bool.and_self]
end
theorem zOj(l:List Pt):AV.normL (l.map embP)=l.map embP:=by rw[<-zGf];exact zGg l
theorem zOh(m:Nat)(l:List Pt):AV.belL m (l.map embP)=true:=by rw[<-zGf];exact zGe m l
theorem zOi{t:Pt}{i:Nat}(h:i<t.kids.length):(t.kids.map embP).getD i .any=embP (t.kid i):=by simp[h,Pt.kid]
theorem zGp{t:Pt}(h:(embP t).okay):t.kids.length<=maxLen/\t.name.size<=maxLen/\t.str.size<=maxLen/\∀x∈t.kids,(embP x).okay:=by
 rw[zGj]at h
 simp only[AV.okay,AV.zRR,YAK,and_true]at h
 exact⟨h.2.2.2.2.2.2.1,h.2.2.2.1,h.2.2.2.2.2.1,fun x hx=>(zRS _).1 h.2.2.2.2.2.2.2 _ (List.mem_map_of_mem hx)⟩
def W1Pd:=cjI @Pt.zMj (cjI @Pt.zHz (cjI @Pt.zYV (cjI @Pt.zPj (cjI @Pt.zQn (cjI @Pt.zXr (cjI @Pt.zMf (cjI @zCC (cjI @zGq (cjI @zGi (cjI @zGk (cjI @zGn (cjI @zGl (cjI @zGm (cjI @Pt.eta (cjI @zGo (@zOj))))))))))))))))
theorem W1P:type_of% W1Pd:=W1Pd
def W2Pd:=cjI @zGo (cjI @zOj (cjI @zGk (cjI @zGn (cjI @zGl (cjI @zGm (@Pt.eta))))))
theorem W2P:type_of% W2Pd:=W2Pd
def keys:List (List UInt8):=[[108,101,116],[114,101,99],[105,110],[102,117,110],[105,102],[116,104,101,110],[101,108,115,101],[109,97,116,99,104],[119,105,116,104],[101,110,100],[116,114,117,101],[102,97,108,115,101],[105,110,116],[98,111,111,108],[115,116,114,105,110,103],[117,110,105,116],[108,105,115,116]]
def keyS(s:ByteArray):Bool:=keys.contains s.data.toList
def lowerB(c:Nat):Bool:=decide (97<=c)&&decide (c<=122)
def zLk(c:Nat):Bool:=lowerB c||(decide (65<=c)&&decide (c<=90))||(decide (48<=c)&&decide (c<=57))||decide (c=95)||decide (c=39)
def zPh(s:ByteArray):Bool:=decide (1<=s.size)&&decide (s.size<=32)&&lowerB (zD2 s 0)&& !keyS s&&allN s.size fun i=>i==0||zLk (zD2 s i)
def okP(p:Pt):Bool:=
 (if p.kind=2 then zPh p.name else decide (p.name.data.toList=[]))&&(if p.kind=3 then true else if p.kind=4 then decide (p.num=0)||decide (p.num=1)else decide (p.num=0))&&
 (if p.kind=5 then decide (p.str.size<=200)else decide (p.str.data.toList=[]))&&decide ((p.kids.length:Int)=if p.kind=7\/p.kind=9 then 2 else 0)&&decide (1<=p.kind)&&decide (p.kind<=9)
end
section
mutual
def zV6:Pt->Nat
 | .mk _ _ _ _ _ _ l=>1+zV7 l
def zV7:List Pt->Nat
 | []=>0
 |t::l=>zV6 t+zV7 l
end
theorem zRP{p:Pt}(h:okP p=true)(hk:p.kind=7\/p.kind=9):p.kids.length=2:=by
 simp only[okP,YAA,YAa]at h
 have:=h.1.1.2
 rw[if_pos hk]at this;omega
theorem zRN{p:Pt}(h:okP p=true):1<=p.kind/\p.kind<=9:=by
 simp only[okP,YAA,YAa]at h
 exact⟨h.1.2,h.2⟩
theorem zWB{pt:Pt}(h:pt.kids.length=2):zV6 (pt.kid 0)+zV6 (pt.kid 1)+1<=zV6 pt:=by
 cases pt with
 |mk k f t m n s ks=>
  match ks,h with
  | [a,b],_=>simp only[Pt.kid,Pt.kids,List.getD_cons_zero,List.getD_cons_succ,zV6,zV7];omega
mutual
def okA:Pt->Bool
 | .mk k f t m n s l=>okP (.mk k f t m n s l)&&okAL l
def okAL:List Pt->Bool
 | []=>true
 |t::l=>okA t&&okAL l
end
theorem zRE:∀ {l:List Pt},okAL l=true->∀x∈l,okA x=true
 | [],_,x,hx=>by simp at hx
 |t::l,h,x,hx=>by
  rw[okAL,YAA]at h
  rcases List.mem_cons.1 hx with rfl|hx
  ·exact h.1
  ·exact zRE h.2 x hx
theorem zRH{p:Pt}(h:okA p=true):okP p=true/\∀x∈p.kids,okA x=true:=by
 cases p with
 |mk k f t m n s l=>
  rw[okA,YAA]at h
  exact⟨h.1,zRE h.2⟩
theorem zD7{a b:ByteArray}(h:a.data.toList=b.data.toList):a=b:=by
 cases a;cases b;simp only[ByteArray.mk.injEq];exact Array.toList_inj.1 h
end
section
def zbJ:List UInt8:=[32,108,101,116,32,114,101,99,32,105,110,32,102,117,110,32,105,102,32,116,104,101,110,32,101,108,115,101,32,109,97,116,99,104,32,119,105,116,104,32,101,110,100,32,116,114,117,101,32,102,97,108,115,101,32,105,110,116,32,98,111,111,108,32,115,116,114,105,110,103,32,117,110,105,116,32,108,105,115,116,32]
def lowU(c:UInt8):Bool:=decide (97<=c.toNat)&&decide (c.toNat<=122)
def zUi(i:Nat):List UInt8:=(zbJ.drop (i+1)).takeWhile lowU
theorem zVE:∀i<81,(zbJ.getD i 0==32)=true->zUi i=[]\/keys.contains (zUi i)=true:=by decide+kernel
theorem zMW:∀k∈keys,(List.range 81).any (fun i=>decide (i+(k.length+2)<=81)&&((zbJ.drop i).take (k.length+2)==32::(k++ [32])))=true:=by decide+kernel
theorem zMV:∀k∈keys,0<k.length:=by decide+kernel
theorem zYO{l r:List UInt8}(h:∀x∈l,lowU x=true):(l++32::r).takeWhile lowU=l:=by
 induction l with
 |nil=>simp[show lowU 32=false by decide]
 |cons a l ih=>
  rw[List.cons_append,List.takeWhile_cons_of_pos (h a YAU),ih fun x hx=>h x (YAT _ hx)]
def zMP(l:List UInt8)(i:Nat):Bool:=(zbJ.drop i).take (l.length+2)==32::(l++ [32])
theorem zMR{l:List UInt8}{i:Nat}(hl:∀x∈l,lowU x=true)(hi:i<81)(h:zMP l i=true):zbJ.getD i 0=32/\zUi i=l:=by
 simp only[zMP,beq_iff_eq]at h
 have e:zbJ.drop i=32::(l++ [32])++(zbJ.drop i).drop (l.length+2):=by
  conv=>lhs;rw[<-List.take_append_drop (l.length+2) (zbJ.drop i),h]
 generalize (zbJ.drop i).drop (l.length+2)=r at e
 constructor
 ·have g:zbJ[i]?=(zbJ.drop i)[0]?:=by simp
  rw[YAF,g,e];rfl
 ·unfold zUi
  have:zbJ.drop (i+1)=(zbJ.drop i).drop 1:=by rw[List.drop_drop]
  rw[this,e]
  simp only[List.cons_append,List.drop_succ_cons,List.drop_zero,List.append_assoc,List.nil_append]
  exact zYO hl
theorem zMQ{l:List UInt8}(hl:∀x∈l,lowU x=true):(∃i,i+(l.length+2)<=81/\0<l.length/\zMP l i=true) ↔ keys.contains l=true:=by
 constructor
 ·rintro⟨i,hi,hp,h⟩
  obtain⟨h1,h2⟩:=zMR hl (by omega) h
  rcases zVE i (by omega) (by simp only[h1,beq_self_eq_true])with h3|h3
  ·rw[h3]at h2;subst h2;simp at hp
  ·rwa[h2]at h3
 ·intro h
  have hm:l∈keys:=by simpa using h
  have h1:=zMW l hm
  rw[List.any_eq_true]at h1
  obtain⟨i,_,h2⟩:=h1
  simp only[YAA,YAa]at h2
  exact⟨i,h2.1,zMV l hm,h2.2⟩
end
end Go.Proofs.YtdngjamjccjlmaaGreat
