/- Lemmas: heaps of stores and of maps. No condition. -/
import Derived.Test.YtdngjamjccjlmaaPAb
section
/- Calls over objects that hand back their own objects as they were: a store's two objects among others. Conditions stand ahead of each part. -/
set_option linter.unusedSimpArgs false
set_option linter.unusedVariables false
namespace Go.Ab
open Go
section
variable {P : Program} {C : Cfg} {K : Exit -> AState -> Prop} {k : List KI} {e : Nat -> AV} {F : List AObj} {b n : Nat}
def retD(C:Cfg)(rs:List ResultVar)(R:AV->List AObj->Prop)(e:Exit)(s:AState):Prop:=
 (match e with| .normal| .ret=>True|_=>False)/\
 match zCc C s rs with
 |some (c,vs)=>c/\(zYm vs).norm.bel s.b=true/\R (zYm vs).norm s.H
 |none=>False
theorem zBN(hC:zAb P C){f:Nat}{fn:Func}{c:Code}{args:List AV}{H:List AObj}{R:AV→List AObj→Prop}(hf:P.funcs[f]?=some fn)(hb:fn.body=some c)(hname:(fn.name== "runtime.NumGoroutine")=false)
 (hn:args.length<=fn.ntmps) (hok:zFG fn.ntmps c=true) (h:AV.zRR args->Go P C (retD C fn.results.toList R) [.code c] (FS (fun t=>args.getD t .any) H H.length fn.ntmps)):zAA P f args H R:=by
 refine zBS ⟨fn,hf,by simp[hb],hname⟩ fun hok'=>acalls hC hf hb hname hn hok ?_
 have h1:=h hok'
 have h2:FS (fun t=>args.getD t .any) H H.length fn.ntmps=zLe args H fn.ntmps:=by simp[FS,zLe]
 rw[h2]at h1
 exact zBG c (fun e s' h2=>by
  obtain⟨h3,h4⟩:=h2
  refine⟨h3,?_⟩
  split at h4
  ·rename_i c vs hares
   try rw[hares]
   exact⟨h4.1,.inl ⟨h4.2.1,h4.2.2⟩⟩
  ·exact h4.elim) h1
theorem zTh{rs:List ResultVar}{R:AV->List AObj->Prop}:retD C rs R .ret (FS e F b n)=match zCc C (FS e F b n) rs with
 |some (c,vs)=>c/\(zYm vs).norm.bel b=true/\R (zYm vs).norm (F.take b)
 |none=>False:=by
 simp only[retD,fs_H,true_and,fs_b]
theorem zTg{rs:List ResultVar}{R:AV->List AObj->Prop}:retD C rs R .normal (FS e F b n)=match zCc C (FS e F b n) rs with
 |some (c,vs)=>c/\(zYm vs).norm.bel b=true/\R (zYm vs).norm (F.take b)
 |none=>False:=by
 simp only[retD,fs_H,true_and,fs_b]
def DCalls(P:Program)(f:Nat)(args:List AV)(F:List AObj)(r:AV)(F':List AObj):Prop:=zAA P f args F fun x G=>x=r/\G=F'
theorem zIA{f:Nat}{args args':List AV}{dst:Option Tmp}{ops:Array Oper}{todo:List Oper}{r:AV}{F':List AObj}(h:DCalls P f args' F r F')(ha:args'=args\/args'=AV.normL args)
 (hb:(∀x∈F.take b,x.bel b=true)->∀x∈F'.take b,x.bel b=true) (hK:GoO P C K ops todo k ((FS e F' b n).put dst r)):zAi P C K f args dst ops todo k (FS e F b n):=
 fsCall h ha fun r' G hr _=>by obtain⟨rfl,rfl⟩:=hr;exact⟨hb,hK⟩
theorem zIl{f:Nat}{args args':List AV}{dst:Option Tmp}{ops:Array Oper}{j:Nat}{todo:List Oper}{r:AV}{F':List AObj}{rd mw zw:Bool}(hz:zw=true)(hf:ZFr C (FS e F b n) F')(h:DCalls P f args' F r F')(ha:args'=args\/args'=AV.normL args)
 (hb:(∀x∈F.take b,x.bel b=true)->∀x∈F'.take b,x.bel b=true) (hK:GoD P C K ops j todo k ((FS e F' b n).put dst r)):zAj P C K f args dst ops j todo k (FS e F b n) rd mw zw:=
 ⟨r,args',ha,.inr (.inr (.inr ⟨hz,F',⟨⟨hb,by rw[zID];exact h⟩,hf⟩,hK⟩))⟩
theorem zIB{f:Nat}{args args':List AV}{dst:Option Tmp}{ops:Array Oper}{todo:List Oper}{r:AV}(h:DCalls P f args' F r F)(ha:args'=args\/args'=AV.normL args)
 (hK:GoO P C K ops todo k ((FS e F b n).put dst r)):zAi P C K f args dst ops todo k (FS e F b n):=zIA h ha id hK
end
def ArrW(es es':List AV):Prop:=es'.length=es.length/\∀i,i<es.length->(cellsOf (es'.getD i .any)).length=(cellsOf (es.getD i .any)).length/\
 ∀j,(cellsOf (es'.getD i .any)).getD j .any=(cellsOf (es.getD i .any)).getD j .any\/(cellsOf (es'.getD i .any)).getD j .any=((cellsOf (es.getD i .any)).getD j .any).norm
theorem zQp{V:View}{w:World}{r ver size:Nat}{es es':List AV}(h:zAy V w r (.arr ver size es))(hw:ArrW es es'):zAy V w r (.arr ver size es'):=by
 obtain⟨blk,cap,h1,h2,h3,h4,h5,h6⟩:=h
 refine⟨blk,cap,h1,h2,by rw[hw.1];exact h3,h4,fun i hi=> ?_,?_⟩
 ·rw[hw.1]at hi;rw[(hw.2 i hi).1];exact h5 i hi
 ·cases blk with
  |none=>exact h6
  |some b=>
   obtain⟨k1,cells,ty,k2,k3,k4,k5⟩:=h6
   refine⟨k1,cells,ty,k2,k3,fun i j hi hj=> ?_,k5⟩
   rw[hw.1]at hi
   have:=k4 i j hi hj
   rcases(hw.2 i hi).2 j with e|e<;>rw[e]
   ·exact this
   ·exact this.normed
theorem zBO{P:Program}{f:Nat}{args:List AV}{F:List AObj}{R R':AV->List AObj->Prop}(h:zAA P f args F R)
 (hR:∀x G,R x G->∃q ver size es es',G[q]?=some (.arr ver size es)/\ArrW es es'/\R' x (G.set q (.arr ver size es'))):zAA P f args F R':=by
 refine⟨h.1,fun V w vs hI hbel hl ha=>(h.2 V w vs hI hbel hl ha).mono fun e w' he=> ?_⟩
 obtain⟨V',v,x,G,g1,g2,g3,g4,g5,g6,g7⟩:=he
 obtain⟨q,ver,size,es,es',hq,hw,hR'⟩:=hR x G g7
 have hql:=zIc hq
 have hobj:∀i y,zLC (G.set q (.arr ver size es')) i=some y->(i=q/\y= .arr ver size es')\/(i≠q/\zLC G i=some y):=by
  intro i y hy
  unfold zLC at hy⊢
  by_cases e:i=q
  ·subst e;rw[zVl hql]at hy;exact .inl ⟨rfl,(Option.some.inj hy).symm⟩
  ·rw[zVk (fun h=>e h.symm)]at hy;exact .inr ⟨e,hy⟩
 have hq':zLC G q=some (.arr ver size es):=hq
 refine⟨V',v,x,_,g1,g2,g3,g4,⟨g5.base,g5.imm,fun i n y hy=> ?_,fun i y hy=> ?_,fun i j y z b hy hz hb hc=> ?_⟩,by simpa using g6,hR'⟩
 ·have:=g5.dom i n y hy
  unfold zLC at this⊢
  simp only[List.getElem?_set]
  split
  ·first|rfl|(split<;>first|rfl|(simp_all;done))
  ·exact this
 ·rcases hobj i y hy with ⟨e1,rfl⟩|⟨_,hy2⟩
  ·subst e1;exact zQp (g5.objs _ _ hq') hw
  ·exact g5.objs i y hy2
 ·have own_eq:∀i,own V' i (.arr ver size es')=own V' i (.arr ver size es):=fun i=>rfl
  rcases hobj i y hy with ⟨e1,e2⟩|⟨_,hy2⟩<;>rcases hobj j z hz with ⟨e3,e4⟩|⟨_,hz2⟩
  ·rw[e1,e3]
  ·subst e1;subst e2;exact g5.sep _ _ _ _ b hq' hz2 hb hc
  ·subst e3;subst e4;exact g5.sep _ _ _ _ b hy2 hq' hb hc
  ·exact g5.sep _ _ _ _ b hy2 hz2 hb hc
def stF(F:List AObj)(s r:Nat)(bx ar:AObj):List AObj:=(F.set s bx).set r ar
section
variable {F : List AObj} {s r : Nat}
@[simp] theorem zXB {bx ar:AObj}:(stF F s r bx ar).length=F.length:=by simp[stF]
theorem zW9{L:List AObj}{bx ar:AObj}(hs:s<F.length)(hr:r<F.length):stF F s r bx ar++L=stF (F++L) s r bx ar:=by
 unfold stF;rw[zCW hs,zCW (by simpa using hr)]
theorem zXF{bx ar:AObj}(hs:s<F.length)(hne:r≠s):(stF F s r bx ar)[s]?=some bx:=by
 unfold stF;rw[zVk hne,zVl hs]
theorem zXE{bx ar:AObj}(hr:r<F.length):(stF F s r bx ar)[r]?=some ar:=by
 unfold stF;rw[zVl (by simpa using hr)]
theorem zXI{bx ar bx':AObj}(hne:r≠s):(stF F s r bx ar).set s bx'=stF F s r bx' ar:=by
 unfold stF;rw[List.set_comm _ _ hne,List.set_set]
theorem zXH{bx ar ar':AObj}:(stF F s r bx ar).set r ar'=stF F s r bx ar':=by
 unfold stF;rw[List.set_set]
theorem zXC{q:Nat}{bx ar:AObj}(h1:s≠q)(h2:r≠q):(stF F s r bx ar)[q]?=F[q]?:=by
 unfold stF;rw[zVk h2,zVk h1]
theorem zXG{q:Nat}{bx ar x:AObj}(h1:s≠q)(h2:r≠q):(stF F s r bx ar).set q x=stF (F.set q x) s r bx ar:=by
 unfold stF;rw[List.set_comm _ _ h2,List.set_comm _ _ h1]
theorem zXK{G J:List AObj}{bx ar:AObj}(hs:s<G.length)(hr:r<G.length):(stF (G++J) s r bx ar).take G.length=stF G s r bx ar:=by
 rw[<-zW9 hs hr,List.take_left' zXB]
theorem zN3{q:Nat}{L:List AObj}(h:q<F.length):q<(F++L).length:=by simp;omega
theorem qcalls_st{P:Program}{f:Nat}{args:List AV}{x:AV}{bx ar:AObj}{obj:Nat->Option AObj}(h:∀F':List AObj,s<F'.length->r<F'.length->DCalls P f args (stF F' s r bx ar) x (stF F' s r bx ar))
 (h1:obj s=some bx) (h2:obj r=some ar) (m1:bx.mute=false) (m2:ar.mute=false):zA5 P f args x obj:=by
 intro F' hF
 have e1:=hF _ _ h1 m1
 have e2:=hF _ _ h2 m2
 have e:stF F' s r bx ar=F':=by unfold stF;rw[zVm e1,zVm e2]
 have:=h F' (zIc e1) (zIc e2)
 rw[e]at this
 exact this
theorem stP(hs:s<F.length)(hr:r<F.length)(hne:r≠s):
 (∀bx ar,(stF F s r bx ar).length=F.length)/\(∀L bx ar,(stF (F++L) s r bx ar).length=F.length+L.length)/\
 (∀L bx ar,stF F s r bx ar++L=stF (F++L) s r bx ar)/\(∀L M bx ar,stF (F++L) s r bx ar++M=stF (F++(L++M)) s r bx ar)/\
 (∀bx ar,(stF F s r bx ar)[s]?=some bx)/\(∀L bx ar,(stF (F++L) s r bx ar)[s]?=some bx)/\
 (∀bx ar,(stF F s r bx ar)[r]?=some ar)/\(∀L bx ar,(stF (F++L) s r bx ar)[r]?=some ar)/\
 (∀G bx ar x,(stF G s r bx ar).set s x=stF G s r x ar)/\(∀G bx ar x,(stF G s r bx ar).set r x=stF G s r bx x)/\
 (∀L bx ar,(stF (F++L) s r bx ar)[F.length]?=L[0]?)/\(∀L j bx ar,(stF (F++L) s r bx ar)[F.length+j]?=L[j]?)/\
 (∀L bx ar x,(stF (F++L) s r bx ar).set F.length x=stF (F++L.set 0 x) s r bx ar)/\(∀L j bx ar x,(stF (F++L) s r bx ar).set (F.length+j) x=stF (F++L.set j x) s r bx ar)/\
 (∀bx ar,(stF F s r bx ar).take F.length=stF F s r bx ar)/\(∀L bx ar,(stF (F++L) s r bx ar).take F.length=stF F s r bx ar)/\
 (∀bx ar,((F.length<=(stF F s r bx ar).length)=True))/\(∀L bx ar,((F.length<=(stF (F++L) s r bx ar).length)=True)):=by
 have hs':∀L:List AObj,s<(F++L).length:=fun L=>by simp;omega
 have hr':∀L:List AObj,r<(F++L).length:=fun L=>by simp;omega
 have n1:∀j,s≠F.length+j:=fun j=>by omega
 have n2:∀j,r≠F.length+j:=fun j=>by omega
 refine⟨fun _ _=>zXB,fun L _ _=>by rw[zXB,YAJ],fun _ _ _=>zW9 hs hr,fun L M _ _=>by rw[zW9 (hs' L) (hr' L),List.append_assoc],
  fun _ _=>zXF hs hne,fun L _ _=>zXF (hs' L) hne,fun _ _=>zXE hr,fun L _ _=>zXE (hr' L),fun _ _ _ _=>zXI hne,fun _ _ _ _=>zXH,
  fun L _ _=> ?_,fun L j _ _=> ?_,fun L _ _ x=> ?_,fun L j _ _ x=> ?_,fun _ _=> ?_,fun L _ _=>zXK hs hr,fun _ _=>by simp[zXB],fun L _ _=>by simp[zXB]⟩
 ·rw[zXC (by simpa using n1 0) (by simpa using n2 0),zCT rfl]
 ·rw[zXC (n1 j) (n2 j),zCU rfl]
 ·rw[zXG (by simpa using n1 0) (by simpa using n2 0),zCX rfl]
 ·rw[zXG (n1 j) (n2 j),zCY rfl]
 ·rw[List.take_of_length_le];rw[zXB];exact YAV _
theorem zXA{b:Nat}{bx ar bx' ar':AObj}(hs:s<F.length)(hr:r<F.length)(hne:r≠s)(h1:s<b->bx.bel b=true->bx'.bel b=true)(h2:ar'.bel b=true)
 (h:∀x∈(stF F s r bx ar).take b,x.bel b=true):∀x∈(stF F s r bx' ar').take b,x.bel b=true:=by
 intro x hx
 obtain⟨i,hi,rfl⟩:=List.getElem_of_mem hx
 have hib:i<b:=by have:=List.length_take_le b (stF F s r bx' ar');omega
 have hil:i<F.length:=by rw[List.length_take,zXB]at hi;omega
 have key:∀(bx ar:AObj) (x:AObj),(stF F s r bx ar)[i]?=some x->x∈(stF F s r bx ar).take b:=fun bx ar x e=>by
  refine List.mem_iff_getElem?.2 ⟨i,?_⟩
  rw[List.getElem?_take_of_lt hib];exact e
 have e:((stF F s r bx' ar').take b)[i]?=(stF F s r bx' ar')[i]?:=List.getElem?_take_of_lt hib
 have e2:(stF F s r bx' ar')[i]?=some ((stF F s r bx' ar').take b)[i]:=by rw[<-e];exact YAI hi
 by_cases h3:i=s
 ·subst h3
  rw[zXF hs hne]at e2
  rw[<-Option.some.inj e2]
  exact h1 hib (h _ (key bx ar _ (zXF hs hne)))
 ·by_cases h4:i=r
  ·subst h4
   rw[zXE hr]at e2
   rw[<-Option.some.inj e2];exact h2
  ·rw[zXC (fun h=>h3 h.symm) (fun h=>h4 h.symm)]at e2
   exact h _ (key bx ar _ (by rw[zXC (fun h=>h3 h.symm) (fun h=>h4 h.symm)];exact e2))
end
theorem eD{P:Program}{C:Cfg}{f:Nat}{fn:Func}{c:Code}{args:List AV}{rs:Array ResultVar}(hC:zAb P C)(hf:P.funcs[f]?=some fn)(hs:fn.results=rs){H:List AObj}{R:AV→List AObj→Prop}(h:AV.zRR args→Go P C (retD C rs.toList R) [.code c] (FS (fun t=>args.getD t .any) H H.length fn.ntmps))(hb:fn.body=some c:=by exact rfl)(hname:(fn.name== "runtime.NumGoroutine")=false:=by decide)(hn:args.length≤fn.ntmps:=by exact YAL rfl)(hok:zFG fn.ntmps c=true:=by decide):zAA P f args H R:=by subst hs;exact zBN hC hf hb hname hn hok h
end Go.Ab
end
section
/- Calls whose heap gets a place for a slice that is nil so far; calls that hand back slices of objects of their own, which nobody writes any more. Conditions stand ahead of each part. -/
set_option linter.unusedSimpArgs false
set_option linter.unusedVariables false
namespace Go.Ab
open Go
section
variable {P : Program}
theorem zSZ{f:Nat}{args:List AV}{r:AV}(hr:r.bel 0=true)(h:∀F:List AObj,DCalls P f args F r F):zA0 P f args r:=⟨hr,h⟩
def frzA:List (Nat×Nat×List AV)->AV->AV
 | [],x=>x
 |(q,ver,es)::fz,.ms r v n=>if r=q/\v=ver/\n<=es.length then .sl (es.take n) .no else frzA fz (.ms r v n)
 |_::_,x=>x
def frzV(fz:List (Nat×Nat×List AV)):AV->AV
 | .tup vs=> .tup (vs.map (frzA fz))
 |x=>frzA fz x
theorem zH5{fz:List (Nat×Nat×List AV)}{r v n:Nat}:frzA fz (.ms r v n)= .ms r v n\/∃es,(r,v,es)∈fz/\n<=es.length/\frzA fz (.ms r v n)= .sl (es.take n) .no:=by
 induction fz with
 |nil=>exact .inl rfl
 |cons p fz ih=>
  obtain⟨q,ver,es⟩:=p
  simp only[frzA]
  split
  ·rename_i h;obtain⟨rfl,rfl,h3⟩:=h;exact .inr ⟨es,YAU,h3,rfl⟩
  ·rcases ih with h|⟨es',h1,h2,h3⟩
   ·exact .inl h
   ·exact .inr ⟨es',YAT _ h1,h2,h3⟩
theorem zH6{fz:List (Nat×Nat×List AV)}{x:AV}(h:∀r v n,x≠ .ms r v n):frzA fz x=x:=by
 cases fz with
 |nil=>rfl
 |cons p fz=>cases x<;>first|rfl|exact absurd rfl (h _ _ _)
def zAh(V V':View)(fz:List (Nat×Nat×List AV)):Prop:=∀q ver es,(q,ver,es)∈fz->∀n,n<=es.length->∀u,Rep V u (.ms q ver n)->Rep V' u (.sl (es.take n) .no)
theorem zAh.one{V V':View}{fz:List (Nat×Nat×List AV)}{m:Nat}(h:zAh V V' fz)(hc:(V.cut m).Le V'){u:Value}{x:AV}(hu:Rep V u x)(hb:(frzA fz x).bel m=true):Rep V' u (frzA fz x):=by
 by_cases hx:∃r v n,x= .ms r v n
 ·obtain⟨r,v,n,rfl⟩:=hx
  rcases zH5 (fz:=fz) (r:=r) (v:=v) (n:=n)with e|⟨es,h1,h2,e⟩
  ·rw[e]at hb⊢;exact(hu.cut hb).mono hc
  ·rw[e];exact h _ _ _ h1 n h2 u hu
 ·rw[zH6 (fun r v n e=>hx ⟨r,v,n,e⟩)]at hb⊢;exact(hu.cut hb).mono hc
theorem zAh.val{V V':View}{fz:List (Nat×Nat×List AV)}{m:Nat}(h:zAh V V' fz)(hc:(V.cut m).Le V'){u:Value}{x:AV}(hu:Rep V u x)(hb:(frzV fz x).bel m=true):Rep V' u (frzV fz x):=by
 by_cases hx:∃vs,x= .tup vs
 ·obtain⟨vs,rfl⟩:=hx
  simp only[frzV,AV.bel]at hb⊢
  cases hu with
  |tup cs _ hl h2=>
   refine .tup cs _ (by simpa using hl) fun i hi=> ?_
   rw[YAK]at hi
   have e:(vs.map (frzA fz)).getD i .any=frzA fz (vs.getD i .any):=by simp[hi]
   have:=zDU hb i
   rw[e]at this⊢
   exact h.one hc (h2 i hi) this
 ·have e:frzV fz x=frzA fz x:=by cases x<;>first|rfl|exact absurd ⟨_,rfl⟩ hx
  rw[e]at hb⊢
  exact h.one hc hu hb
end
end Go.Ab
end
