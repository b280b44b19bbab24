/- Lemmas: heaps of stores and of maps. No condition. -/
import Derived.Test.YtmpegnogdgbleaaPAb
section
/- Calls over objects that hand back their own objects as they were: a store's two objects among others. Conditions stand ahead of each part. -/
set_option linter.unusedSimpArgs false
set_option linter.unusedVariables false
namespace Go.Ab
open Go
section
variable {P : Program} {C : Cfg} {K : Exit -> AState -> Prop} {k : List KI} {e : Nat -> AV} {F : List AObj} {b n : Nat}
def retD(C:Cfg)(rs:List ResultVar)(R:AV->List AObj->Prop)(e:Exit)(s:AState):Prop:=
 (match e with| .normal| .ret=>True|_=>False)/\
 match zCc C s rs with
 |some (c,vs)=>c/\(zYm vs).norm.bel s.b=true/\R (zYm vs).norm s.H
 |none=>False
theorem zBN(hC:zAb P C){f:Nat}{fn:Func}{c:Code}{args:List AV}{H:List AObj}{R:AV→List AObj→Prop}(hf:P.funcs[f]?=some fn)(hb:fn.body=some c)(hname:(fn.name== "runtime.NumGoroutine")=false)
 (hn:args.length<=fn.ntmps) (hok:zFG fn.ntmps c=true) (h:AV.zRR args->Go P C (retD C fn.results.toList R) [.code c] (FS (fun t=>args.getD t .any) H H.length fn.ntmps)):zAA P f args H R:=by
 refine zBS ⟨fn,hf,by simp[hb],hname⟩ fun hok'=>acalls hC hf hb hname hn hok ?_
 have h1:=h hok'
 have h2:FS (fun t=>args.getD t .any) H H.length fn.ntmps=zLe args H fn.ntmps:=by simp[FS,zLe]
 rw[h2]at h1
 exact zBG c (fun e s' h2=>by
  obtain⟨h3,h4⟩:=h2
  refine⟨h3,?_⟩
  split at h4
  ·rename_i c vs hares
   try rw[hares]
   exact⟨h4.1,.inl ⟨h4.2.1,h4.2.2⟩⟩
  ·exact h4.elim) h1
theorem zTh{rs:List ResultVar}{R:AV->List AObj->Prop}:retD C rs R .ret (FS e F b n)=match zCc C (FS e F b n) rs with
 |some (c,vs)=>c/\(zYm vs).norm.bel b=true/\R (zYm vs).norm (F.take b)
 |none=>False:=by
 simp only[retD,fs_H,true_and,fs_b]
theorem zTg{rs:List ResultVar}{R:AV->List AObj->Prop}:retD C rs R .normal (FS e F b n)=match zCc C (FS e F b n) rs with
 |some (c,vs)=>c/\(zYm vs).norm.bel b=true/\R (zYm vs).norm (F.take b)
 |none=>False:=by
 simp only[retD,fs_H,true_and,fs_b]
def zAd(P:Program)(f:Nat)(args:List AV)(F:List AObj)(r:AV)(F':List AObj):Prop:=zAA P f args F fun x G=>x=r/\G=F'
theorem zIA{f:Nat}{args args':List AV}{dst:Option Tmp}{ops:Array Oper}{todo:List Oper}{r:AV}{F':List AObj}(h:zAd P f args' F r F')(ha:args'=args\/args'=AV.normL args)
 (hb:(∀x∈F.take b,x.bel b=true)->∀x∈F'.take b,x.bel b=true) (hK:GoO P C K ops todo k ((FS e F' b n).put dst r)):zAi P C K f args dst ops todo k (FS e F b n):=
 fsCall h ha fun r' G hr _=>by obtain⟨rfl,rfl⟩:=hr;exact⟨hb,hK⟩
theorem zIl{f:Nat}{args args':List AV}{dst:Option Tmp}{ops:Array Oper}{j:Nat}{todo:List Oper}{r:AV}{F':List AObj}{rd mw zw:Bool}(hz:zw=true)(hf:ZFr C (FS e F b n) F')(h:zAd P f args' F r F')(ha:args'=args\/args'=AV.normL args)
 (hb:(∀x∈F.take b,x.bel b=true)->∀x∈F'.take b,x.bel b=true) (hK:GoD P C K ops j todo k ((FS e F' b n).put dst r)):zAj P C K f args dst ops j todo k (FS e F b n) rd mw zw:=
 ⟨r,args',ha,.inr (.inr (.inr ⟨hz,F',⟨⟨hb,by rw[zID];exact h⟩,hf⟩,hK⟩))⟩
theorem zIB{f:Nat}{args args':List AV}{dst:Option Tmp}{ops:Array Oper}{todo:List Oper}{r:AV}(h:zAd P f args' F r F)(ha:args'=args\/args'=AV.normL args)
 (hK:GoO P C K ops todo k ((FS e F b n).put dst r)):zAi P C K f args dst ops todo k (FS e F b n):=zIA h ha id hK
theorem zaq{l:List (Nat×AV)}{F':List AObj}(hF:F.take F'.length=F')(hb:b<=F'.length)(h:∀p∈l,e p.1=p.2\/(e p.1).norm=p.2)
 (h1:∀p∈l,p.2.bel F'.length=true) (h2:∀x∈F'.drop b,x.bel F'.length=true):Weak (FS e F b n) (FS (envL l) F' b n):=by
 have hbl:b+(F'.drop b).length=F'.length:=by simp;omega
 unfold FS
 have hH:F'.take b=F.take b:=by rw[<-hF,List.take_take];congr 1;omega
 refine zas rfl rfl (by rw[hH]) ?_ h ?_ ?_
 ·simp only
  conv=>rhs;rw[<-hF]
  rw[List.drop_take]
  simp
 ·intro p hp;rw[hbl];exact h1 p hp
 ·intro x hx;rw[hbl];exact h2 x hx
end
def ArrW(es es':List AV):Prop:=es'.length=es.length/\∀i,i<es.length->(cellsOf (es'.getD i .any)).length=(cellsOf (es.getD i .any)).length/\
 ∀j,(cellsOf (es'.getD i .any)).getD j .any=(cellsOf (es.getD i .any)).getD j .any\/(cellsOf (es'.getD i .any)).getD j .any=((cellsOf (es.getD i .any)).getD j .any).norm
def stF(F:List AObj)(s r:Nat)(bx ar:AObj):List AObj:=(F.set s bx).set r ar
section
variable {F : List AObj} {s r : Nat}
@[simp] theorem zXB {bx ar:AObj}:(stF F s r bx ar).length=F.length:=by simp[stF]
theorem zW9{L:List AObj}{bx ar:AObj}(hs:s<F.length)(hr:r<F.length):stF F s r bx ar++L=stF (F++L) s r bx ar:=by
 unfold stF;rw[zCW hs,zCW (by simpa using hr)]
theorem zXF{bx ar:AObj}(hs:s<F.length)(hne:r≠s):(stF F s r bx ar)[s]?=some bx:=by
 unfold stF;rw[zVk hne,zVl hs]
theorem zXE{bx ar:AObj}(hr:r<F.length):(stF F s r bx ar)[r]?=some ar:=by
 unfold stF;rw[zVl (by simpa using hr)]
theorem zXI{bx ar bx':AObj}(hne:r≠s):(stF F s r bx ar).set s bx'=stF F s r bx' ar:=by
 unfold stF;rw[List.set_comm _ _ hne,List.set_set]
theorem zXH{bx ar ar':AObj}:(stF F s r bx ar).set r ar'=stF F s r bx ar':=by
 unfold stF;rw[List.set_set]
theorem zXC{q:Nat}{bx ar:AObj}(h1:s≠q)(h2:r≠q):(stF F s r bx ar)[q]?=F[q]?:=by
 unfold stF;rw[zVk h2,zVk h1]
theorem zXG{q:Nat}{bx ar x:AObj}(h1:s≠q)(h2:r≠q):(stF F s r bx ar).set q x=stF (F.set q x) s r bx ar:=by
 unfold stF;rw[List.set_comm _ _ h2,List.set_comm _ _ h1]
theorem zXK{G J:List AObj}{bx ar:AObj}(hs:s<G.length)(hr:r<G.length):(stF (G++J) s r bx ar).take G.length=stF G s r bx ar:=by
 rw[<-zW9 hs hr,List.take_left' zXB]
theorem qcalls_st{P:Program}{f:Nat}{args:List AV}{x:AV}{bx ar:AObj}{obj:Nat->Option AObj}(h:∀F':List AObj,s<F'.length->r<F'.length->zAd P f args (stF F' s r bx ar) x (stF F' s r bx ar))
 (h1:obj s=some bx) (h2:obj r=some ar) (m1:bx.mute=false) (m2:ar.mute=false):zA5 P f args x obj:=by
 intro F' hF
 have e1:=hF _ _ h1 m1
 have e2:=hF _ _ h2 m2
 have e:stF F' s r bx ar=F':=by unfold stF;rw[zVm e1,zVm e2]
 have:=h F' (zIc e1) (zIc e2)
 rw[e]at this
 exact this
theorem stP(hs:s<F.length)(hr:r<F.length)(hne:r≠s):
 (∀bx ar,(stF F s r bx ar).length=F.length)/\(∀L bx ar,(stF (F++L) s r bx ar).length=F.length+L.length)/\
 (∀L bx ar,stF F s r bx ar++L=stF (F++L) s r bx ar)/\(∀L M bx ar,stF (F++L) s r bx ar++M=stF (F++(L++M)) s r bx ar)/\
 (∀bx ar,(stF F s r bx ar)[s]?=some bx)/\(∀L bx ar,(stF (F++L) s r bx ar)[s]?=some bx)/\
 (∀bx ar,(stF F s r bx ar)[r]?=some ar)/\(∀L bx ar,(stF (F++L) s r bx ar)[r]?=some ar)/\
 (∀G bx ar x,(stF G s r bx ar).set s x=stF G s r x ar)/\(∀G bx ar x,(stF G s r bx ar).set r x=stF G s r bx x)/\
 (∀L bx ar,(stF (F++L) s r bx ar)[F.length]?=L[0]?)/\(∀L j bx ar,(stF (F++L) s r bx ar)[F.length+j]?=L[j]?)/\
 (∀L bx ar x,(stF (F++L) s r bx ar).set F.length x=stF (F++L.set 0 x) s r bx ar)/\(∀L j bx ar x,(stF (F++L) s r bx ar).set (F.length+j) x=stF (F++L.set j x) s r bx ar)/\
 (∀bx ar,(stF F s r bx ar).take F.length=stF F s r bx ar)/\(∀L bx ar,(stF (F++L) s r bx ar).take F.length=stF F s r bx ar)/\
 (∀bx ar,((F.length<=(stF F s r bx ar).length)=True))/\(∀L bx ar,((F.length<=(stF (F++L) s r bx ar).length)=True)):=by
 have hs':∀L:List AObj,s<(F++L).length:=fun L=>by simp;omega
 have hr':∀L:List AObj,r<(F++L).length:=fun L=>by simp;omega
 have n1:∀j,s≠F.length+j:=fun j=>by omega
 have n2:∀j,r≠F.length+j:=fun j=>by omega
 refine⟨fun _ _=>zXB,fun L _ _=>by rw[zXB,YAJ],fun _ _ _=>zW9 hs hr,fun L M _ _=>by rw[zW9 (hs' L) (hr' L),List.append_assoc],
  fun _ _=>zXF hs hne,fun L _ _=>zXF (hs' L) hne,fun _ _=>zXE hr,fun L _ _=>zXE (hr' L),fun _ _ _ _=>zXI hne,fun _ _ _ _=>zXH,
  fun L _ _=> ?_,fun L j _ _=> ?_,fun L _ _ x=> ?_,fun L j _ _ x=> ?_,fun _ _=> ?_,fun L _ _=>zXK hs hr,fun _ _=>by simp[zXB],fun L _ _=>by simp[zXB]⟩
 ·rw[zXC (by simpa using n1 0) (by simpa using n2 0),zCT rfl]
 ·rw[zXC (n1 j) (n2 j),zCU rfl]
 ·rw[zXG (by simpa using n1 0) (by simpa using n2 0),zCX rfl]
 ·rw[zXG (n1 j) (n2 j),zCY rfl]
 ·rw[List.take_of_length_le];rw[zXB];exact YAV _
theorem zXA{b:Nat}{bx ar bx' ar':AObj}(hs:s<F.length)(hr:r<F.length)(hne:r≠s)(h1:s<b->bx.bel b=true->bx'.bel b=true)(h2:ar'.bel b=true)
 (h:∀x∈(stF F s r bx ar).take b,x.bel b=true):∀x∈(stF F s r bx' ar').take b,x.bel b=true:=by
 intro x hx
 obtain⟨i,hi,rfl⟩:=List.getElem_of_mem hx
 have hib:i<b:=by have:=List.length_take_le b (stF F s r bx' ar');omega
 have hil:i<F.length:=by rw[List.length_take,zXB]at hi;omega
 have key:∀(bx ar:AObj) (x:AObj),(stF F s r bx ar)[i]?=some x->x∈(stF F s r bx ar).take b:=fun bx ar x e=>by
  refine List.mem_iff_getElem?.2 ⟨i,?_⟩
  rw[List.getElem?_take_of_lt hib];exact e
 have e:((stF F s r bx' ar').take b)[i]?=(stF F s r bx' ar')[i]?:=List.getElem?_take_of_lt hib
 have e2:(stF F s r bx' ar')[i]?=some ((stF F s r bx' ar').take b)[i]:=by rw[<-e];exact YAI hi
 by_cases h3:i=s
 ·subst h3
  rw[zXF hs hne]at e2
  rw[<-Option.some.inj e2]
  exact h1 hib (h _ (key bx ar _ (zXF hs hne)))
 ·by_cases h4:i=r
  ·subst h4
   rw[zXE hr]at e2
   rw[<-Option.some.inj e2];exact h2
  ·rw[zXC (fun h=>h3 h.symm) (fun h=>h4 h.symm)]at e2
   exact h _ (key bx ar _ (by rw[zXC (fun h=>h3 h.symm) (fun h=>h4 h.symm)];exact e2))
end
theorem eD{P:Program}{C:Cfg}{f:Nat}{fn:Func}{c:Code}{args:List AV}{rs:Array ResultVar}(hC:zAb P C)(hf:P.funcs[f]?=some fn)(hs:fn.results=rs){H:List AObj}{R:AV→List AObj→Prop}(h:AV.zRR args→Go P C (retD C rs.toList R) [.code c] (FS (fun t=>args.getD t .any) H H.length fn.ntmps))(hb:fn.body=some c:=by exact rfl)(hname:(fn.name== "runtime.NumGoroutine")=false:=by decide)(hn:args.length≤fn.ntmps:=by exact YAL rfl)(hok:zFG fn.ntmps c=true:=by decide):zAA P f args H R:=by subst hs;exact zBN hC hf hb hname hn hok h
end Go.Ab
end
section
/- Calls whose heap gets a place for a slice that is nil so far; calls that hand back slices of objects of their own, which nobody writes any more. Conditions stand ahead of each part. -/
set_option linter.unusedSimpArgs false
set_option linter.unusedVariables false
namespace Go.Ab
open Go
section
variable {P : Program}
theorem zSZ{f:Nat}{args:List AV}{r:AV}(hr:r.bel 0=true)(h:∀F:List AObj,zAd P f args F r F):zA0 P f args r:=⟨hr,h⟩
theorem zb6{f:Nat}{args:List AV}{F:List AObj}{R:AV->List AObj->Prop}{p off size:Nat}{cs:List AV}(hp:F[p]?=some (.box cs))(ho:cs[off]?=some (.sl [] .full))
 (h:zAA P f args (F.set p (.box (cs.set off (.ms F.length 0 0)))++ [.arr 0 size []]) R):zAA P f args F R:=by
 refine⟨h.1,fun V w vs hI hbel hl ha=> ?_⟩
 have hpl:=zIc hp
 have hq:∀m,V.loc F.length m=none:=fun m=>by
  cases hm:V.loc F.length m with
  |none=>rfl
  |some y=>have:=hI.dom _ m y hm;simp[zLC]at this
 let V':View:= {V with loc:=fun r m=>if r=F.length then(if m=0 then some (none,0)else none)else V.loc r m}
 have hle:V.Le V':=⟨rfl,fun _ _ _ h=>h,fun r m y hy=>by
  by_cases hr:r=F.length
  ·subst hr;rw[hq m]at hy;cases hy
  ·simp[V',hr,hy]⟩
 have h1:Inv V' (fun r=>if r=F.length then some (.arr 0 size [])else zLC F r) w:=by
  refine hI.upd hle F.length _ (YAV _) hI.imm (fun _ _ _ _ _ _=>⟨rfl,fun _ h=>h⟩) (fun r m hr=>by simp[V',hr]) ?_ (fun b hb=>by simp[own,V']at hb)
  exact⟨none,0,by simp[V'],fun m hm=>by simp[V'];omega,YAV _,YAX _,fun i hi=>absurd hi (by simp),rfl⟩
 have hpne:p≠F.length:=by omega
 have hpo:(fun r=>if r=F.length then some (.arr 0 size [])else zLC F r) p=some (.box cs):=by simp only[if_neg hpne];exact hp
 obtain⟨b,c,cells,ty,g1,g2,g3,g4,g5,g6⟩:=h1.objs p _ hpo
 have hol:off<cs.length:=(YAS.1 ho).1
 have h2:Inv V' (fun r=>if r=p then some (.box (cs.set off (.ms F.length 0 0)))else if r=F.length then some (.arr 0 size [])else zLC F r) w:=by
  refine h1.upd (View.Le.refl _) p _ (YAV _) h1.imm (fun _ _ _ _ _ _=>⟨rfl,fun _ h=>h⟩) (fun _ _ _=>rfl) ⟨b,c,cells,ty,g1,g2,g3,by simpa using g4,fun i hi=> ?_,g6⟩ (fun b' hb r1 x1 hne ho1 hb1=> ?_)
  ·rw[List.length_set]at hi
   have h3:=g5 i hi
   by_cases e:off=i
   ·subst e
    have e1:cs.getD off .any= .sl [] .full:=by rw[YAF,ho];rfl
    have e2:(cs.set off (.ms F.length 0 0)).getD off .any= .ms F.length 0 0:=by rw[YAF,List.getElem?_set_self hol];rfl
    rw[e1]at h3
    rw[e2]
    generalize cells.getD off undef=u at h3
    cases h3 with
    |sl bse len cap _ _ sz b o val hl hc hm hb hs hi hr ht hf=>
     subst hl
     obtain⟨rfl,h4⟩:=hf.1 rfl
     have:=h4 rfl
     subst this
     exact .ms F.length 0 0 none 0 (by simp[V']) (YAV _) (YAX _) fun _=>rfl
   ·have e2:(cs.set off (.ms F.length 0 0)).getD i .any=cs.getD i .any:=by simp only[YAF,List.getElem?_set_ne e]
    rw[e2];exact h3
  ·exact hne (h1.sep r1 p x1 (.box cs) b' ho1 hpo hb1 hb)
 have e:(fun r=>if r=p then some (.box (cs.set off (.ms F.length 0 0)))else if r=F.length then some (AObj.arr 0 size [])else zLC F r)=zLC (F.set p (.box (cs.set off (.ms F.length 0 0)))++ [.arr 0 size []]):=by
  funext r
  unfold zLC
  by_cases e1:r=p
  ·subst e1;rw[if_pos rfl,YAG (by simpa using hpl),zVl hpl]
  ·rw[if_neg e1]
   by_cases e2:r=F.length
   ·subst e2;rw[if_pos rfl,YAH (by simp)];simp
   ·rw[if_neg e2]
    by_cases e3:r<F.length
    ·rw[YAG (by simpa using e3),zVk (fun h=>e1 h.symm)]
    ·rw[YAR (by omega),YAR (by simp;omega)]
 rw[e]at h2
 have hlen:(F.set p (.box (cs.set off (.ms F.length 0 0)))++ [AObj.arr 0 size []]).length=F.length+1:=by simp
 have hbel':∀x∈F.set p (.box (cs.set off (.ms F.length 0 0)))++ [AObj.arr 0 size []],x.bel (F.set p (.box (cs.set off (.ms F.length 0 0)))++ [AObj.arr 0 size []]).length=true:=by
  rw[hlen]
  intro x hx
  rcases List.mem_append.1 hx with hx|hx
  ·rcases List.mem_or_eq_of_mem_set hx with hx|rfl
   ·exact AObj.zDZ (Nat.le_succ _) (hbel x hx)
   ·have h3:=AObj.zDZ (Nat.le_succ _) (hbel _ (List.mem_of_getElem? hp))
    simp only[AObj.bel,zDV]at h3⊢
    intro y hy
    rcases List.mem_or_eq_of_mem_set hy with hy|rfl
    ·exact h3 y hy
    ·simp[AV.bel]
  ·simp only[List.mem_singleton]at hx;subst hx;rfl
 refine(h.2 V' w vs h2 hbel' hl (fun i hi=>(ha i hi).mono hle)).mono fun e w' he=> ?_
 obtain⟨V2,v,r,G,k1,k2,k3,k4,k5,k6,k7⟩:=he
 exact⟨V2,v,r,G,hle.trans k1,k2,k3,k4,k5,by rw[hlen]at k6;omega,k7⟩
def frzA:List (Nat×Nat×List AV)->AV->AV
 | [],x=>x
 |(q,ver,es)::fz,.ms r v n=>if r=q/\v=ver/\n<=es.length then .sl (es.take n) .no else frzA fz (.ms r v n)
 |_::_,x=>x
def frzV(fz:List (Nat×Nat×List AV)):AV->AV
 | .tup vs=> .tup (vs.map (frzA fz))
 |x=>frzA fz x
theorem zH5{fz:List (Nat×Nat×List AV)}{r v n:Nat}:frzA fz (.ms r v n)= .ms r v n\/∃es,(r,v,es)∈fz/\n<=es.length/\frzA fz (.ms r v n)= .sl (es.take n) .no:=by
 induction fz with
 |nil=>exact .inl rfl
 |cons p fz ih=>
  obtain⟨q,ver,es⟩:=p
  simp only[frzA]
  split
  ·rename_i h;obtain⟨rfl,rfl,h3⟩:=h;exact .inr ⟨es,YAU,h3,rfl⟩
  ·rcases ih with h|⟨es',h1,h2,h3⟩
   ·exact .inl h
   ·exact .inr ⟨es',YAT _ h1,h2,h3⟩
theorem zH6{fz:List (Nat×Nat×List AV)}{x:AV}(h:∀r v n,x≠ .ms r v n):frzA fz x=x:=by
 cases fz with
 |nil=>rfl
 |cons p fz=>cases x<;>first|rfl|exact absurd rfl (h _ _ _)
def zAh(V V':View)(fz:List (Nat×Nat×List AV)):Prop:=∀q ver es,(q,ver,es)∈fz->∀n,n<=es.length->∀u,Rep V u (.ms q ver n)->Rep V' u (.sl (es.take n) .no)
theorem zAh.one{V V':View}{fz:List (Nat×Nat×List AV)}{m:Nat}(h:zAh V V' fz)(hc:(V.cut m).Le V'){u:Value}{x:AV}(hu:Rep V u x)(hb:(frzA fz x).bel m=true):Rep V' u (frzA fz x):=by
 by_cases hx:∃r v n,x= .ms r v n
 ·obtain⟨r,v,n,rfl⟩:=hx
  rcases zH5 (fz:=fz) (r:=r) (v:=v) (n:=n)with e|⟨es,h1,h2,e⟩
  ·rw[e]at hb⊢;exact(hu.cut hb).mono hc
  ·rw[e];exact h _ _ _ h1 n h2 u hu
 ·rw[zH6 (fun r v n e=>hx ⟨r,v,n,e⟩)]at hb⊢;exact(hu.cut hb).mono hc
theorem zAh.val{V V':View}{fz:List (Nat×Nat×List AV)}{m:Nat}(h:zAh V V' fz)(hc:(V.cut m).Le V'){u:Value}{x:AV}(hu:Rep V u x)(hb:(frzV fz x).bel m=true):Rep V' u (frzV fz x):=by
 by_cases hx:∃vs,x= .tup vs
 ·obtain⟨vs,rfl⟩:=hx
  simp only[frzV,AV.bel]at hb⊢
  cases hu with
  |tup cs _ hl h2=>
   refine .tup cs _ (by simpa using hl) fun i hi=> ?_
   rw[YAK]at hi
   have e:(vs.map (frzA fz)).getD i .any=frzA fz (vs.getD i .any):=by simp[hi]
   have:=zDU hb i
   rw[e]at this⊢
   exact h.one hc (h2 i hi) this
 ·have e:frzV fz x=frzA fz x:=by cases x<;>first|rfl|exact absurd ⟨_,rfl⟩ hx
  rw[e]at hb⊢
  exact h.one hc hu hb
theorem zcO{V:View}{obj obj':Nat->Option AObj}{w:World}{m:Nat}(hI:Inv V obj w)(hc:Inv (V.cut m) obj' w)(hobj:∀r x,obj' r=some x->r<m/\obj r=some x)(hbel:∀r x,obj' r=some x->x.bel m=true):
 ∀fz:List (Nat×Nat×List AV),(∀p∈fz,m<=p.1/\(∃size,obj p.1=some (.arr p.2.1 size p.2.2))/\AV.belL m p.2.2=true)->(fz.map (·.1)).Nodup->
 ∃V',(V.cut m).Le V'/\Inv V' obj' w/\zAh V V' fz/\(∀r,V'.loc r=(V.cut m).loc r)/\∀b,(∀p∈fz,∀x,obj p.1=some x->own V p.1 x≠some b)->∀o,V'.imm b o=V.imm b o:=by
 intro fz
 induction fz with
 |nil=>intro _ _;exact⟨V.cut m,.refl _,hc,(fun _ _ _ h=>by cases h),fun _=>rfl,fun _ _ _=>rfl⟩
 |cons p fz ih=>
  intro hp hnd
  obtain⟨q,ver,es⟩:=p
  rw[List.map_cons,List.nodup_cons]at hnd
  obtain⟨V1,g1,g2,g3,g4,g5⟩:=ih (fun p h=>hp p (YAT _ h)) hnd.2
  obtain⟨hq,⟨size,ho⟩,hbe⟩:=hp _ YAU
  simp only at hq ho hbe
  obtain⟨blk,cap,k1,k2,k3,k4,k5,k6⟩:=hI.objs q _ ho
  cases blk with
  |none=>
   have k6:cap=0:=k6
   subst k6
   have hes:es=[]:=List.eq_nil_of_length_eq_zero (by omega)
   subst hes
   refine⟨V1,g1,g2,?_,g4,fun b hb o=>g5 b (fun p h=>hb p (YAT _ h)) o⟩
   intro q' ver' es' hm n hn u hu
   rcases List.mem_cons.1 hm with hm|hm
   ·obtain⟨rfl,rfl,rfl⟩:=by simpa using hm
    cases hu with
    |ms _ _ _ blk cap h h2 h3 h4=>
     rw[k1]at h
     simp only[YAM,YAY]at h
     obtain⟨rfl,rfl⟩:=h
     have:n=0:=by omega
     subst this
     exact .sl none 0 0 [] .no 0 0 0 (fun _=>undef) rfl (YAV _) (YAX _) (fun h=>absurd h (by omega)) (fun i h=>absurd h (by omega)) (fun j h=>absurd h (by omega)) (fun i j h=>absurd h (by omega)) (fun r h=>by cases h) ⟨fun h=>(by cases h),fun h=>(by cases h)⟩
   ·exact g3 _ _ _ hm n hn u hu
  |some b=>
   obtain⟨k7,cells,ty,k8,k9,k10,k11⟩:=k6
   have hown:own V q (.arr ver size es)=some b:=by simp[own,k1]
   have hother:∀r x,obj r=some x->r≠q->own V r x≠some b:=fun r x h1 h2 h3=>h2 (hI.sep r q x _ b h1 ho h3 hown)
   have him:∀o,V1.imm b o=none:=fun o=>by
    rw[g5 b (fun p h x hx=>hother _ _ hx fun e=>hnd.1 (List.mem_map.2 ⟨p,h,e⟩)) o];exact k11 o
   have hle:V1.Le (V1.zay b fun o=>cells[o]?):=View.zaz fun o v hv=>by rw[him o]at hv;cases hv
   refine⟨V1.zay b fun o=>cells[o]?,g1.trans hle,?_,?_,fun r=>g4 r,fun b' hb o=> ?_⟩
   ·refine g2.keep hle (YAV _) (fun b' o v hv=> ?_) (fun r1 x1 ho1 b' hb'=>⟨rfl,fun o hn=> ?_⟩) (fun _ _=>rfl)
    ·by_cases e:b'=b
     ·subst e
      simp only[View.zay,if_true]at hv
      simp only[World.cell?,k8];simpa using hv
     ·simp only[View.zay,e,if_false]at hv;exact g2.imm b' o v hv
    ·obtain⟨h1,h2⟩:=hobj r1 x1 ho1
     have e:b'≠b:=fun e=>by
      subst e
      refine hother r1 x1 h2 (by omega) ?_
      have h3:=((hI.objs r1 x1 h2).cut h1 (hbel r1 x1 ho1)).2
      have h4:own V1 r1 x1=own (V.cut m) r1 x1:=by cases x1<;>simp only[own,g4 r1]
      rw[<-h3,<-h4];exact hb'
     simp only[View.zay,e,if_false];exact hn
   ·intro q' ver' es' hm n hn u hu
    rcases List.mem_cons.1 hm with hm|hm
    ·obtain⟨rfl,rfl,rfl⟩:=by simpa using hm
     cases hu with
     |ms _ _ _ blk cap' h h2 h3 h4=>
      rw[k1]at h
      simp only[YAM,YAY]at h
      obtain⟨rfl,rfl⟩:=h
      have htl:(es'.take n).length=n:=by simp;omega
      have hget:∀i,i<n->(es'.take n).getD i .any=es'.getD i .any:=fun i hi=>by simp[YAF,List.getElem?_take,hi]
      refine .sl (zDB (some b)) n cap (es'.take n) .no size b 0 (fun j=>cells.getD j undef) htl h2 h3 (fun _=>rfl) (fun i hi=>by rw[hget i hi];exact k5 i (by omega)) (fun j hj=> ?_) (fun i j hi hj=> ?_) (fun r h=>by cases h) ⟨fun h=>(by cases h),fun h=>(by cases h)⟩
      ·have h5:n*size<=cap*size:=Nat.mul_le_mul_right _ h2
       have h6:j<cells.size:=by omega
       simp[View.zay,h6]
      ·rw[hget i hi]
       have h5:=k10 i j (by omega) hj
       exact(h5.cut (zDU (zET (zDU hbe i)) j)).mono (g1.trans hle)
    ·exact(g3 _ _ _ hm n hn u hu).mono hle
   ·have e:b'≠b:=fun e=>by
     subst e;exact hb _ YAU _ ho hown
    simp only[View.zay,e,if_false]
    exact g5 b' (fun p h=>hb p (YAT _ h)) o
theorem zb5{f:Nat}{args:List AV}{F:List AObj}{R R':AV->List AObj->Prop}(h:zAA P f args F R)
 (hR:∀x G,(∀y∈F,y.bel F.length=true)->F.length<=G.length->R x G->∃fz:List (Nat×Nat×List AV),(∀p∈fz,F.length<=p.1/\(∃size,G[p.1]?=some (.arr p.2.1 size p.2.2))/\AV.belL F.length p.2.2=true)/\(fz.map (·.1)).Nodup/\
  (∀y∈G.take F.length,y.bel F.length=true)/\(frzV fz x.norm).bel F.length=true/\R' (frzV fz x.norm) (G.take F.length)):zAA P f args F R':=by
 refine⟨h.1,fun V w vs hI hbel hl ha=>(h.2 V w vs hI hbel hl ha).mono fun e w' he=> ?_⟩
 obtain⟨V1,v,x,G,g1,g2,g3,g4,g5,g6,g7⟩:=he
 obtain⟨fz,k1,k2,k3,k4,k5⟩:=hR x G hbel g6 g7
 have hlt:∀r,r<F.length->zLC (G.take F.length) r=zLC G r:=fun r hr=>by unfold zLC;rw[List.getElem?_take_of_lt hr]
 have hge:∀r,¬r<F.length->zLC (G.take F.length) r=none:=fun r hr=>by unfold zLC;rw[YAR];simp;omega
 have hb:∀r y,r<F.length->zLC G r=some y->y.bel F.length=true:=fun r y hr hy=>by
  rw[<-hlt r hr]at hy;exact k3 y (List.mem_of_getElem? hy)
 have hcut:=g5.cut hlt hge hb
 obtain⟨V',c1,c2,c3,c4,c5⟩:=zcO g5 hcut (fun r y hy=>by
  by_cases hr:r<F.length
  ·rw[hlt r hr]at hy;exact⟨hr,hy⟩
  ·rw[hge r hr]at hy;cases hy) (fun r y hy=>k3 y (List.mem_of_getElem? hy)) fz k1 k2
 have hVdom:∀r n y,V.loc r n=some y->r<F.length:=fun r n y hy=>by
  have:=hI.dom r n y hy
  unfold zLC at this
  rcases Nat.lt_or_ge r F.length with h|h
  ·exact h
  ·rw[YAR h]at this;simp at this
 have hle:V.Le V':=by
  refine⟨c1.base.trans g1.base,fun b o v hv=>c1.imm b o v (g1.imm b o v hv),fun r n y hy=>c1.loc r n y ?_⟩
  have h1:=hVdom r n y hy
  simp only[View.cut,h1,if_true]
  exact g1.loc r n y hy
 exact⟨V',v,_,G.take F.length,hle,g2,g3,c3.val c1 g4.normed k4,c2,by simp;omega,k5⟩
theorem zcN{f:Nat}{args:List AV}{F J:List AObj}{q v size n:Nat}{es:List AV}(hq:F.length<=q)(hJ:(F++J)[q]?=some (.arr v size es))(hb:AV.belL F.length es=true)(hn:n=es.length)
 (h:zAA P f args F fun x G=>x= .tup [.ms q v n,.bool true]/\G=F++J):zAd P f args F (.tup [.sl es .no,.bool true]) F:=by
 refine zb5 h fun x G hF _ hx=> ?_
 obtain⟨rfl,rfl⟩:=hx
 have hv:frzV [(q,v,es)] (AV.tup [.ms q v n,.bool true]).norm= .tup [.sl es .no,.bool true]:=by
  simp only[AV.norm,AV.normL,frzV,List.map_cons,List.map_nil,frzA,true_and,hn,YAV,if_true,List.take_length]
 refine⟨[(q,v,es)],fun p hp=> ?_,by simp,fun y hy=> ?_,?_,?_,?_⟩
 ·simp only[List.mem_singleton]at hp;subst hp;exact⟨hq,⟨size,hJ⟩,hb⟩
 ·rw[List.take_left' rfl]at hy;exact hF y hy
 ·rw[hv];simp only[AV.bel,AV.belL,hb,Bool.and_self,Bool.and_true]
 ·exact hv
 ·exact List.take_left' rfl
end
end Go.Ab
end
section
/- Calls whose heap gets an owner for a slice that is nil so far. Conditions stand ahead of each part. -/
set_option linter.unusedSimpArgs false
set_option linter.unusedVariables false
namespace Go.Ab
open Go
section
variable {P : Program}
end
end Go.Ab
end
