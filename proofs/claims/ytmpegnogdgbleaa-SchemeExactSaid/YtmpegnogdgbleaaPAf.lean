/- Lemmas: further calls over objects. No condition. -/
import Derived.Test.YtmpegnogdgbleaaPAc
section
/- Calls one of whose arguments, a slice that is nil, gets an owner. Conditions stand ahead of each part. -/
set_option linter.unusedSimpArgs false
set_option linter.unusedVariables false
namespace Go.Ab
open Go
section
variable {P : Program}
theorem zlp{f:Nat}{args:List AV}{F:List AObj}{R:AV->List AObj->Prop}{k size:Nat}(hk:args[k]?=some (.sl [] .full))
 (h:zAA P f (args.set k (.sl [] (.own F.length))) (F++ [.tok 0 size]) R):zAA P f args F fun x G=>F.length+1<=G.length/\R x G:=by
 refine⟨h.1,fun V w vs hI hbel hl ha=> ?_⟩
 have hkl:k<args.length:=(YAS.1 hk).1
 have hq:∀m,V.loc F.length m=none:=fun m=>by
  cases hm:V.loc F.length m with
  |none=>rfl
  |some y=>have:=hI.dom _ m y hm;simp[zLC]at this
 let V':View:= {V with loc:=fun r m=>if r=F.length then(if m=0 then some (none,0)else none)else V.loc r m}
 have hle:V.Le V':=⟨rfl,fun _ _ _ h=>h,fun r m y hy=>by
  by_cases hr:r=F.length
  ·subst hr;rw[hq m]at hy;cases hy
  ·simp[V',hr,hy]⟩
 have h1:Inv V' (fun r=>if r=F.length then some (.tok 0 size)else zLC F r) w:=by
  refine hI.upd hle F.length _ (YAV _) hI.imm (fun _ _ _ _ _ _=>⟨rfl,fun _ h=>h⟩) (fun r m hr=>by simp[V',hr]) ?_ (fun b hb=>by simp[own,V']at hb)
  exact⟨none,0,by simp[V'],fun m hm=>by simp[V'];omega,YAV _,YAX _,rfl⟩
 have e:(fun r=>if r=F.length then some (AObj.tok 0 size)else zLC F r)=zLC (F++ [.tok 0 size]):=by
  funext r
  unfold zLC
  by_cases e2:r=F.length
  ·subst e2;rw[if_pos rfl,YAH (YAV _)];simp
  ·rw[if_neg e2]
   by_cases e3:r<F.length
   ·rw[YAG e3]
   ·rw[YAR (by omega),YAR (by simp;omega)]
 rw[e]at h1
 have hlen:(F++ [AObj.tok 0 size]).length=F.length+1:=by simp
 have hbel':∀x∈F++ [AObj.tok 0 size],x.bel (F++ [AObj.tok 0 size]).length=true:=by
  rw[hlen]
  intro x hx
  rcases List.mem_append.1 hx with hx|hx
  ·exact AObj.zDZ (Nat.le_succ _) (hbel x hx)
  ·simp only[List.mem_singleton]at hx;subst hx;rfl
 refine(h.2 V' w vs h1 hbel' (by rw[List.length_set];exact hl) (fun i hi=> ?_)).mono fun e w' he=> ?_
 ·rw[List.length_set]at hi
  have h3:=(ha i hi).mono hle
  by_cases ek:k=i
  ·subst ek
   have e1:args.getD k .any= .sl [] .full:=by rw[YAF,hk];rfl
   have e2:(args.set k (.sl [] (.own F.length))).getD k .any= .sl [] (.own F.length):=by rw[YAF,List.getElem?_set_self hkl];rfl
   rw[e1]at h3
   rw[e2]
   generalize vs.getD k undef=u at h3
   cases h3 with
   |sl bse len cap _ _ sz b o val hl hc hm hb hs hi hr ht hf=>
    subst hl
    obtain⟨rfl,h4⟩:=hf.1 rfl
    have:=h4 rfl
    subst this
    refine .sl none 0 0 [] (.own F.length) 0 0 0 (fun _=>undef) rfl (YAV _) (YAX _) (fun h=>absurd h (Nat.lt_irrefl _)) (fun i hi=>absurd hi (Nat.not_lt_zero _)) (fun j hj=>absurd hj (by omega)) (fun i j hi=>absurd hi (Nat.not_lt_zero _)) ?_ ?_
    ·intro r hr
     cases hr
     exact⟨none,by simp[V'],rfl⟩
    ·exact⟨fun h=>(by cases h),fun h=>(by cases h)⟩
  ·have e2:(args.set k (.sl [] (.own F.length))).getD i .any=args.getD i .any:=by simp only[YAF,List.getElem?_set_ne ek]
   rw[e2];exact h3
 ·obtain⟨V2,v,r,G,k1,k2,k3,k4,k5,k6,k7⟩:=he
  rw[hlen]at k6
  exact⟨V2,v,r,G,hle.trans k1,k2,k3,k4,k5,by omega,k6,k7⟩
end
end Go.Ab
end
section
/- Calls that hand back slices with their owners, the locals struck. Conditions stand ahead of each part. -/
set_option linter.unusedSimpArgs false
set_option linter.unusedVariables false
namespace Go.Ab
open Go
section
variable {P : Program} {C : Cfg} {e : Nat -> AV} {F : List AObj} {b n : Nat}
def retO(C:Cfg)(rs:List ResultVar)(R:AV->List AObj->Prop)(e:Exit)(s:AState):Prop:=
 (match e with| .normal| .ret=>True|_=>False)/\
 match zCc C s rs with
 |some (c,vs)=>c/\(zYm vs).bel s.b=true/\R (zYm vs) s.H
 |none=>False
theorem zlo(hC:zAb P C){f:Nat}{fn:Func}{c:Code}{args:List AV}{H:List AObj}{R:AV→List AObj→Prop}(hf:P.funcs[f]?=some fn)(hb:fn.body=some c)(hname:(fn.name== "runtime.NumGoroutine")=false)
 (hn:args.length<=fn.ntmps) (hok:zFG fn.ntmps c=true) (h:AV.zRR args->Go P C (retO C fn.results.toList R) [.code c] (FS (fun t=>args.getD t .any) H H.length fn.ntmps)):zAA P f args H R:=by
 refine zBS ⟨fn,hf,by simp[hb],hname⟩ fun hok'=>acalls hC hf hb hname hn hok ?_
 have h1:=h hok'
 have h2:FS (fun t=>args.getD t .any) H H.length fn.ntmps=zLe args H fn.ntmps:=by simp[FS,zLe]
 rw[h2]at h1
 exact zBG c (fun e s' h2=>by
  obtain⟨h3,h4⟩:=h2
  refine⟨h3,?_⟩
  split at h4
  ·rename_i c vs hares
   try rw[hares]
   exact⟨h4.1,.inr ⟨h4.2.1,h4.2.2⟩⟩
  ·exact h4.elim) h1
theorem znE{rs:List ResultVar}{R:AV->List AObj->Prop}:retO C rs R .ret (FS e F b n)=match zCc C (FS e F b n) rs with
 |some (c,vs)=>c/\(zYm vs).bel b=true/\R (zYm vs) (F.take b)
 |none=>False:=by
 simp only[retO,fs_H,true_and,fs_b]
theorem znD{rs:List ResultVar}{R:AV->List AObj->Prop}:retO C rs R .normal (FS e F b n)=match zCc C (FS e F b n) rs with
 |some (c,vs)=>c/\(zYm vs).bel b=true/\R (zYm vs) (F.take b)
 |none=>False:=by
 simp only[retO,fs_H,true_and,fs_b]
end
theorem eO{P:Program}{C:Cfg}{f:Nat}{fn:Func}{c:Code}{args:List AV}{rs:Array ResultVar}(hC:zAb P C)(hf:P.funcs[f]?=some fn)(hs:fn.results=rs){H:List AObj}{R:AV→List AObj→Prop}(h:AV.zRR args→Go P C (retO C rs.toList R) [.code c] (FS (fun t=>args.getD t .any) H H.length fn.ntmps))(hb:fn.body=some c:=by exact rfl)(hname:(fn.name== "runtime.NumGoroutine")=false:=by decide)(hn:args.length≤fn.ntmps:=by exact YAL rfl)(hok:zFG fn.ntmps c=true:=by decide):zAA P f args H R:=by subst hs;exact zlo hC hf hb hname hn hok h
end Go.Ab
end
