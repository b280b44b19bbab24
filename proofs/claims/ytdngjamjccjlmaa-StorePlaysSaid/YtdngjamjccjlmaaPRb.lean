/- Lemmas: range over a function. No condition. -/
import Derived.Test.YtdngjamjccjlmaaPRa
section
/- A range over a function, on abstract values: calls of yield in plain code; the statement; a function that leaves behind a mark. Condition: the executor's table of types is the program's; the constants are of their types. -/
set_option linter.unusedSimpArgs false
set_option linter.unusedVariables false
namespace Go.Ab
open Go
open Go.RowKit (Below)
section
variable {P : Program} {C : Cfg} {V : View} {w : World} {s : AState} {a : Act} {o : Oper} {ro : Option Nat} {ds : List Deferred} {F : List AObj}
def YK(P:Program)(q:Nat)(args:List AV)(s:AState)(K:AV->AState->Prop):Prop:=
 ∃R,zBJ P q args (s.H++s.L) R/\∀r H'',R r H''->s.H.length<=H''.length->((∀x∈s.H,x.bel s.b=true)->∀x∈H''.take s.b,x.bel s.b=true)/\K r {s with H:=H''.take s.b,L:=H''.drop s.b}
def zbk(P:Program)(C:Cfg):List Oper->(AState->Prop)->AState->Prop
 | [],K,s=>K s
 |o::l,K,s=>o.guard=none/\((∃f args ts q,o.op= .call {callee:= .value f,args:=args,argTypes:=ts}/\s.ev f= .yld q/\YK P q (args.toList.map s.ev) s fun r s'=>zbk P C l K (s'.put o.dst r))\/xop P C o (zbk P C l K) s)
def zHF(s:AState):List AV:=(List.range s.n).map s.env
def FinI(V:View)(w:World)(m n:Nat)(Q:Exit->AState->Prop)(e:Exit)(a':Act)(w':World):Prop:=
 ∃D c V' s',a'.defers=[⟨.collected D, #[]⟩]/\V.LeB m V'/\Below V.base w w'/\Rel V' (barA a') w' s'/\s'.n=n/\m<s'.b/\V'.loc m 0=some (some D,c)/\Q e s'
end
end Go.Ab
end
section
/- A range over a function, on abstract values: the function that holds it; calls proved of what a text comes to. Condition: the executor's table of types is the program's; the constants are of their types. -/
set_option linter.unusedSimpArgs false
set_option linter.unusedVariables false
namespace Go.Ab
open Go
open Go.RowKit (Below)
section
variable {P : Program} {C : Cfg} {V : View} {w : World} {s : AState} {a : Act} {o : Oper} {ro : Option Nat} {ds : List Deferred} {F : List AObj}
theorem zBP(hC:zAb P C){f:Nat}{fn:Func}{c:Code}{args:List AV}{H:List AObj}{R:AV→List AObj→Prop}(hf:P.funcs[f]?=some fn)(hb:fn.body=some c)(hname:(fn.name== "runtime.NumGoroutine")=false)
 (hn:args.length<=fn.ntmps) (h:AV.zRR args->AWp P c (retD C fn.results.toList R) (zLe args H fn.ntmps)):zAA P f args H R:=by
 refine zBS ⟨fn,hf,by simp[hb],hname⟩ fun hok'=>⟨⟨fn,hf,by simp[hb],hname⟩,fun V w vs hI hbel hl ha=> ?_⟩
 have hrel:=zLi (n:=fn.ntmps) hI hbel hl ha hn
 have hX:=h hok' V _ w hrel
 refine calls_of_wp hf hb (wp_mono hX fun e a' w'=> ?_)
 rintro⟨V',s',h1,h2,h3,h4,h5,h6⟩
 obtain⟨he,h7⟩:=h6
 split at h7
 case h_2=>exact h7.elim
 rename_i cc vvs hares
 obtain⟨hcc,h8,h9⟩:=h7
 obtain⟨v,hv,hrep⟩:=zTf hC h3 hares hcc
 have hsb:s'.b=H.length:=h5
 have hIc:=zL1 h3
 have hle:V.Le (V'.cut s'.b):=by
  rw[hsb];exact zMz (show V.LeB H.length V' from h1) hI fun r hr=>by unfold zLC;exact YAR hr
 have hgoal:a'.defers=[]/\∃v,(results fn a'.tmps).run P w'= .ok v w'/\∃V'' v' r H',V.Le V''/\Below V.base w w'/\Ending.returned v= .returned v'/\Rep V'' v' r/\Inv V'' (zLC H') w'/\H.length<=H'.length/\R r H':=
  ⟨h3.defers,v,hv,V'.cut s'.b,v,_,s'.H,hle,h2,rfl,hrep.normed.cut h8,hIc,by rw[<-h3.hb,hsb];exact YAV _,h9⟩
 cases e with
 |normal=>exact hgoal
 |ret=>exact hgoal
 |exit id=>exact he.elim
 |goto l=>exact he.elim
 |panic ch=>exact he.elim
 |outgrown=>exact he.elim
def onN(N:AState->Prop)(e:Exit)(s:AState):Prop:=e= .normal/\N s
def zAo(C:Cfg)(rs:List ResultVar)(m b:Nat)(R:AV->List AObj->Prop)(e:Exit)(s:AState):Prop:=
 (match e with| .normal| .ret=>True|_=>False)/\s.H[m]?=some (.raw (.deferred (some [])))/\
  match zCc C {s with H:=s.H.set m (.raw (.deferred none))} rs with
  |some (c,vs)=>c/\(zYm vs).norm.bel b=true/\(∀x∈s.H.take b,x.bel b=true)/\R (zYm vs).norm (s.H.take b)
  |none=>False
def zBA(P:Program)(C:Cfg)(rs:List ResultVar)(b:Nat)(g:Operand)(ps:Array Tmp)(assign body tail:Code)(R:AV->List AObj->Prop)(s:AState):Prop:=
 ∃gf caps,∃Rg:Nat->AV->List AObj->Prop,s.ev g= .clo gf caps/\
  (∀fn,zAA P gf (.yld ((s.H++s.L).length+1)::caps) ((s.H++s.L)++ [.raw (.deferred (some []))]++ [.lp ⟨fn,ps,assign,body⟩ (zHF s) .ready none]) (Rg fn))/\
  ∀fn r' H'',Rg fn r' H''->∃st pend,st≠ .busy/\H''[(s.H++s.L).length+1]?=some (.lp ⟨fn,ps,assign,body⟩ (zHF s) st pend)/\
   match pend with
   |none=>X P C tail (zAo C rs (s.H++s.L).length b R) ⟨s.env,H''.length,H''.set ((s.H++s.L).length+1) (.lp ⟨fn,ps,assign,body⟩ (zHF s) .exhausted pend),[],s.n⟩
   |some .ret=>zAo C rs (s.H++s.L).length b R .ret ⟨s.env,H''.length,H''.set ((s.H++s.L).length+1) (.lp ⟨fn,ps,assign,body⟩ (zHF s) .exhausted pend),[],s.n⟩
   |_=>False
def zTK(P:Program)(C:Cfg)(rs:List ResultVar)(m b:Nat)(tail:Code)(R:AV->List AObj->Prop)(e:Exit)(s:AState):Prop:=
 match e with
 | .normal=>X P C tail (zAo C rs m b R) s
 | .ret=>zAo C rs m b R .ret s
 |_=>False
theorem FinI.mono{m n:Nat}{Q Q':Exit->AState->Prop}{e:Exit}{a':Act}{w':World}(h:FinI V w m n Q e a' w')(hq:∀s,Q e s->Q' e s):FinI V w m n Q' e a' w':=by
 obtain⟨D,c,V',s',h1,h2,h3,h4,h5,h6,h7,h8⟩:=h
 exact⟨D,c,V',s',h1,h2,h3,h4,h5,h6,h7,hq _ h8⟩
end
end Go.Ab
end
