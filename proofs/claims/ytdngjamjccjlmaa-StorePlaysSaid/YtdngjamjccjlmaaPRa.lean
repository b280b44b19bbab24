/- Lemmas: plain code in rounds. No condition. -/
import Derived.Test.YtdngjamjccjlmaaPAc
import Derived.RangeFuncRecord
section
/- A range over a function, on abstract values: plain code within a round and behind a mark; the loop's record; yield. Condition: the executor's table of types is the program's; the constants are of their types. -/
set_option linter.unusedSimpArgs false
set_option linter.unusedVariables false
namespace Go.Ab
open Go
open Go.RowKit (Below)
def zav(ro:Option Nat):Fence:= {fn:=fun _=>True,depth:=none,alive:=false,round:=ro}
section
variable {P : Program} {C : Cfg} {V : View} {w : World} {s : AState} {a : Act} {o : Oper} {ro : Option Nat} {ds : List Deferred}
abbrev barA (a:Act):Act:=⟨a.tmps,[]⟩
def zbL(ro:Option Nat)(P:Program)(ops:Array Oper)(Q:Exit->Act->World->Prop)(i:Nat)(K:Act->World->Prop)(a:Act)(w:World):Prop:=
 match ops[i]? with
 |none=>K a w
 |some o=>if Region.wanted o (yielded ops a.tmps)then o.wpIn (zav ro) 0 P a w K Q else K (a.put o.dst undef) w
def zA4(ds:List Deferred)(V:View)(w:World)(n b:Nat)(Q:Exit->AState->Prop)(e:Exit)(a':Act)(w':World):Prop:=a'.defers=ds/\Post V w n b Q e (barA a') w'
def AWpI(ro:Option Nat)(ds:List Deferred)(P:Program)(c:Code)(Q:Exit->AState->Prop)(s:AState):Prop:=
 ∀V a w,Rel V (barA a) w s->a.defers=ds->c.wpIn (zav ro) 0 P (zA4 ds V w s.n s.b Q) a w
def zV2:Code->Bool
 | .skip| .exit _| .ret=>true
 | .region _ _ d=> !d
 | .seq x y=>zV2 x&&zV2 y
 | .cond _ x y=>zV2 x&&zV2 y
 | .block _ b=>zV2 b
 |_=>false
end
end Go.Ab
end
section
/- A range over a function, on abstract values: the loop's record, one round, the statement, the function's end. Condition: the executor's table of types is the program's; the constants are of their types. -/
set_option linter.unusedSimpArgs false
set_option linter.unusedVariables false
namespace Go.Ab
open Go
open Go.RowKit (Below)
section
variable {P : Program} {C : Cfg} {V : View} {w : World} {s : AState} {a : Act} {ro : Option Nat} {ds : List Deferred} {F : List AObj}
def zBJ(P:Program)(r:Nat)(args:List AV)(H:List AObj)(R:AV->List AObj->Prop):Prop:=
 ∀V w vs l c,Inv V (zLC H) w->(∀x∈H,x.bel H.length=true)->vs.size=args.length->(∀i,i<args.length->Rep V (vs.getD i undef) (args.getD i .any))->V.loc r 0=some (some l,c)->
  ∃fn tmps assign body,(Instr.yield l vs).run P w= .ok (.round l fn tmps assign body) w/\
   RoundIn (zav none) 0 P l fn tmps assign body w fun e w'=>∃V' v r' H',V.Le V'/\Below V.base w w'/\e= .returned v/\Rep V' v r'/\Inv V' (zLC H') w'/\H.length<=H'.length/\R r' H'
def zUU(r:Nat)(d:LpD)(env:List AV)(R:AV->List AObj->Prop)(e:Exit)(s:AState):Prop:=
 s.H[r]?=some (.lp d env .busy none)/\match e with
 | .normal=>R (.bool true) (s.H.set r (.lp d env .ready none))
 | .ret=>R (.bool false) (s.H.set r (.lp d env .done (some .ret)))
 | .exit id=>R (.bool false) (s.H.set r (.lp d env .done (some (.exit id))))
 |_=>False
def zCs(P:Program)(C:Cfg)(r:Nat)(d:LpD)(env:List AV)(R:AV->List AObj->Prop)(e:Exit)(s:AState):Prop:=
 e= .normal/\s.H[r]?=some (.lp d env .ready none)/\X P C d.body (zUU r d env R) {s with H:=s.H.set r (.lp d env .busy none)}
theorem zL1{V:View}{a:Act}{w:World}{s:AState}(hr:Rel V a w s):Inv (V.cut s.b) (zLC s.H) w:=by
 have hb:=hr.hb
 refine hr.inv.cut (fun r h=> ?_) (fun r h=> ?_) (fun r x h hx=> ?_)
 ·unfold zLC AState.obj;rw[if_pos h]
 ·unfold zLC;exact YAR (by omega)
 ·unfold AState.obj at hx;rw[if_pos h]at hx;exact hr.bel x (List.mem_of_getElem? hx)
theorem zMz{V V':View}{b:Nat}{obj:Nat->Option AObj}{w:World}(h:V.LeB b V')(hI:Inv V obj w)(hd:∀r,b<=r->obj r=none):V.Le (V'.cut b):=
 ⟨h.base,h.imm,fun r n x hx=>by
  have hs:=hI.dom r n x hx
  rcases Nat.lt_or_ge r b with h1|h1
  ·simp only[View.cut];rw[if_pos h1];exact h.loc r n x h1 hx
  ·rw[hd r h1]at hs;simp at hs⟩
end
end Go.Ab
end
