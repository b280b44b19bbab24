/- Lemmas: range over a function. No condition. -/
import Derived.Test.YtdngjamjccjlmaaGreatPRa
section
/- A range over a function, on abstract values: calls of yield in plain code; the statement; a function that leaves behind a mark. Condition: the executor's table of types is the program's; the constants are of their types. -/
set_option linter.unusedSimpArgs false
set_option linter.unusedVariables false
namespace Go.Ab
open Go
open Go.RowKit (Below)
section
variable {P : Program} {C : Cfg} {V : View} {w : World} {s : AState} {a : Act} {o : Oper} {ro : Option Nat} {ds : List Deferred} {F : List AObj}
theorem zL0{V:View}{w:World}{H:List AObj}(hI:Inv V (zLC H) w):∀x∈H,x.bel H.length=true:=by
 intro x hx
 obtain⟨r,hr,rfl⟩:=List.mem_iff_getElem.1 hx
 have ho:zLC H r=some H[r]:=YAI hr
 refine(hI.objs r _ ho).zDY fun q n y hy=> ?_
 have:=hI.dom q n y hy
 unfold zLC at this
 rcases Nat.lt_or_ge q H.length with h|h
 ·exact h
 ·rw[YAR h]at this;simp at this
theorem zC9{a:Act}(h:a.defers=[]):barA a=a:=by
 cases a;simp only at h;subst h;rfl
theorem zC3{c:Code}{Q:Exit->AState->Prop}(h:AWpI none [] P c Q s):AWp P c Q s:=fun V a w hr=>by
 have h1:c.wpIn Fence.wide 0 P (zA4 [] V w s.n s.b Q) a w:=h V a w (by rw[zC9 hr.defers];exact hr) hr.defers
 refine wp_mono (wpIn_wide.1 h1) fun e a' w' hp=> ?_
 obtain⟨hd,hp⟩:=hp
 rw[zC9 hd]at hp
 exact hp
theorem zHT{f:Operand}{args:Array Operand}{ts:Array Nat}{l:Nat}(hop:o.op= .call {callee:= .value f,args:=args,argTypes:=ts})(hf:a.eval f= .func (.yield l) #[] #[]):
 (execOp a.eval o).run P w=(Instr.yield l (args.map a.eval)).run P w:=by
 simp only[execOp,hop,resolve,hf,Deferred.ofValue,invoke,Sem.run_bind,Sem.run_pure,Result.andThen_ok]
 simp
def YK(P:Program)(q:Nat)(args:List AV)(s:AState)(K:AV->AState->Prop):Prop:=
 ∃R,zBJ P q args (s.H++s.L) R/\∀r H'',R r H''->s.H.length<=H''.length->((∀x∈s.H,x.bel s.b=true)->∀x∈H''.take s.b,x.bel s.b=true)/\K r {s with H:=H''.take s.b,L:=H''.drop s.b}
theorem zbs{q:Nat}{args:List AV}{e:Nat->AV}{F:List AObj}{b n:Nat}{R:AV->List AObj->Prop}{K:AV->AState->Prop}(hY:zBJ P q args F R)
 (hK:∀r F',R r F'->((∀x∈F.take b,x.bel b=true)->∀x∈F'.take b,x.bel b=true)/\K r (FS e F' b n)):YK P q args (FS e F b n) K:=
 ⟨R,by rw[zID];exact hY,fun r H'' hr _=>hK r H'' hr⟩
def zbk(P:Program)(C:Cfg):List Oper->(AState->Prop)->AState->Prop
 | [],K,s=>K s
 |o::l,K,s=>o.guard=none/\((∃f args ts q,o.op= .call {callee:= .value f,args:=args,argTypes:=ts}/\s.ev f= .yld q/\YK P q (args.toList.map s.ev) s fun r s'=>zbk P C l K (s'.put o.dst r))\/xop P C o (zbk P C l K) s)
theorem zbm(hC:zAb P C){ops:Array Oper}{n:Nat}(hok:∀o∈ops.toList,zRm o=true/\zF0 n o=true){Q:Exit->AState->Prop}{V0:View}{w0:World}{b:Nat}:
 ∀(l:List Nat) {V:View} {a:Act} {w:World} {s:AState},s.n=n->s.b=b->Rel V (barA a) w s->a.defers=ds->V0.LeB b V->Below V0.base w0 w->zbk P C (l.filterMap (ops[·]?)) (Q .normal) s->
  wpOpsIn (zav ro) 0 P ops (zA4 ds V0 w0 n b Q) l a w
 | [],V,a,w,s,hn,hb,hr,hds,hV,hB,h=>⟨hds,V,s,hV,hB,hr,hn,hb,h⟩
 |i::l,V,a,w,s,hn,hb,hr,hds,hV,hB,h=>by
  refine wpOpsIn_cons i l a w ?_
  cases hi:ops[i]? with
  |none=>
   unfold zbL
   simp only[hi]
   rw[List.filterMap_cons,hi]at h
   exact zbm hC hok l hn hb hr hds hV hB h
  |some o=>
   rw[List.filterMap_cons,hi]at h
   simp only[zbk]at h
   obtain⟨hgd,h⟩:=h
   have ho:=hok o (Array.mem_toList_iff.2 (Array.mem_of_getElem? hi))
   unfold zbL
   simp only[hi]
   rw[if_pos (by simp[Region.wanted,hgd])]
   rcases h with ⟨f,args,ts,q,hop,hev,R,hY,hK⟩|h
   ·have hk:∀x∈o.op.operands.toList,zRn x=true:=List.all_eq_true.1 ho.1
    have hrf:=zHQ hr f (hk f (by simp[hop,Op.operands,Call.operands]))
    rw[hev]at hrf
    generalize hvf:(barA a).eval f=vf at hrf
    cases hrf with
    |yld _ lb c hl=>
     have hhb:=hr.hb
     have hI':Inv V (zLC (s.H++s.L)) w:=by rw[<-zQu hhb];exact hr.inv
     obtain⟨fn,tmps,assign,body,hy,hround⟩:=hY V w (args.map a.eval) lb c hI' (zL0 hI') (by simp) (fun i hi=>by
      simp only[YAK,Array.length_toList]at hi
      have:Rep V (a.eval args[i]) (s.ev args[i]):=zHQ hr args[i] (hk _ (by simp only[hop,Op.operands,Call.operands];simp))
      simpa [YAF,hi]using this) hl
     refine⟨fun _ _=>trivial,?_⟩
     rw[Oper.semAt_eq _ _ _ (by rw[hop];intro c hc;cases hc),zHT (a:=a) hop hvf,hy,Oper.uponIn_round]
     refine⟨fun hh=>by simp[zav]at hh,RoundIn.mono hround fun e w' he=> ?_⟩
     obtain⟨V',v,r',H'',g1,g2,rfl,g4,g5,g6,g7⟩:=he
     have hlen:s.H.length<=H''.length:=by simp at g6;omega
     obtain⟨k1,k2⟩:=hK r' H'' g7 hlen
     have hrel:Rel V' (barA a) w' {s with H:=H''.take s.b,L:=H''.drop s.b}:=by
      have hb':({s with H:=H''.take s.b,L:=H''.drop s.b}:AState).b=({s with H:=H''.take s.b,L:=H''.drop s.b}:AState).H.length:=by simp;omega
      refine⟨hb',k1 hr.bel,?_,hr.size,hr.defers,fun t=>(hr.env t).mono g1⟩
      rw[zQu hb'];simpa using g5
     refine zbm hC hok l (s:=({s with H:=H''.take s.b,L:=H''.drop s.b}:AState).put o.dst r') ?_ ?_ ?_ ?_ (hV.trans (g1.toB b)) (hB.trans (by rw[<-hV.base];exact g2)) k2
     ·rw[<-hn];cases o.dst<;>rfl
     ·rw[<-hb];cases o.dst<;>rfl
     ·rw[zDA];exact hrel.put g4 (fun d hd'=>by rw[hn];exact zF1 ho.2 d hd')
     ·rw[put_defers];exact hds
   ·refine zbi hC hr hds ho.1 (by rw[hn];exact ho.2) h fun V' a' w' s' h1 h2 h3 h4d h4 h4b h5=> ?_
    exact zbm hC hok l (by rw[h4,hn]) (by rw[h4b,hb]) h3 h4d (hV.trans (h1.toB b)) (hB.trans (by rw[<-hV.base];exact h2)) h5
theorem zC6(hC:zAb P C){id:Nat}{ops:Array Oper}{Q:Exit->AState->Prop}(hok:zFG s.n (.region id ops false)=true)(h:zbk P C ops.toList (Q .normal) s):AWp P (.region id ops false) Q s:=by
 refine zC3 fun V a w hr hd=> ?_
 simp only[zFG,List.all_eq_true,YAA]at hok
 refine wpIn_region ?_
 refine zbm hC hok (List.range ops.size) (V0:=V) (w0:=w) rfl rfl hr hd (.refl _ V) (.refl _ _) ?_
 rw[zHb];exact h
def zHF(s:AState):List AV:=(List.range s.n).map s.env
theorem zHG(s:AState)(t:Nat):(zHF s).getD t .any=if t<s.n then s.env t else .any:=by
 unfold zHF
 by_cases h:t<s.n
 ·simp[h]
 ·simp[h]
def FinI(V:View)(w:World)(m n:Nat)(Q:Exit->AState->Prop)(e:Exit)(a':Act)(w':World):Prop:=
 ∃D c V' s',a'.defers=[⟨.collected D, #[]⟩]/\V.LeB m V'/\Below V.base w w'/\Rel V' (barA a') w' s'/\s'.n=n/\m<s'.b/\V'.loc m 0=some (some D,c)/\Q e s'
theorem zTL(hC:zAb P C)(hr:Rel V (barA a) w s)(hd:a.defers=[]){g:Operand}{ps:Array Tmp}{assign body:Code}{gf:Nat}{caps:List AV}(hg:s.ev g= .clo gf caps)(hgk:zRn g=true)
 {Rg:Nat->AV->List AObj->Prop} {Q:Exit->AState->Prop} {m:Nat} (hm:m=(s.H++s.L).length)
 (hcall:∀fn,zAA P gf (.yld (m+1)::caps) ((s.H++s.L)++ [.raw (.deferred (some []))]++ [.lp ⟨fn,ps,assign,body⟩ (zHF s) .ready none]) (Rg fn))
 (hR:∀fn r' H'',Rg fn r' H''->∃st pend,st≠ .busy/\H''[m+1]?=some (.lp ⟨fn,ps,assign,body⟩ (zHF s) st pend)/\
  match pend with
  |none=>Q .normal ⟨s.env,H''.length,H''.set (m+1) (.lp ⟨fn,ps,assign,body⟩ (zHF s) .exhausted pend),[],s.n⟩
  |some c=>∀ds,AWpI none ds P c Q ⟨s.env,H''.length,H''.set (m+1) (.lp ⟨fn,ps,assign,body⟩ (zHF s) .exhausted pend),[],s.n⟩):
 (Code.rangeFunc g ps assign body).wpIn (zav none) 0 P (FinI V w m s.n Q) a w:=by
 refine wpIn_rangeFunc fun fn _=> ?_
 have hrg:=zHQ hr g hgk
 rw[hg]at hrg
 generalize hvg:(barA a).eval g=vg at hrg
 cases hrg with
 |clo _ lb _ hl hcap=>
  have hfn:=(hcall fn).1
  have hI0:Inv V (zLC (s.H++s.L)) w:=by rw[<-zQu hr.hb];exact hr.inv
  have hnone:∀q,(s.H++s.L).length<=q->zLC (s.H++s.L) q=none:=fun q hq=>by unfold zLC;exact YAR hq
  obtain⟨V1,hV1,hl1,hI1⟩:=hI0.newObj m (.inl (hnone m (by omega))) (.raw (.deferred (some []))) (.deferred (some [])) 0 0 (fun V' h1 h2 h3 h4 h5=>
   ⟨⟨_,_,h3,World.alloc_heap_new _ _,by rw[h2];exact hI0.base,h5⟩,by simp[own,h3]⟩)
  have e1:(fun q=>if q=m then some (AObj.raw (.deferred (some [])))else zLC (s.H++s.L) q)=zLC ((s.H++s.L)++ [.raw (.deferred (some []))]):=by rw[zLE,<-hm]
  rw[e1]at hI1
  have hlen1:((s.H++s.L)++ [AObj.raw (.deferred (some []))]).length=m+1:=by rw[hm];simp;omega
  have hnone1:zLC ((s.H++s.L)++ [AObj.raw (.deferred (some []))]) (m+1)=none:=by unfold zLC;exact YAR (by omega)
  obtain⟨V2,hV2,hl2,hI2⟩:=hI1.newObj (m+1) (.inl hnone1) (.lp ⟨fn,ps,assign,body⟩ (zHF s) .ready none)
   (.loop {state:= .ready,pending:=none,fn,tmps:=a.tmps,params:=ps,assign,body,defers:=w.heap.size}) 0 0 (fun V' h1 h2 h3 h4 h5=>
   ⟨⟨_,_,a.tmps,w.heap.size,h3,World.alloc_heap_new _ _,by rw[h2];exact hI1.base,by have:=hr.size;simp[zHF];exact this,fun i hi=>by
    rw[zHG,if_pos (by simpa [zHF]using hi)]
    exact(hr.env i).mono (hV1.trans h1),h5⟩,by simp[own,h3]⟩)
  have e2:(fun q=>if q=m+1 then some (AObj.lp ⟨fn,ps,assign,body⟩ (zHF s) .ready none)else zLC ((s.H++s.L)++ [.raw (.deferred (some []))]) q)=zLC ((s.H++s.L)++ [.raw (.deferred (some []))]++ [.lp ⟨fn,ps,assign,body⟩ (zHF s) .ready none]):=by
   rw[zLE (F:=(s.H++s.L)++ [AObj.raw (.deferred (some []))]),hlen1]
  rw[e2]at hI2
  have hsz:(w.alloc (.deferred (some []))).heap.size=w.heap.size+1:=by simp
  rw[hsz]at hl2
  obtain⟨W1,hW1⟩:∃W1,(w.alloc (.deferred (some []))).alloc (.loop {state:= .ready,pending:=none,fn,tmps:=a.tmps,params:=ps,assign,body,defers:=w.heap.size})=W1:=⟨_,rfl⟩
  rw[hW1]at hI2
  have hB1:Below V.base w W1:=by
   rw[<-hW1]
   have hb:=hI0.base
   exact(((Below.refl V.base w).alloc hb _).alloc (by simp;omega) _)
  have hVV2:V.Le V2:=hV1.trans hV2
  obtain⟨fnd,f1,f2,f3⟩:=hfn
  have fb:fnd.body.isNone=false:=by cases hh:fnd.body<;>simp[hh]at f2⊢
  refine⟨w.heap.size+1,[⟨.collected w.heap.size, #[]⟩],W1,⟨.fn (.func gf) lb, #[.func (.yield (w.heap.size+1)) #[] #[]]⟩,W1,gf, #[.func (.yield (w.heap.size+1)) #[] #[]]++lb,W1,?_,?_,fun _ _=>trivial,?_,fun hh=>by simp[zav]at hh,?_⟩
  ·rw[<-hW1];exact run_enterLoop_outer _ _ _ _ _
  ·have:a.eval g= .func (.func gf) #[] lb:=hvg
   simp only[resolve]
   rw[this]
   simp[Deferred.ofValue,Act.eval]
  ·simp only[invoke,callFunc,Sem.run_bind,Result.andThen_ok,run_program]
   simp[f1,f3,fb]
  ·refine zEG (((hcall fn).2 V2 W1 _ hI2 (zL0 hI2) (by simp[hl];omega) (fun i hi=> ?_)).mono fun e w3 he=> ?_)
   ·cases i with
    |zero=>
     simp only[List.getD_cons_zero]
     have:(#[Value.func (.yield (w.heap.size+1)) #[] #[]]++lb).getD 0 undef= .func (.yield (w.heap.size+1)) #[] #[]:=by simp[Array.getElem?_append]
     rw[this];exact .yld _ _ _ hl2
    |succ i=>
     simp only[List.getD_cons_succ]
     have:(#[Value.func (.yield (w.heap.size+1)) #[] #[]]++lb).getD (i+1) undef=lb.getD i undef:=by simp[Array.getElem?_append]
     rw[this]
     exact(hcap i (by simpa using hi)).mono hVV2
   ·obtain⟨V3,v,r',H'',g1,g2,rfl,g4,g5,g6,g7⟩:=he
    obtain⟨st,pend,hst,hlp,hcont⟩:=hR fn r' H'' g7
    have hl3:V3.loc (m+1) 0=some (some (w.heap.size+1),0):=g1.loc _ _ _ hl2
    have hm3:V3.loc m 0=some (some w.heap.size,0):=g1.loc _ _ _ (hV2.loc _ _ _ hl1)
    obtain⟨tmps3,db3,hg3,_,_,hput3⟩:=zN2 g5 (show zLC H'' (m+1)=_ from hlp) hl3
    obtain⟨hI4,hB4⟩:=hput3 .exhausted pend
    have hlt:m+1<H''.length:=(YAS.1 hlp).1
    rw[<-zLD hlt]at hI4
    have hbel4:=zL0 hI4
    refine⟨pend,_,run_endLoop hg3 hst,?_⟩
    have hrel4:Rel V3 (barA {a with defers:=[⟨.collected w.heap.size, #[]⟩]++a.defers}) (w3.putObj (w.heap.size+1) (.loop ⟨.exhausted,pend,fn,tmps3,ps,assign,body,db3⟩))
     ⟨s.env,H''.length,H''.set (m+1) (.lp ⟨fn,ps,assign,body⟩ (zHF s) .exhausted pend),[],s.n⟩:=by
     refine⟨by simp,by simpa using hbel4,?_,hr.size,rfl,fun t=>(hr.env t).mono (hVV2.trans g1)⟩
     rw[zQu (by simp)];simpa using hI4
    have hle3:V.LeB m V3:=(hVV2.trans g1).toB m
    have hB5:Below V.base w (w3.putObj (w.heap.size+1) (.loop ⟨.exhausted,pend,fn,tmps3,ps,assign,body,db3⟩)):=
     (hB1.trans (by rw[<-hVV2.base];exact g2)).trans (by rw[<-(hVV2.trans g1).base];exact hB4)
    cases pend with
    |none=>exact⟨w.heap.size,0,V3,_,by simp[hd],hle3,hB5,hrel4,rfl,by simp only;omega,hm3,hcont⟩
    |some c=>
     refine wpIn_mono (hcont _ V3 _ _ hrel4 rfl) fun e a'' w'' hp=> ?_
     obtain⟨hd',V4,s4,k1,k2,k3,k4,k4b,k5⟩:=hp
     simp only at k4b k1
     refine⟨w.heap.size,0,V4,s4,by rw[hd'];simp[hd],hle3.trans ⟨k1.base,k1.imm,fun r n x hx=>k1.loc r n x (by omega)⟩,hB5.trans (by rw[<-hle3.base];exact k2),k3,k4,by rw[k4b];omega,k1.loc _ _ _ (by omega) hm3,k5⟩
end
end Go.Ab
end
section
/- A range over a function, on abstract values: the function that holds it; calls proved of what a text comes to. Condition: the executor's table of types is the program's; the constants are of their types. -/
set_option linter.unusedSimpArgs false
set_option linter.unusedVariables false
namespace Go.Ab
open Go
open Go.RowKit (Below)
section
variable {P : Program} {C : Cfg} {V : View} {w : World} {s : AState} {a : Act} {o : Oper} {ro : Option Nat} {ds : List Deferred} {F : List AObj}
theorem zBP(hC:zAb P C){f:Nat}{fn:Func}{c:Code}{args:List AV}{H:List AObj}{R:AV→List AObj→Prop}(hf:P.funcs[f]?=some fn)(hb:fn.body=some c)(hname:(fn.name== "runtime.NumGoroutine")=false)
 (hn:args.length<=fn.ntmps) (h:AV.zRR args->AWp P c (retD C fn.results.toList R) (zLe args H fn.ntmps)):zAA P f args H R:=by
 refine zBS ⟨fn,hf,by simp[hb],hname⟩ fun hok'=>⟨⟨fn,hf,by simp[hb],hname⟩,fun V w vs hI hbel hl ha=> ?_⟩
 have hrel:=zLi (n:=fn.ntmps) hI hbel hl ha hn
 have hX:=h hok' V _ w hrel
 refine calls_of_wp hf hb (wp_mono hX fun e a' w'=> ?_)
 rintro⟨V',s',h1,h2,h3,h4,h5,h6⟩
 obtain⟨he,h7⟩:=h6
 split at h7
 case h_2=>exact h7.elim
 rename_i cc vvs hares
 obtain⟨hcc,h8,h9⟩:=h7
 obtain⟨v,hv,hrep⟩:=zTf hC h3 hares hcc
 have hsb:s'.b=H.length:=h5
 have hIc:=zL1 h3
 have hle:V.Le (V'.cut s'.b):=by
  rw[hsb];exact zMz (show V.LeB H.length V' from h1) hI fun r hr=>by unfold zLC;exact YAR hr
 have hgoal:a'.defers=[]/\∃v,(results fn a'.tmps).run P w'= .ok v w'/\∃V'' v' r H',V.Le V''/\Below V.base w w'/\Ending.returned v= .returned v'/\Rep V'' v' r/\Inv V'' (zLC H') w'/\H.length<=H'.length/\R r H':=
  ⟨h3.defers,v,hv,V'.cut s'.b,v,_,s'.H,hle,h2,rfl,hrep.normed.cut h8,hIc,by rw[<-h3.hb,hsb];exact YAV _,h9⟩
 cases e with
 |normal=>exact hgoal
 |ret=>exact hgoal
 |exit id=>exact he.elim
 |goto l=>exact he.elim
 |panic ch=>exact he.elim
 |outgrown=>exact he.elim
def onN(N:AState->Prop)(e:Exit)(s:AState):Prop:=e= .normal/\N s
theorem zVQ(hC:zAb P C){x y:Code}{N:AState->Prop}{Q:Exit->Act->World->Prop}(hx:zV2 x=true)(hok:zFG s.n x=true)(h:X P C x (onN N) s)(hr:Rel V (barA a) w s)(hd:a.defers=ds)
 (hy:∀V' a' w' s',V.LeB s.b V'->Below V.base w w'->Rel V' (barA a') w' s'->a'.defers=ds->s'.n=s.n->s'.b=s.b->N s'->y.wpIn (zav ro) 0 P Q a' w'):(Code.seq x y).wpIn (zav ro) 0 P Q a w:=by
 refine wpIn_seq (wpIn_mono (zBI hC s.n x hx hok rfl h V a w hr hd) fun e a' w' hp=> ?_)
 obtain⟨hd',V',s',h1,h2,h3,h4,h4b,rfl,h5⟩:=hp
 exact hy V' a' w' s' h1 h2 h3 hd' h4 h4b h5
def zAo(C:Cfg)(rs:List ResultVar)(m b:Nat)(R:AV->List AObj->Prop)(e:Exit)(s:AState):Prop:=
 (match e with| .normal| .ret=>True|_=>False)/\s.H[m]?=some (.raw (.deferred (some [])))/\
  match zCc C {s with H:=s.H.set m (.raw (.deferred none))} rs with
  |some (c,vs)=>c/\(zYm vs).norm.bel b=true/\(∀x∈s.H.take b,x.bel b=true)/\R (zYm vs).norm (s.H.take b)
  |none=>False
theorem zNA(hC:zAb P C){fn:Func}{H:List AObj}{R:AV->List AObj->Prop}{V0:View}{w0:World}{m n:Nat}(hI:Inv V0 (zLC H) w0)(hm:H.length<=m)(hV:V0.LeB H.length V)(hB:Below V0.base w0 w){e:Exit}{a':Act}{w':World}
 (h:FinI V w m n (zAo C fn.results.toList m H.length R) e a' w'):bodyPostM (zav none) 0 P fn (fun e w'=>∃V' v r H',V0.Le V'/\Below V0.base w0 w'/\e= .returned v/\Rep V' v r/\Inv V' (zLC H') w'/\H.length<=H'.length/\R r H') e a' w':=by
 obtain⟨D,c,V',s',hd,h1,h2,h3,h4,hmb,hloc,he,hraw,h5⟩:=h
 obtain⟨b',c',g1,g2,g3,g4⟩:=h3.inv.objs m _ (zQt h3.hb hraw)
 rw[hloc]at g1
 simp only[YAM,YAY]at g1
 obtain⟨rfl,rfl⟩:=g1
 have hlt:D<w'.heap.size:=(Array.getElem?_eq_some_iff.1 g2).1
 obtain⟨hI2,hB2⟩:=zL2 h3.inv (zQt h3.hb hraw) (by simp[own,hloc]) g2 g4 (.deferred none) (x':= .raw (.deferred none)) ⟨D,c,hloc,World.putObj_heap_same hlt,g3,g4⟩ (by simp[own,hloc])
 have hrel:=zTY h3 hraw hI2 rfl
 split at h5
 case h_2=>exact h5.elim
 rename_i cc vs hares
 obtain⟨hcc,k1,k2,k3⟩:=h5
 obtain⟨v,hv,hrep⟩:=zTf hC hrel hares hcc
 have hmlt:=(YAS.1 hraw).1
 have hLe:V0.LeB H.length V':=hV.trans ⟨h1.base,h1.imm,fun r n x hr=>h1.loc r n x (by omega)⟩
 have hHl:H.length<=s'.H.length:=by omega
 have hIc:Inv (V'.cut H.length) (zLC (s'.H.take H.length)) (w'.putObj D (.deferred none)):=by
  refine hrel.inv.cut (fun r h=> ?_) (fun r h=> ?_) (fun r x h hx=> ?_)
  ·have:=hrel.hb
   simp only at this
   unfold zLC AState.obj
   simp only
   rw[if_pos (by rw[h3.hb];omega),List.getElem?_take,if_pos h,List.getElem?_set]
   rw[if_neg (by omega)]
  ·unfold zLC;exact YAR (by simp;omega)
  ·unfold AState.obj at hx
   simp only at hx
   rw[if_pos (by rw[h3.hb];omega),List.getElem?_set,if_neg (by omega)]at hx
   refine k2 x ?_
   exact List.mem_of_getElem? (show(s'.H.take H.length)[r]?=some x by rw[List.getElem?_take,if_pos h];exact hx)
 have hgoal:LeavesInM (zav none) 0 P fn a'.tmps (fun e w'=>∃V' v r H',V0.Le V'/\Below V0.base w0 w'/\e= .returned v/\Rep V' v r/\Inv V' (zLC H') w'/\H.length<=H'.length/\R r H') a'.defers .returning w':=by
  rw[hd]
  refine⟨by simp,.inl ⟨D,_,rfl,run_takeDeferred g2,v,hv,V'.cut H.length,v,_,s'.H.take H.length,zMz hLe hI fun r hr=>by unfold zLC;exact YAR hr,?_,rfl,hrep.normed.cut k1,hIc,by simp;omega,k3⟩⟩
  exact(hB.trans (by rw[<-hV.base];exact h2)).trans (by rw[<-hLe.base];exact hB2)
 cases e with
 |normal=>exact hgoal
 |ret=>exact hgoal
 |exit id=>exact he.elim
 |goto l=>exact he.elim
 |panic ch=>exact he.elim
 |outgrown=>exact he.elim
def zBA(P:Program)(C:Cfg)(rs:List ResultVar)(b:Nat)(g:Operand)(ps:Array Tmp)(assign body tail:Code)(R:AV->List AObj->Prop)(s:AState):Prop:=
 ∃gf caps,∃Rg:Nat->AV->List AObj->Prop,s.ev g= .clo gf caps/\
  (∀fn,zAA P gf (.yld ((s.H++s.L).length+1)::caps) ((s.H++s.L)++ [.raw (.deferred (some []))]++ [.lp ⟨fn,ps,assign,body⟩ (zHF s) .ready none]) (Rg fn))/\
  ∀fn r' H'',Rg fn r' H''->∃st pend,st≠ .busy/\H''[(s.H++s.L).length+1]?=some (.lp ⟨fn,ps,assign,body⟩ (zHF s) st pend)/\
   match pend with
   |none=>X P C tail (zAo C rs (s.H++s.L).length b R) ⟨s.env,H''.length,H''.set ((s.H++s.L).length+1) (.lp ⟨fn,ps,assign,body⟩ (zHF s) .exhausted pend),[],s.n⟩
   |some .ret=>zAo C rs (s.H++s.L).length b R .ret ⟨s.env,H''.length,H''.set ((s.H++s.L).length+1) (.lp ⟨fn,ps,assign,body⟩ (zHF s) .exhausted pend),[],s.n⟩
   |_=>False
def zTK(P:Program)(C:Cfg)(rs:List ResultVar)(m b:Nat)(tail:Code)(R:AV->List AObj->Prop)(e:Exit)(s:AState):Prop:=
 match e with
 | .normal=>X P C tail (zAo C rs m b R) s
 | .ret=>zAo C rs m b R .ret s
 |_=>False
theorem FinI.mono{m n:Nat}{Q Q':Exit->AState->Prop}{e:Exit}{a':Act}{w':World}(h:FinI V w m n Q e a' w')(hq:∀s,Q e s->Q' e s):FinI V w m n Q' e a' w':=by
 obtain⟨D,c,V',s',h1,h2,h3,h4,h5,h6,h7,h8⟩:=h
 exact⟨D,c,V',s',h1,h2,h3,h4,h5,h6,h7,hq _ h8⟩
theorem zBT(hC:zAb P C){f:Nat}{fn:Func}{r0 r1 r2 tail assign body:Code}{id:Nat}{g:Operand}{ps:Array Tmp}{args:List AV}{H:List AObj}{R:AV->List AObj->Prop}(hf:P.funcs[f]?=some fn)
 (hb:fn.body=some (.seq r0 (.seq r1 (.seq (.seq r2 (.block id (.rangeFunc g ps assign body))) tail)))) (hname:(fn.name== "runtime.NumGoroutine")=false) (hn:args.length≤fn.ntmps)
 (hs:(zV2 r0&&zV2 r1&&zV2 r2&&zV2 tail&&zFG fn.ntmps r0&&zFG fn.ntmps r1&&zFG fn.ntmps r2&&zFG fn.ntmps tail&&zRn g)=true)
 (h:AV.zRR args->(∀x∈H,x.bel H.length=true)->X P C r0 (onN fun s=>X P C r1 (onN fun s=>X P C r2 (onN (zBA P C fn.results.toList H.length g ps assign body tail R)) s) s) (zLe args H fn.ntmps)):zAA P f args H R:=by
 simp only[YAA]at hs
 obtain⟨⟨⟨⟨⟨⟨⟨⟨s0,s1⟩,s2⟩,st⟩,c0⟩,c1⟩,c2⟩,ct⟩,hg⟩:=hs
 refine zBS ⟨fn,hf,by simp[hb],hname⟩ fun hok'=>⟨⟨fn,hf,by simp[hb],hname⟩,fun V w vs hI hbel hl ha=> ?_⟩
 have hrel:=zLi (n:=fn.ntmps) hI hbel hl ha hn
 refine zaw (ro:=none) (n:=0) (callsIn_of_wp_marks hf hb trivial ?_ rfl)
 refine zVQ (a:=⟨vs++Array.replicate (fn.ntmps-vs.size) undef,[]⟩) hC s0 c0 (h hok' hbel) hrel rfl fun V1 a1 w1 t1 v1 b1 rel1 d1 n1 q1 h1=> ?_
 refine zVQ hC s1 (by rw[n1];exact c1) h1 rel1 d1 fun V2 a2 w2 t2 v2 b2 rel2 d2 n2 q2 h2=> ?_
 have nn2:t2.n=fn.ntmps:=n2.trans n1
 refine wpIn_seq (zVQ hC s2 (by rw[nn2];exact c2) h2 rel2 d2 fun V3 a3 w3 t3 v3 b3 rel3 d3 n3 q3 h3=> ?_)
 obtain⟨gf,caps,Rg,k1,k2,k3⟩:=h3
 have hbb:t3.b=H.length:=q3.trans (q2.trans q1)
 have nn3:t3.n=fn.ntmps:=n3.trans nn2
 have hm:H.length<=(t3.H++t3.L).length:=by have:=rel3.hb;simp;omega
 have hV3:V.LeB H.length V3:=by
  have e1:V.LeB H.length V1:=v1
  have e2:V1.LeB H.length V2:=by have:=v2;rw[q1]at this;exact this
  have e3:V2.LeB H.length V3:=by have:=v3;rw[q2,q1]at this;exact this
  exact(e1.trans e2).trans e3
 have hB3:Below V.base w w3:=by
  have e1:V1.base=V.base:=v1.base
  have e2:V2.base=V.base:=v2.base.trans e1
  rw[e1]at b2;rw[e2]at b3
  exact(b1.trans b2).trans b3
 refine wpIn_block (wpIn_mono (zTL (Q:=zTK P C fn.results.toList (t3.H++t3.L).length H.length tail R) hC rel3 d3 k1 hg rfl k2 fun fnn r' H'' hR=> ?_) fun e a' w' hp=> ?_)
 ·obtain⟨stt,pend,j1,j2,j3⟩:=k3 fnn r' H'' hR
  refine⟨stt,pend,j1,j2,?_⟩
  cases pend with
  |none=>exact j3
  |some c=>
   cases c with
   |ret=>exact fun ds=>zBI hC _ .ret rfl rfl rfl j3
   |_=>exact j3.elim
 ·cases e with
  |normal=>
   obtain⟨D,c,V',s',hd',g1,g2,g3,g4,g5,g6,g7⟩:=hp
   refine wpIn_mono (zBI (ro:=none) hC fn.ntmps tail st ct (g4.trans nn3) g7 V' a' w' g3 rfl) fun e a'' w'' hq=> ?_
   obtain⟨hd'',V'',s'',j1,j2,j3,j4,j4b,j5⟩:=hq
   refine zNA (n:=fn.ntmps) hC hI hm hV3 hB3 ⟨D,c,V'',s'',by rw[hd''];exact hd',g1.trans ⟨j1.base,j1.imm,fun r n x hr=>j1.loc r n x (by omega)⟩,g2.trans (by rw[<-g1.base];exact j2),j3,(j4.trans g4).trans nn3,by rw[j4b];exact g5,j1.loc _ _ _ g5 g6,j5⟩
  |ret=>
   have hp':FinI V3 w3 (t3.H++t3.L).length t3.n (zAo C fn.results.toList (t3.H++t3.L).length H.length R) .ret a' w':=by
    obtain⟨D,c,V',s',g0,g1,g2,g3,g4,g5,g6,g7⟩:=hp
    exact⟨D,c,V',s',g0,g1,g2,g3,g4,g5,g6,g7⟩
   exact zNA hC hI hm hV3 hB3 hp'
  |exit i=>
   obtain⟨D,c,V',s',g0,g1,g2,g3,g4,g5,g6,g7⟩:=hp
   exact g7.elim
  |goto t=>
   obtain⟨D,c,V',s',g0,g1,g2,g3,g4,g5,g6,g7⟩:=hp
   exact g7.elim
  |panic ch=>
   obtain⟨D,c,V',s',g0,g1,g2,g3,g4,g5,g6,g7⟩:=hp
   exact g7.elim
  |outgrown=>
   obtain⟨D,c,V',s',g0,g1,g2,g3,g4,g5,g6,g7⟩:=hp
   exact g7.elim
end
end Go.Ab
end
section
/- A region that calls yield, amid plain code. Condition: the executor's table of types is the program's; the constants are of their types. -/
set_option linter.unusedSimpArgs false
set_option linter.unusedVariables false
namespace Go.Ab
open Go
open Go.RowKit (Below)
section
variable {P : Program} {C : Cfg} {s : AState}
theorem zbg{o:Oper}{K K':AState->Prop}{s:AState}(hk:∀s',K s'->K' s')(h:xop P C o K s):xop P C o K' s:=by
 unfold xop at h⊢
 split at h
 ·split at h
  case h_2=>cases h
  exact⟨h.1,fun V w vs h1 h2 h3 h4 h5=>(h.2 V w vs h1 h2 h3 h4 h5).mono fun _ _ ⟨V',v,r,s',g1,g2,g3,g4,g5,g6,g7,g8,g9,g10,g11⟩=>
   ⟨V',v,r,s',g1,g2,g3,g4,g5,g6,g7,g8,g9,g10,hk _ g11⟩⟩
 ·split at h
  case h_2=>cases h
  exact⟨h.1,hk _ h.2⟩
theorem zbl:∀ {l:List Oper} {K K':AState->Prop} {s:AState},zbk P C l K s->(∀s',K s'->K' s')->zbk P C l K' s
 | [],K,K',s,h,hk=>hk s h
 |o::l,K,K',s,h,hk=>by
  obtain⟨hg,h⟩:=h
  refine⟨hg,?_⟩
  rcases h with ⟨f,args,ts,q,h1,h2,R,h3,h4⟩|h
  ·exact .inl ⟨f,args,ts,q,h1,h2,R,h3,fun r H'' hr hl=>⟨(h4 r H'' hr hl).1,zbl (h4 r H'' hr hl).2 hk⟩⟩
  ·exact .inr (zbg (fun s' h=>zbl h hk) h)
theorem zC7(hC:zAb P C){r0 c2 rest:Code}{id:Nat}{ops:Array Oper}{K:Exit->AState->Prop}{n:Nat}(hn:s.n=n)(hok:(zFG n r0&&zFG n c2&&zFG n rest&&zFG n (.region id ops false))=true)
 (h:X P C r0 (onN fun s1=>zbk P C ops.toList (fun s2=>Go P C K [.code c2,.code rest] s2) s1) s):AWp P (.seq r0 (.seq (.seq (.region id ops false) c2) rest)) K s:=by
 simp only[YAA]at hok
 obtain⟨⟨⟨k0,k2⟩,kr⟩,k1⟩:=hok
 refine zC5 ((zBH hC zEA n r0 k0 hn h).mono fun e s1 hs1 hb1 hq=> ?_)
 obtain⟨rfl,hq⟩:=hq
 refine zC5 (zC5 ((zC6 (Q:=onN fun s2=>Go P C K [.code c2,.code rest] s2) hC (by rw[hs1,hn];exact k1) ?_).mono fun e s2 hs2 hb2 hq2=> ?_))
 ·exact zbl hq fun s' h=>⟨rfl,h⟩
 ·obtain⟨rfl,hq2⟩:=hq2
  have h2:X P C c2 (zFW K (X P C rest K)) s2:=hq2
  refine(zBH hC zEA n c2 k2 (by rw[hs2,hs1,hn]) h2).mono fun e s3 hs3 hb3 hq3=> ?_
  cases e with
  |normal=>exact zBH hC zEA n rest kr (by rw[hs3,hs2,hs1,hn]) hq3
  |_=>exact hq3
theorem zIF{e:Nat->AV}{F:List AObj}{b n:Nat}(hb:b=F.length):(⟨e,b,F,[],n⟩:AState)=FS e F b n:=by
 subst hb;simp[FS]
theorem zIT{e:Nat->AV}{F:List AObj}{q n:Nat}{x:AObj}:(⟨e,F.length,F.set q x,[],n⟩:AState)=FS e (F.set q x) F.length n:=zIF (by simp)
theorem zTJ{rs:List ResultVar}{b0 g:Nat}{ps:Array Tmp}{assign body tail:Code}{R:AV->List AObj->Prop}{e:Nat->AV}{F:List AObj}{b n gf:Nat}{caps:List AV}(Rg:LpD->List AV->AV->List AObj->Prop)(hg:e g= .clo gf caps)
 (hcall:∀fn d env,d=LpD.mk fn ps assign body->env.length=n->(∀t,t<n->env.getD t .any=e t)->zAA P gf (.yld (F.length+1)::caps) (F++ [.raw (.deferred (some [])),.lp d env .ready none]) (Rg d env))
 (hend:∀d env r' H'',Rg d env r' H''->∃st pend,st≠ .busy/\H''[F.length+1]?=some (.lp d env st pend)/\
  match pend with
  |none=>X P C tail (zAo C rs F.length b0 R) (FS e (H''.set (F.length+1) (.lp d env .exhausted pend)) H''.length n)
  |some .ret=>zAo C rs F.length b0 R .ret (FS e (H''.set (F.length+1) (.lp d env .exhausted pend)) H''.length n)
  |_=>False):zBA P C rs b0 (.tmp g) ps assign body tail R (FS e F b n):=by
 have hHL:(FS e F b n).H++(FS e F b n).L=F:=zID
 refine⟨gf,caps,fun fn=>Rg ⟨fn,ps,assign,body⟩ (zHF (FS e F b n)),hg,fun fn=> ?_,fun fn r' H'' hr=> ?_⟩
 ·rw[hHL,List.append_assoc]
  exact hcall fn _ _ rfl (by simp[zHF,FS]) (fun t ht=>by rw[zHG];exact if_pos ht)
 ·obtain⟨st,pend,h1,h2,h3⟩:=hend _ _ r' H'' hr
  rw[hHL]
  refine⟨st,pend,h1,h2,?_⟩
  cases pend with
  |none=>simp only at h3⊢;rw[show(FS e F b n).env=e from rfl,show(FS e F b n).n=n from rfl,zIT];exact h3
  |some c=>
   cases c with
   |ret=>simp only at h3⊢;rw[show(FS e F b n).env=e from rfl,show(FS e F b n).n=n from rfl,zIT];exact h3
   |_=>exact h3.elim
theorem zbq(hC:zAb P C){r p:Nat}{d:LpD}{env:List AV}{x:AV}{F:List AObj}{R:AV->List AObj->Prop}(hr:F[r]?=some (.lp d env .ready none))(hps:d.ps= #[p])(hp:p<env.length)
 (hok:(zV2 d.assign&&zFG env.length d.assign&&zV2 d.body&&zFG env.length d.body)=true)
 (h:∀e:Nat->AV,(∀t,t≠p->e t=env.getD t .any)->e p=x->Go P C (zCs P C r d env R) [.code d.assign] (FS e F F.length env.length)):zBJ P r [x] F R:=by
 simp only[YAA]at hok
 obtain⟨⟨⟨h1,h2⟩,h3⟩,h4⟩:=hok
 refine zbr hC hr hps hp ⟨h1,h2⟩ ⟨h3,h4⟩ ?_
 have:=h (fun t=>(env.set p x).getD t .any) (fun t ht=>by simp[YAF,Ne.symm ht]) (by simp[hp])
 rw[<-zIF rfl]at this
 exact this
end
end Go.Ab
end
