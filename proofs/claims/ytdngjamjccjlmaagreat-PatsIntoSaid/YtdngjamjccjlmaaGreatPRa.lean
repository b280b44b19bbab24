/- Lemmas: plain code in rounds. No condition. -/
import Derived.Test.YtdngjamjccjlmaaGreatPAc
import Derived.RangeFuncRecord
section
/- A range over a function, on abstract values: plain code within a round and behind a mark; the loop's record; yield. Condition: the executor's table of types is the program's; the constants are of their types. -/
set_option linter.unusedSimpArgs false
set_option linter.unusedVariables false
namespace Go.Ab
open Go
open Go.RowKit (Below)
def zav(ro:Option Nat):Fence:= {fn:=fun _=>True,depth:=none,alive:=false,round:=ro}
theorem zEG{ro:Option Nat}{n:Nat}{P:Program}{f:FuncId}{args:Array Value}{w:World}{R:Ending->World->Prop}(h:Calls P f args w R):CallsIn (zav ro) n P f args w R:=
 (callsIn_wide (n:=n)).2 h
theorem zaw{ro:Option Nat}{n:Nat}{P:Program}{f:FuncId}{args:Array Value}{w:World}{R:Ending->World->Prop}(h:CallsIn (zav ro) n P f args w R):Calls P f args w R:=
 (callsIn_wide (n:=n)).1 h
section
variable {P : Program} {C : Cfg} {V : View} {w : World} {s : AState} {a : Act} {o : Oper} {ro : Option Nat} {ds : List Deferred}
abbrev barA (a:Act):Act:=⟨a.tmps,[]⟩
theorem zDA(a:Act)(d:Option Tmp)(v:Value):barA (a.put d v)=(barA a).put d v:=by cases d<;>rfl
theorem put_defers(a:Act)(d:Option Tmp)(v:Value):(a.put d v).defers=a.defers:=by cases d<;>rfl
theorem zbi(hC:zAb P C)(hr:Rel V (barA a) w s)(hds:a.defers=ds)(hok:zRm o=true)(hd:zF0 s.n o=true){K:AState->Prop}{K':Act->World->Prop}{Q:Exit->Act->World->Prop}
 (h:xop P C o K s) (hK:∀V' a' w' s',V.Le V'->Below V.base w w'->Rel V' (barA a') w' s'->a'.defers=ds->s'.n=s.n->s'.b=s.b->K s'->K' a' w'):o.wpIn (zav ro) 0 P a w K' Q:=by
 have hk:∀x∈o.op.operands.toList,zRn x=true:=List.all_eq_true.1 hok
 unfold xop at h
 refine⟨fun _ _=>trivial,?_⟩
 split at h
 ·rename_i f args ts hop
  split at h
  case h_2=>cases h
  rename_i g hev
  have hrf:=zHQ hr f (hk f (by simp[hop,Op.operands,Call.operands]))
  rw[hev]at hrf
  generalize hvf:(barA a).eval f=vf at hrf
  cases hrf
  have hfn:=zEA _ _ _ _ h
  have hex:(o.semAt (zav ro).round a.eval).run P w= .ok (.enter g (args.map a.eval)) w:=by
   rw[Oper.semAt_eq _ _ _ (by rw[hop];intro c hc;cases hc)]
   exact zHS (a:=(barA a)) hop hvf hfn
  rw[hex,Oper.uponIn_enter]
  have hcall:=h.2 V w (args.map a.eval) hr.hb hr.inv hr.bel (by simp) (fun i hi=>by
   simp only[YAK,Array.length_toList]at hi
   have hm:args[i]∈args.toList:=by simp
   have:Rep V (a.eval args[i]) (s.ev args[i]):=zHQ hr args[i] (hk _ (by simp only[hop,Op.operands,Call.operands];simp))
   simpa [YAF,hi]using this)
  refine⟨fun hh=>by simp[zav]at hh,zEG (hcall.mono fun e w' he=> ?_)⟩
  obtain⟨V',v,r,s',h1,h2,rfl,h4,h5,h6,h7,h8,h9,h10,h11⟩:=he
  have hrel:Rel V' (barA a) w' s':=hr.of_w h1 ⟨h7,h6,h5⟩ h8 h9
  exact hK V' _ w' _ h1 h2 (by rw[zDA];exact hrel.put h4 (fun d hd'=>by rw[h9];exact zF1 hd d hd')) (by rw[put_defers];exact hds) (by rw[<-h9];cases o.dst<;>rfl) (by rw[<-h10];cases o.dst<;>rfl) h11
 ·split at h
  case h_2=>cases h
  rename_i c v s' heff
  obtain⟨hc,hKs⟩:=h
  obtain⟨nx,w',V',g1,g2,g3,g4,g5,g6,g7,g8⟩:=zGE hC hr heff hc hok
  have hrel:Rel V' (barA a) w' s':=hr.of_w g2 g4 g5 g6
  have hex:(o.semAt (zav ro).round a.eval).run P w= .ok nx w':=by
   rw[Oper.semAt_eq _ _ _ (by intro c hc;simp[eff,hc]at heff)]
   exact g1
  rw[hex]
  have hn:∀x,(s'.put o.dst x).n=s.n:=fun x=>by rw[<-g6];cases o.dst<;>rfl
  have hbb:∀x,(s'.put o.dst x).b=s.b:=fun x=>by rw[<-g7];cases o.dst<;>rfl
  rcases g8 with ⟨u,rfl,hu⟩|⟨rfl,hv⟩
  ·rw[Oper.uponIn_value]
   exact hK V' _ w' _ g2 g3 (by rw[zDA];exact hrel.put hu (fun d hd'=>by rw[g6];exact zF1 hd d hd')) (by rw[put_defers];exact hds) (hn _) (hbb _) hKs
  ·rw[Oper.uponIn_skip]
   simp only at hv
   subst hv
   exact hK V' _ w' _ g2 g3 (by rw[zDA];exact hrel.put (.any _) (fun d hd'=>by rw[g6];exact zF1 hd d hd')) (by rw[put_defers];exact hds) (hn _) (hbb _) hKs
def zbL(ro:Option Nat)(P:Program)(ops:Array Oper)(Q:Exit->Act->World->Prop)(i:Nat)(K:Act->World->Prop)(a:Act)(w:World):Prop:=
 match ops[i]? with
 |none=>K a w
 |some o=>if Region.wanted o (yielded ops a.tmps)then o.wpIn (zav ro) 0 P a w K Q else K (a.put o.dst undef) w
theorem wpOpsIn_cons{ops:Array Oper}{Q:Exit->Act->World->Prop}(i:Nat)(rest:List Nat)(a:Act)(w:World)(h:zbL ro P ops Q i (wpOpsIn (zav ro) 0 P ops Q rest) a w):wpOpsIn (zav ro) 0 P ops Q (i::rest) a w:=by
 unfold zbL at h
 unfold wpOpsIn
 cases hi:ops[i]? with
 |none=>simpa [hi]using h
 |some o=>
  simp only[hi]at h⊢
  split at h
  ·rename_i hw;rw[if_pos hw];exact h
  ·rename_i hw;rw[if_neg hw];exact⟨fun _ _=>trivial,h⟩
theorem zbc(hC:zAb P C)(hr:Rel V (barA a) w s)(hds:a.defers=ds){ops:Array Oper}{i:Nat}(hi:ops[i]?=some o)(hok:zRm o=true)(hd:zF0 s.n o=true){K:AState->Prop}{K':Act->World->Prop}{Q:Exit->Act->World->Prop}
 (h:xguard P C ops o K s) (hK:∀V' a' w' s',V.Le V'->Below V.base w w'->Rel V' (barA a') w' s'->a'.defers=ds->s'.n=s.n->s'.b=s.b->K s'->K' a' w'):zbL ro P ops Q i K' a w:=by
 have hwant:∀t want b,guardOf ops o=some (some t,want)->s.env t= .bool b->Region.wanted o (yielded ops a.tmps)=(b==want):=by
  intro t want b h1 h2
  unfold guardOf at h1
  cases hgd:o.guard with
  |none=>rw[hgd]at h1;simp at h1
  |some gw=>
   obtain⟨j,wt⟩:=gw
   rw[hgd]at h1
   simp only[Option.map_some,YAM,YAY]at h1
   obtain⟨h3,rfl⟩:=h1
   have h4:=hr.env t
   rw[h2]at h4
   generalize hv:(barA a).tmps.getD t undef=v at h4
   cases h4
   have h5:a.tmps[t]?=some (.bool b):=by
    simp only[barA]at hv
    rw[Array.getD_eq_getD_getElem?]at hv
    cases ht:a.tmps[t]? with
    |none=>rw[ht]at hv;simp[undef]at hv
    |some y=>rw[ht]at hv;simp at hv;rw[hv]
   simp only[Region.wanted,hgd,yielded,h3,Option.bind_some,h5]
   cases b<;>cases wt<;>rfl
 have hskip:∀t want,guardOf ops o=some (some t,want)->s.env t= .tup []->Region.wanted o (yielded ops a.tmps)=false:=by
  intro t want h1 h2
  unfold guardOf at h1
  cases hgd:o.guard with
  |none=>rw[hgd]at h1;simp at h1
  |some gw=>
   obtain⟨j,wt⟩:=gw
   rw[hgd]at h1
   simp only[Option.map_some,YAM,YAY]at h1
   obtain⟨h3,rfl⟩:=h1
   have h4:=hr.env t
   rw[h2]at h4
   generalize hv:(barA a).tmps.getD t undef=v at h4
   cases h4
   rename_i cs hl hh
   have h5:a.tmps[t]?=some (.tuple cs)\/a.tmps[t]?=none:=by
    simp only[barA]at hv
    rw[Array.getD_eq_getD_getElem?]at hv
    cases ht:a.tmps[t]? with
    |none=>exact .inr rfl
    |some y=>rw[ht]at hv;simp at hv;rw[hv];exact .inl rfl
   simp only[Region.wanted,hgd,yielded,h3,Option.bind_some]
   rcases h5 with h5|h5<;>simp[h5]
 have hsk:∀ {s':AState},s'=s.put o.dst (.tup [])->K s'->K' (a.put o.dst undef) w:=fun {s'} e hk=>by
  subst e
  exact hK V _ w _ (.refl V) (.refl _ _) (by rw[zDA];exact hr.put (zTc V) (fun d hd'=>zF1 hd d hd')) (by rw[put_defers];exact hds) (by cases o.dst<;>rfl) (by cases o.dst<;>rfl) hk
 unfold zbL
 simp only[hi]
 unfold xguard at h
 split at h
 ·rename_i hgd
  have hno:o.guard=none:=by
   unfold guardOf at hgd
   simpa using hgd
  rw[if_pos (by simp[Region.wanted,hno])]
  exact zbi hC hr hds hok hd h hK
 ·rename_i t want hgd
  split at h
  case h_3=>cases h
  ·rename_i b hev
   have hw:=hwant t want b hgd hev
   split at h
   ·rename_i hbw
    rw[if_pos (by rw[hw];simp[hbw])]
    exact zbi hC hr hds hok hd h hK
   ·rename_i hbw
    rw[if_neg (by rw[hw];simp[hbw])]
    exact hsk rfl h
  ·rename_i hev
   rw[if_neg (by rw[hskip t want hgd hev];simp)]
   exact hsk rfl h
 ·cases h
def zA4(ds:List Deferred)(V:View)(w:World)(n b:Nat)(Q:Exit->AState->Prop)(e:Exit)(a':Act)(w':World):Prop:=a'.defers=ds/\Post V w n b Q e (barA a') w'
theorem zbp(hC:zAb P C){ops:Array Oper}{n:Nat}(hok:∀o∈ops.toList,zRm o=true/\zF0 n o=true){Q:Exit->AState->Prop}{V0:View}{w0:World}{b:Nat}:
 ∀(l:List Nat) {V:View} {a:Act} {w:World} {s:AState},s.n=n->s.b=b->Rel V (barA a) w s->a.defers=ds->V0.LeB b V->Below V0.base w0 w->xops P C ops (l.filterMap (ops[·]?)) (Q .normal) s->
  wpOpsIn (zav ro) 0 P ops (zA4 ds V0 w0 n b Q) l a w
 | [],V,a,w,s,hn,hb,hr,hds,hV,hB,h=>⟨hds,V,s,hV,hB,hr,hn,hb,h⟩
 |i::l,V,a,w,s,hn,hb,hr,hds,hV,hB,h=>by
  refine wpOpsIn_cons i l a w ?_
  cases hi:ops[i]? with
  |none=>
   unfold zbL
   simp only[hi]
   rw[List.filterMap_cons,hi]at h
   exact zbp hC hok l hn hb hr hds hV hB h
  |some o=>
   rw[List.filterMap_cons,hi]at h
   simp only[xops]at h
   have ho:=hok o (Array.mem_toList_iff.2 (Array.mem_of_getElem? hi))
   refine zbc hC hr hds hi ho.1 (by rw[hn];exact ho.2) h fun V' a' w' s' h1 h2 h3 h4d h4 h4b h5=> ?_
   exact zbp hC hok l (by rw[h4,hn]) (by rw[h4b,hb]) h3 h4d (hV.trans (h1.toB b)) (hB.trans (by rw[<-hV.base];exact h2)) h5
def AWpI(ro:Option Nat)(ds:List Deferred)(P:Program)(c:Code)(Q:Exit->AState->Prop)(s:AState):Prop:=
 ∀V a w,Rel V (barA a) w s->a.defers=ds->c.wpIn (zav ro) 0 P (zA4 ds V w s.n s.b Q) a w
def zV2:Code->Bool
 | .skip| .exit _| .ret=>true
 | .region _ _ d=> !d
 | .seq x y=>zV2 x&&zV2 y
 | .cond _ x y=>zV2 x&&zV2 y
 | .block _ b=>zV2 b
 |_=>false
theorem zSf{V V':View}{w w':World}{n n' b b':Nat}{Q:Exit->AState->Prop}{e:Exit}{a':Act}{w'':World}(h1:V.LeB b V')(h2:Below V.base w w')(hn:n'=n)(hb:b'=b)(h:zA4 ds V' w' n' b' Q e a' w''):zA4 ds V w n b Q e a' w'':=by
 subst hn;subst hb
 obtain⟨hd,V'',s'',g1,g2,g3,g4,g4b,g5⟩:=h
 exact⟨hd,V'',s'',h1.trans g1,h2.trans (by rw[<-h1.base];exact g2),g3,g4,g4b,g5⟩
theorem zBI(hC:zAb P C)(n:Nat):∀(c:Code) {K:Exit->AState->Prop} {s:AState},zV2 c=true->zFG n c=true->s.n=n->X P C c K s->AWpI ro ds P c K s
 | .skip,K,s,_,_,hn,h=>fun V a w hr hd=>wpIn_skip ⟨hd,V,s,.refl _ V,.refl _ _,hr,rfl,rfl,h⟩
 | .region id ops false,K,s,_,hok,hn,h=>by
  intro V a w hr hd
  simp only[zFG,List.all_eq_true,YAA]at hok
  simp only[X]at h
  refine wpIn_region ?_
  rw[hn]
  refine zbp hC hok (List.range ops.size) (V0:=V) (w0:=w) hn rfl hr hd (.refl _ V) (.refl _ _) ?_
  rw[zHb];exact h
 | .seq x y,K,s,hs,hok,hn,h=>by
  simp only[zFG,YAA]at hok
  simp only[zV2,YAA]at hs
  simp only[X]at h
  intro V a w hr hd
  refine wpIn_seq (wpIn_mono (zBI hC n x hs.1 hok.1 hn h V a w hr hd) fun e a' w' hp=> ?_)
  obtain⟨hd',V',s',h1,h2,h3,h4,h4b,h5⟩:=hp
  cases e with
  |normal=>exact wpIn_mono (zBI hC n y hs.2 hok.2 (h4.trans hn) h5 V' a' w' h3 hd') fun e a'' w'' hp=>zSf h1 h2 h4 h4b hp
  |_=>exact⟨hd',V',s',h1,h2,h3,h4,h4b,h5⟩
 | .cond c x y,K,s,hs,hok,hn,h=>by
  simp only[zFG,YAA]at hok
  simp only[zV2,YAA]at hs
  simp only[X]at h
  split at h
  ·rename_i t hev
   intro V a w hr hd
   have hrc:=zHQ hr c hok.1.1
   rw[hev]at hrc
   generalize hv:(barA a).eval c=v at hrc
   cases hrc
   refine wpIn_cond (t:=t) hv ?_
   split at h
   ·rename_i ht;rw[if_pos ht];exact zBI hC n x hs.1 hok.1.2 hn h V a w hr hd
   ·rename_i ht;rw[if_neg ht];exact zBI hC n y hs.2 hok.2 hn h V a w hr hd
  ·cases h
 | .block id b,K,s,hs,hok,hn,h=>by
  simp only[zFG]at hok
  simp only[zV2]at hs
  simp only[X]at h
  intro V a w hr hd
  refine wpIn_block (wpIn_mono (zBI hC n b hs hok hn h V a w hr hd) fun e a' w' hp=> ?_)
  obtain⟨hd',V',s',h1,h2,h3,h4,h4b,h5⟩:=hp
  cases e with
  |exit i=>
   simp only[Exit.inBlock]
   simp only[zLb]at h5
   split
   ·rename_i hi;rw[if_pos hi]at h5;exact⟨hd',V',s',h1,h2,h3,h4,h4b,h5⟩
   ·rename_i hi;rw[if_neg hi]at h5;exact⟨hd',V',s',h1,h2,h3,h4,h4b,h5⟩
  |_=>exact⟨hd',V',s',h1,h2,h3,h4,h4b,h5⟩
 | .exit id,K,s,_,_,hn,h=>fun V a w hr hd=>wpIn_exit ⟨hd,V,s,.refl _ V,.refl _ _,hr,rfl,rfl,h⟩
 | .ret,K,s,_,_,hn,h=>fun V a w hr hd=>wpIn_ret ⟨hd,V,s,.refl _ V,.refl _ _,hr,rfl,rfl,h⟩
end
end Go.Ab
end
section
/- A range over a function, on abstract values: the loop's record, one round, the statement, the function's end. Condition: the executor's table of types is the program's; the constants are of their types. -/
set_option linter.unusedSimpArgs false
set_option linter.unusedVariables false
namespace Go.Ab
open Go
open Go.RowKit (Below)
section
variable {P : Program} {C : Cfg} {V : View} {w : World} {s : AState} {a : Act} {ro : Option Nat} {ds : List Deferred} {F : List AObj}
theorem zLD{r:Nat}{x:AObj}(hr:r<F.length):zLC (F.set r x)=fun q=>if q=r then some x else zLC F q:=by
 funext q
 unfold zLC
 rw[List.getElem?_set]
 by_cases h:r=q
 ·subst h;simp[hr]
 ·simp[h,Ne.symm h]
theorem zLE(x:AObj):zLC (F++ [x])=fun q=>if q=F.length then some x else zLC F q:=by
 funext q
 unfold zLC
 rw[List.getElem?_append]
 by_cases h:q<F.length
 ·simp[h,show q≠F.length by omega]
 ·by_cases h2:q=F.length
  ·subst h2;simp
  ·simp[h,h2];omega
theorem zL2{obj:Nat->Option AObj}(h:Inv V obj w){r:Nat}{x x':AObj}(hr:obj r=some x){b:Nat}(hb:own V r x=some b){ob:Obj}(ho:w.heap[b]?=some ob)
 (hn:∀o,V.imm b o=none) (ob':Obj) (hnew:zAy V (w.putObj b ob') r x') (hown:own V r x'=some b):
 Inv V (fun q=>if q=r then some x' else obj q) (w.putObj b ob')/\Below V.base w (w.putObj b ob'):=by
 have hlt:b<w.heap.size:=(Array.getElem?_eq_some_iff.1 ho).1
 refine⟨h.write r x x' hr b hb (by simp) (fun k hk=>World.putObj_heap_other hk) V (.refl V) (fun _ _ _=>rfl) (fun o v hv=> ?_) (fun _ _ _=>rfl) hnew hown,?_⟩
 ·rw[hn o]at hv;cases hv
 ·have hbase:=((h.objs r x hr).zRr hb).1
  exact⟨rfl,rfl,rfl,by simp,fun k hk=>World.putObj_heap_other (by omega)⟩
theorem zN2{obj:Nat->Option AObj}(h:Inv V obj w){r:Nat}{d:LpD}{env:List AV}{st:LoopState}{pend:Option Code}(hr:obj r=some (.lp d env st pend)){l c:Nat}(hl:V.loc r 0=some (some l,c)):
 ∃tmps db,w.heap[l]?=some (.loop ⟨st,pend,d.fn,tmps,d.ps,d.assign,d.body,db⟩)/\tmps.size=env.length/\(∀i,i<env.length->Rep V (tmps.getD i undef) (env.getD i .any))/\
  ∀st' pend',Inv V (fun q=>if q=r then some (.lp d env st' pend')else obj q) (w.putObj l (.loop ⟨st',pend',d.fn,tmps,d.ps,d.assign,d.body,db⟩))/\
   Below V.base w (w.putObj l (.loop ⟨st',pend',d.fn,tmps,d.ps,d.assign,d.body,db⟩)):=by
 obtain⟨b,c',tmps,db,h1,h2,h3,h4,h5,h6⟩:=h.objs r _ hr
 rw[hl]at h1
 simp only[YAM,YAY]at h1
 obtain⟨rfl,rfl⟩:=h1
 refine⟨tmps,db,h2,h4,h5,fun st' pend'=> ?_⟩
 have hlt:l<w.heap.size:=(Array.getElem?_eq_some_iff.1 h2).1
 exact zL2 h hr (by simp[own,hl]) h2 h6 _ ⟨l,c,tmps,db,hl,World.putObj_heap_same hlt,h3,h4,h5,h6⟩ (by simp[own,hl])
def zBJ(P:Program)(r:Nat)(args:List AV)(H:List AObj)(R:AV->List AObj->Prop):Prop:=
 ∀V w vs l c,Inv V (zLC H) w->(∀x∈H,x.bel H.length=true)->vs.size=args.length->(∀i,i<args.length->Rep V (vs.getD i undef) (args.getD i .any))->V.loc r 0=some (some l,c)->
  ∃fn tmps assign body,(Instr.yield l vs).run P w= .ok (.round l fn tmps assign body) w/\
   RoundIn (zav none) 0 P l fn tmps assign body w fun e w'=>∃V' v r' H',V.Le V'/\Below V.base w w'/\e= .returned v/\Rep V' v r'/\Inv V' (zLC H') w'/\H.length<=H'.length/\R r' H'
def zUU(r:Nat)(d:LpD)(env:List AV)(R:AV->List AObj->Prop)(e:Exit)(s:AState):Prop:=
 s.H[r]?=some (.lp d env .busy none)/\match e with
 | .normal=>R (.bool true) (s.H.set r (.lp d env .ready none))
 | .ret=>R (.bool false) (s.H.set r (.lp d env .done (some .ret)))
 | .exit id=>R (.bool false) (s.H.set r (.lp d env .done (some (.exit id))))
 |_=>False
def zCs(P:Program)(C:Cfg)(r:Nat)(d:LpD)(env:List AV)(R:AV->List AObj->Prop)(e:Exit)(s:AState):Prop:=
 e= .normal/\s.H[r]?=some (.lp d env .ready none)/\X P C d.body (zUU r d env R) {s with H:=s.H.set r (.lp d env .busy none)}
theorem zQt{s:AState}(hb:s.b=s.H.length){r:Nat}{x:AObj}(h:s.H[r]?=some x):s.obj r=some x:=by
 have:=(YAS.1 h).1
 unfold AState.obj
 rw[if_pos (by omega)];exact h
theorem zTY{V:View}{a:Act}{w w':World}{s:AState}(hr:Rel V a w s){r:Nat}{x x':AObj}(hx:s.H[r]?=some x)
 (hi:Inv V (fun q=>if q=r then some x' else s.obj q) w') (hbel:x'.bel s.b=true):Rel V a w' {s with H:=s.H.set r x'}:=by
 have hlt:=(YAS.1 hx).1
 have hb:=hr.hb
 refine⟨by simp[hb],fun y hy=> ?_,?_,hr.size,hr.defers,hr.env⟩
 ·rcases List.mem_or_eq_of_mem_set hy with h|rfl
  ·exact hr.bel y h
  ·exact hbel
 ·have:({s with H:=s.H.set r x'}:AState).obj=fun q=>if q=r then some x' else s.obj q:=by
   funext q
   unfold AState.obj
   simp only
   by_cases hq:q=r
   ·subst hq;rw[if_pos (by omega)];simp[hlt]
   ·by_cases hqb:q<s.b
    ·rw[if_pos hqb,if_neg hq,if_pos hqb];rw[List.getElem?_set];simp[Ne.symm hq]
    ·rw[if_neg hqb,if_neg hq,if_neg hqb]
  rw[this];exact hi
theorem zL1{V:View}{a:Act}{w:World}{s:AState}(hr:Rel V a w s):Inv (V.cut s.b) (zLC s.H) w:=by
 have hb:=hr.hb
 refine hr.inv.cut (fun r h=> ?_) (fun r h=> ?_) (fun r x h hx=> ?_)
 ·unfold zLC AState.obj;rw[if_pos h]
 ·unfold zLC;exact YAR (by omega)
 ·unfold AState.obj at hx;rw[if_pos h]at hx;exact hr.bel x (List.mem_of_getElem? hx)
theorem zMz{V V':View}{b:Nat}{obj:Nat->Option AObj}{w:World}(h:V.LeB b V')(hI:Inv V obj w)(hd:∀r,b<=r->obj r=none):V.Le (V'.cut b):=
 ⟨h.base,h.imm,fun r n x hx=>by
  have hs:=hI.dom r n x hx
  rcases Nat.lt_or_ge r b with h1|h1
  ·simp only[View.cut];rw[if_pos h1];exact h.loc r n x h1 hx
  ·rw[hd r h1]at hs;simp at hs⟩
theorem zbr(hC:zAb P C){r p:Nat}{d:LpD}{env:List AV}{x:AV}{H:List AObj}{R:AV->List AObj->Prop}(hr:H[r]?=some (.lp d env .ready none))(hps:d.ps= #[p])(hp:p<env.length)
 (ha:zV2 d.assign=true/\zFG env.length d.assign=true) (hb:zV2 d.body=true/\zFG env.length d.body=true)
 (h:X P C d.assign (zCs P C r d env R) ⟨fun t=>(env.set p x).getD t .any,H.length,H,[],env.length⟩):zBJ P r [x] H R:=by
 intro V w vs l c hI hbel hvl hva hl
 obtain⟨tmps,db,hg,hsz,hrep,hput⟩:=zN2 hI (show zLC H r=_ from hr) hl
 obtain⟨v,rfl⟩:∃v,vs= #[v]:=by
  match vs,hvl with
  |⟨[v]⟩,_=>exact⟨v,rfl⟩
 have hv:Rep V v x:=hva 0 (by simp)
 refine⟨d.fn,_,d.assign,d.body,run_yield hg (by simp[hps]),?_⟩
 have hz:((({state:= .ready,pending:=none,fn:=d.fn,tmps:=tmps,params:=d.ps,assign:=d.assign,body:=d.body,defers:=db}:Loop).params.zip #[v]).foldl (fun tmps (t,a)=>tmps.setIfInBounds t a) tmps)=tmps.setIfInBounds p v:=by
  simp[hps]
 rw[hz]
 refine roundIn_of_wpIn (F:=zav none) trivial ?_
 have hrel0:Rel V (barA ⟨tmps.setIfInBounds p v,[]⟩) w ⟨fun t=>(env.set p x).getD t .any,H.length,H,[],env.length⟩:=by
  refine⟨rfl,hbel,?_,by simp[hsz],rfl,fun t=> ?_⟩
  ·rw[zQu rfl];simpa using hI
  ·simp only
   by_cases ht:t=p
   ·subst ht
    have:t<tmps.size:=by omega
    simp[hp,this,hv]
   ·have h1:(env.set p x).getD t .any=env.getD t .any:=by simp[YAF,Ne.symm ht]
    have h2:(tmps.setIfInBounds p v).getD t undef=tmps.getD t undef:=by simp[Array.getElem?_setIfInBounds_ne (Ne.symm ht)]
    rw[h1,h2]
    by_cases htl:t<env.length
    ·exact hrep t htl
    ·rw[YAF,YAR (by omega)];exact .any _
 refine wpIn_mono (zBI (ro:=some l) (ds:=[]) hC env.length d.assign ha.1 ha.2 rfl h V ⟨tmps.setIfInBounds p v,[]⟩ w hrel0 rfl) fun e a1 w1 hp1=> ?_
 obtain⟨hd1,V1,s1,h1,h2,h3,h4,h4b,h5,h6,h7⟩:=hp1
 simp only at h4 h4b h1
 subst h5
 have hrlt:r<H.length:=(YAS.1 hr).1
 have hl1:V1.loc r 0=some (some l,c):=h1.loc r 0 _ hrlt hl
 obtain⟨tmps1,db1,hg1,hsz1,hrep1,hput1⟩:=zN2 h3.inv (zQt h3.hb h6) hl1
 refine⟨_,run_beginRound hg1 rfl,?_⟩
 obtain⟨hI1,hB1⟩:=hput1 .busy none
 have hbelr:(AObj.lp d env .busy none).bel s1.b=true:=by
  have:=h3.bel _ (List.mem_of_getElem? h6)
  exact this
 have hrel1:=zTY h3 h6 hI1 hbelr
 have hX:=zBI (ro:=some l) (ds:=[]) (s:= {s1 with H:=s1.H.set r (.lp d env .busy none)}) hC env.length d.body hb.1 hb.2 h4 h7 V1 a1 _ hrel1 hd1
 refine wpIn_mono hX fun e a2 w2 hp2=> ?_
 obtain⟨hd2,V2,s2,g1,g2,g3,g4,g4b,g5,g6⟩:=hp2
 simp only at g4 g4b g1
 have hl2:V2.loc r 0=some (some l,c):=g1.loc r 0 _ (by omega) hl1
 obtain⟨tmps2,db2,hg2,hsz2,hrep2,hput2⟩:=zN2 g3.inv (zQt g3.hb g5) hl2
 have hb2:s2.b=H.length:=by omega
 have hbel2:∀st pend,(AObj.lp d env st pend).bel s2.b=true:=fun st pend=>by have:=g3.bel _ (List.mem_of_getElem? g5);exact this
 have fin:∀(jump:Option Code) (av:AV),av= .bool jump.isNone->R av (s2.H.set r (.lp d env (if jump.isNone then .ready else .done) jump))->
  ∃v w',(Instr.endRound l jump).run P w2= .ok v w'/\∃V' v' r' H',V.Le V'/\Below V.base w w'/\Ending.returned v= .returned v'/\Rep V' v' r'/\Inv V' (zLC H') w'/\H.length<=H'.length/\R r' H':=by
  rintro jump av rfl hR
  obtain⟨hI2,hB2⟩:=hput2 (if jump.isNone then .ready else .done) jump
  have hrel2:=zTY g3 g5 hI2 (hbel2 _ _)
  have hcut:=zL1 hrel2
  refine⟨_,_,run_endRound jump hg2,V2.cut s2.b,_,_,s2.H.set r (.lp d env (if jump.isNone then .ready else .done) jump),?_,?_,rfl,.bool _,hcut,by have:=g3.hb;simp;omega,hR⟩
  ·have e1:V.LeB H.length V2:=h1.trans (by rw[<-h4b];exact g1)
   rw[hb2]
   exact zMz e1 hI fun q hq=>by unfold zLC;exact YAR hq
  ·exact h2.trans (by rw[<-h1.base];exact hB1.trans (g2.trans (by rw[<-g1.base];exact hB2)))
 cases e with
 |normal=>exact fin none (.bool true) rfl g6
 |ret=>exact fin (some .ret) (.bool false) rfl g6
 |exit id=>exact fin (some (.exit id)) (.bool false) rfl g6
 |goto t=>exact g6.elim
 |panic ch=>exact g6.elim
 |outgrown=>exact g6.elim
end
end Go.Ab
end
