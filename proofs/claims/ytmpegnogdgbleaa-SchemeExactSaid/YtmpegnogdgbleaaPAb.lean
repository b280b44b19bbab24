/- Lemmas: calls over objects and the tables of types. No condition. -/
import Derived.Test.YtmpegnogdgbleaaPAd
import Derived.ChangeArms
import Derived.ChangeSame
import Derived.Carry
import Derived.OpenShut
import Derived.JoinedOf
import Derived.JoinedCond
section
/- The executor on abstract values: drawn regions, last part, rules for walks. Conditions stand ahead of each part. -/
/- Regions whose order the world draws, fourth part: the executor, step by step. Condition: the executor's table of types is the program's. -/
set_option linter.unusedSimpArgs false
namespace Go.Ab
open Go.RowKit (Below)
section
variable {P : Program} {C : Cfg} {K : Exit -> AState -> Prop} {k : List KI} {s : AState} {ops : Array Oper}
def num(base:Nat)(ops:Array Oper)(i:Nat):Nat:=(ops.toList.take i).foldl nxt base
theorem zU4{base:Nat}{K:AState->Prop}:∀(m i:Nat) {s:AState},ops.size-i=m->i<=ops.size->zbj P C ops (num base ops i) (ops.toList.drop i) K s->∃s',Run P C ops (num base ops) (List.range' i m) s s'/\K s'
 |0,i,s,hm,hi,h=>by
  rw[List.drop_of_length_le (by simp;omega)]at h
  exact⟨s,rfl,h⟩
 |m+1,i,s,hm,hi,h=>by
  have hlt:i<ops.size:=by omega
  have hl:i<ops.toList.length:=by simpa using hlt
  rw[List.drop_eq_getElem_cons hl]at h
  simp only[zbj]at h
  obtain⟨s1,h1,h2⟩:=zba h
  have hn:nxt (num base ops i) ops.toList[i]=num base ops (i+1):=by
   simp only[num]
   rw[List.take_succ_eq_append_getElem hl,List.foldl_append];rfl
  rw[hn]at h2
  obtain⟨s',h3,h4⟩:=zU4 m (i+1) (by omega) (by omega) h2
  refine⟨s',⟨ops.toList[i],s1,?_,h1,h3⟩,h4⟩
  simp[hlt]
theorem Rel.reserve{V:View}{a:Act}{w:World}(hr:Rel V a w s)(m:Nat):Rel V a w {s with L:=s.L++List.replicate m .dead}:=by
 have hobj:∀r,({s with L:=s.L++List.replicate m .dead}:AState).obj r=s.obj r\/(s.obj r=none/\({s with L:=s.L++List.replicate m .dead}:AState).obj r=some .dead):=by
  intro r
  unfold AState.obj
  split
  ·exact .inl rfl
  ·simp only
   rw[List.getElem?_append]
   split
   ·exact .inl rfl
   ·rename_i h
    rw[List.getElem?_replicate]
    rw[YAR (by omega)]
    split
    ·exact .inr ⟨rfl,rfl⟩
    ·exact .inl rfl
 have hnone:∀r,s.obj r=none->∀n,V.loc r n=none:=by
  intro r h n
  cases hl:V.loc r n with
  |none=>rfl
  |some x=>have:=hr.inv.dom r n x hl;rw[h]at this;cases this
 refine⟨hr.hb,hr.bel,⟨hr.inv.base,hr.inv.imm,?_,?_,?_⟩,hr.size,hr.defers,hr.env⟩
 ·intro r n x hx
  rcases hobj r with h|h
  ·rw[h];exact hr.inv.dom r n x hx
  ·rw[h.2];rfl
 ·intro r x hx
  rcases hobj r with h|h
  ·rw[h]at hx;exact hr.inv.objs r x hx
  ·rw[h.2]at hx;cases hx;exact hnone r h.1
 ·intro r r' x x' b h1 h2 h3 h4
  rcases hobj r with h|h
  ·rcases hobj r' with h'|h'
   ·rw[h]at h1;rw[h']at h2;exact hr.inv.sep r r' x x' b h1 h2 h3 h4
   ·rw[h'.2]at h2;cases h2;simp[own]at h4
  ·rw[h.2]at h1;cases h1;simp[own]at h3
theorem zYW(ops:Array Oper):todo ops (Array.replicate ops.size false)=List.range' 0 ops.size:=by
 unfold todo
 rw[List.filter_eq_self.2,List.range_eq_range']
 intro i hi
 have:=List.mem_range.1 hi
 simp[this]
theorem zEt(ops:Array Oper):Closed ops (Array.replicate ops.size false):=by
 intro i j h hi
 simp[hi]at h
def pos(b j:Nat):Nat:=b+j
theorem zC1(hC:zAb P C)(hm:P.follows .mixedOrders=true){id:Nat}{Q:Exit->AState->Prop}(D:List (Tmp×Tmp))(m:Nat)(hchk:chk C ops D=true)(hok:zFG s.n (.region id ops true)=true)
 (h:zbj P C ops (pos s.b s.L.length) ops.toList (fun s=>(DisL D s/\ZLd C s)/\Q .normal s) {s with L:=s.L++List.replicate m .dead}):AWp P (.region id ops true) Q s:=by
 intro V a w hr
 refine wp_region_any hm ?_
 simp only[zFG,List.all_eq_true,YAA]at hok
 have hr1:Rel V a w.drew {s with L:=s.L++List.replicate m .dead}:=by
  have:=hr.reserve m
  exact⟨this.hb,this.bel,this.inv.drew,this.size,this.defers,this.env⟩
 obtain⟨s',h1,h2,h3⟩:=zU4 (ops:=ops) (base:=pos s.b s.L.length) ops.size 0 (by omega) (by omega) (by simpa [num]using h)
 exact zbK (s:= {s with L:=s.L++List.replicate m .dead}) hC hchk (n:=s.n) (b:=s.b) (num:=num (pos s.b s.L.length) ops) hok ops.size (V0:=V) (w0:=w) (by rw[zYW];simp) (by simp) (zEt ops) rfl rfl hr1 (.refl _ V) (by
  exact⟨rfl,rfl,rfl,YAV _,fun _ _=>rfl⟩) (by rw[zYW];exact h1) h2.1 h2.2 h3
def GoD(P:Program)(C:Cfg)(K:Exit->AState->Prop)(ops:Array Oper)(j:Nat)(todo:List Oper)(k:List KI)(s:AState):Prop:=zbj P C ops j todo (Go P C K k) s
def zAj(P:Program)(C:Cfg)(K:Exit->AState->Prop)(f:Nat)(args:List AV)(dst:Option Tmp)(ops:Array Oper)(j:Nat)(todo:List Oper)(k:List KI)(s:AState)(rd mw zw:Bool):Prop:=
 ∃r args',(args'=args\/args'=AV.normL args)/\((zA0 P f args' r/\GoD P C K ops j todo k (s.put dst r))\/(rd=true/\zA5 P f args' r s.obj/\GoD P C K ops j todo k (s.put dst r))\/
  (mw=true/\∃m es,zAr P f args' r s.obj m es/\GoD P C K ops j todo k ((s.setObj m (.map es)).put dst r))\/
  (zw=true/\∃F',(zBK P f args' r s F'/\ZFr C s F')/\GoD P C K ops j todo k (({s with H:=F'.take s.b,L:=F'.drop s.b}:AState).put dst r)))
def GoDX(P:Program)(C:Cfg)(K:Exit->AState->Prop)(ops:Array Oper)(j:Nat)(o:Oper)(todo:List Oper)(k:List KI)(s:AState):Prop:=xopD P C j o (GoD P C K ops (nxt j o) todo k) s
def zAk(P:Program)(C:Cfg)(K:Exit->AState->Prop)(b want:Bool)(ops:Array Oper)(j:Nat)(o:Oper)(todo:List Oper)(k:List KI)(s:AState):Prop:=
 if b=want then GoDX P C K ops j o todo k s else GoD P C K ops (nxt j o) todo k (s.put o.dst (.tup []))
def zAl(P:Program)(C:Cfg)(K:Exit->AState->Prop)(v:AV)(want:Bool)(ops:Array Oper)(j:Nat)(o:Oper)(todo:List Oper)(k:List KI)(s:AState):Prop:=
 match v with
 | .bool b=>zAk P C K b want ops j o todo k s
 | .tup []=>GoD P C K ops (nxt j o) todo k (s.put o.dst (.tup []))
 |_=>False
def GoDG(P:Program)(C:Cfg)(K:Exit->AState->Prop)(g:Option (Option Tmp×Bool))(ops:Array Oper)(j:Nat)(o:Oper)(todo:List Oper)(k:List KI)(s:AState):Prop:=
 match g with
 |none=>GoDX P C K ops j o todo k s
 |some (some t,want)=>match s.env t with
  | .bool b=>zAk P C K b want ops j o todo k s
  | .tup []=>GoD P C K ops (nxt j o) todo k (s.put o.dst (.tup []))
  |_=>False
 |some (none,_)=>False
theorem zKk(hC:zAb P C)(hm:P.follows .mixedOrders=true){id:Nat}(D:List (Tmp×Tmp))(m n:Nat)(hn:s.n=n)(hchk:chk C ops D=true)(hok:zFG n (.region id ops true)=true)
 (h:GoD P C K ops (pos s.b s.L.length) ops.toList (.chk (fun s=>DisL D s/\ZLd C s)::k) {s with L:=s.L++List.replicate m .dead}):Go P C K (.code (.region id ops true)::k) s:=by
 subst hn
 show X P C (.region id ops true) (Un P C K k) s
 rw[X]
 ·refine zC1 hC hm D m hchk hok ?_
  unfold GoD at h
  rw[show Go P C K (.chk (fun s=>DisL D s/\ZLd C s)::k)=fun s=>(DisL D s/\ZLd C s)/\Go P C K k s from funext fun s=>zKd _]at h
  exact h
 all_goals simp
theorem zKj(hC:zAb P C)(hz:∀s,ZLd C s)(hm:P.follows .mixedOrders=true){id:Nat}(D:List (Tmp×Tmp))(m n:Nat)(hn:s.n=n)(hchk:chk C ops D=true)(hok:zFG n (.region id ops true)=true)
 (h:GoD P C K ops (pos s.b s.L.length) ops.toList (.chk (DisL D)::k) {s with L:=s.L++List.replicate m .dead}):Go P C K (.code (.region id ops true)::k) s:=by
 refine zKk hC hm D m n hn hchk hok ?_
 rw[show(fun s=>DisL D s/\ZLd C s)=DisL D from funext fun s=>by simp only[hz s,and_true]]
 exact h
theorem zKg(hC:zAb P C)(hz:∀s,ZLd C s)(hm:P.follows .mixedOrders=true){id:Nat}(m n:Nat)(hn:s.n=n)(hchk:chk C ops []=true)(hok:zFG n (.region id ops true)=true)
 (h:GoD P C K ops (pos s.b s.L.length) ops.toList k {s with L:=s.L++List.replicate m .dead}):Go P C K (.code (.region id ops true)::k) s:=by
 refine zKj hC hz hm [] m n hn hchk hok ?_
 unfold GoD at h⊢
 rw[show Go P C K (.chk (DisL [])::k)=Go P C K k from funext fun s=>by rw[zKd];simp only[DisL,true_and]]
 exact h
theorem zFo:DisL [] s=True:=rfl
theorem zFm(a b:Tmp)(l:List (Tmp×Tmp)):DisL ((a,b)::l) s=(Dis (s.env a) (s.env b)/\DisL l s):=rfl
theorem zFs(r o q p:Nat):Dis (.bptr r o) (.bptr q p)=¬r=q:=by simp[Dis,zQq]
theorem zFr(r o q v z i p:Nat):Dis (.bptr r o) (.aptr q v z i p)=¬r=q:=by simp[Dis,zQq]
theorem zFq(r v z i o q p:Nat):Dis (.aptr r v z i o) (.bptr q p)=¬r=q:=by simp[Dis,zQq]
theorem zFp(r v z i o q v' z' i' p:Nat):Dis (.aptr r v z i o) (.aptr q v' z' i' p)=¬r=q:=by simp[Dis,zQq]
theorem zFt(e:List AV)(o:Nat)(v:AV):Dis (.eptr e o) v=True:=by simp[Dis,zQq]
theorem zFu(e:List AV)(o:Nat)(v:AV):Dis v (.eptr e o)=True:=by simp[Dis,zQq]
theorem zFv(l:List AV)(v:AV):Dis (.tup l) v=True:=by simp[Dis,zQq]
theorem zFw(l:List AV)(v:AV):Dis v (.tup l)=True:=by simp[Dis,zQq]
theorem zP1(a k:Nat):(a=a+k)=(k=0):=by simp
theorem zP2(a k:Nat):(a+k=a)=(k=0):=by simp
theorem zP3(a k m:Nat):(a+k=a+m)=(k=m):=by simp
theorem zJa(ops:Array Oper)(j:Nat):GoD P C K ops j [] k s=Go P C K k s:=rfl
theorem zJZ(ops:Array Oper)(j:Nat)(o:Oper)(r:List Oper):GoD P C K ops j (o::r) k s=GoDG P C K (guardOf ops o) ops j o r k s:=rfl
theorem zIp(ops:Array Oper)(j:Nat)(o:Oper)(r:List Oper):GoDG P C K none ops j o r k s=GoDX P C K ops j o r k s:=rfl
theorem zIq(t:Nat)(want:Bool)(ops:Array Oper)(j:Nat)(o:Oper)(r:List Oper):GoDG P C K (some (some t,want)) ops j o r k s=zAl P C K (s.env t) want ops j o r k s:=rfl
theorem zI2(b want:Bool)(ops:Array Oper)(j:Nat)(o:Oper)(r:List Oper):zAl P C K (.bool b) want ops j o r k s=zAk P C K b want ops j o r k s:=rfl
theorem zI4(want:Bool)(ops:Array Oper)(j:Nat)(o:Oper)(r:List Oper):zAl P C K (.tup []) want ops j o r k s=GoD P C K ops (nxt j o) r k (s.put o.dst (.tup [])):=rfl
theorem zI1(ops:Array Oper)(j:Nat)(o:Oper)(r:List Oper):zAk P C K true true ops j o r k s=GoDX P C K ops j o r k s:=rfl
theorem zIw(ops:Array Oper)(j:Nat)(o:Oper)(r:List Oper):zAk P C K false false ops j o r k s=GoDX P C K ops j o r k s:=rfl
theorem zI0(ops:Array Oper)(j:Nat)(o:Oper)(r:List Oper):zAk P C K true false ops j o r k s=GoD P C K ops (nxt j o) r k (s.put o.dst (.tup [])):=rfl
theorem zIx(ops:Array Oper)(j:Nat)(o:Oper)(r:List Oper):zAk P C K false true ops j o r k s=GoD P C K ops (nxt j o) r k (s.put o.dst (.tup [])):=rfl
theorem zIz{b want:Bool}{ops:Array Oper}{j:Nat}{o:Oper}{r:List Oper}(h:b=true->zAk P C K true want ops j o r k s)(h':b=false->zAk P C K false want ops j o r k s):zAk P C K b want ops j o r k s:=by
 cases b
 ·exact h' rfl
 ·exact h rfl
theorem zQo(b j:Nat)(o:Oper):nxt (pos b j) o=if isAl o=true then pos b (j+1)else pos b j:=rfl
theorem zJC(ops:Array Oper)(j:Nat)(d:Option Tmp)(f:Operand)(args:Array Operand)(ts:Array Nat)(ty:Nat)(pos:String)(af:Array Edge)(g:Option (Nat×Bool))(r:List Oper):
 GoDX P C K ops j ⟨d,.call ⟨.value f,args,ts⟩,ty,pos,af,g⟩ r k s=match s.ev f with
  | .fn i=>zAj P C K i (args.toList.map s.ev) d ops j r k s (rdF C f) (mwF C f) (zwF C f)
  |_=>False:=rfl
theorem zI5(ops:Array Oper)(b j:Nat)(d:Option Tmp)(t:Nat)(ty:Nat)(ps:String)(af:Array Edge)(g:Option (Nat×Bool))(r:List Oper):GoDX P C K ops (pos b j) ⟨d,.alloc t,ty,ps,af,g⟩ r k s=
 match C.ty t,s.obj (b+j)with
 |some l,some .dead=>s.b<=b+j/\GoD P C K ops (pos b (j+1)) r k ((s.setObj (b+j) (.box (cellsOf l.zero))).put d (.bptr (b+j) 0))
 |_,_=>False:=by
 simp only[GoDX,xopD,effD,pos]
 split<;>rename_i h
 ·split at h
  ·rename_i h1 h2
   simp only[YAM,Out.mk.injEq]at h
   obtain⟨rfl,rfl,rfl⟩:=h
   simp only[h1,h2];rfl
  ·cases h
 ·split at h
  ·cases h
  ·rename_i h1
   split
   ·rename_i h2 h3;exact absurd h3 (h1 _ h2)
   ·rfl
theorem zI9(ops:Array Oper)(b j:Nat)(d:Option Tmp)(t:Nat)(x:Operand)(ty:Nat)(ps:String)(af:Array Edge)(g:Option (Nat×Bool))(r:List Oper):GoDX P C K ops (pos b j) ⟨d,.box t x,ty,ps,af,g⟩ r k s=
 match s.obj (b+j)with
 |some .dead=>(s.b<=b+j/\(s.ev x).solid=true)/\GoD P C K ops (pos b (j+1)) r k ((s.setObj (b+j) (.box (cellsOf (s.ev x)))).put d (.bptr (b+j) 0))
 |_=>False:=by
 simp only[GoDX,xopD,effD,pos]
 split<;>rename_i h
 ·split at h
  ·rename_i h1
   simp only[YAM,Out.mk.injEq]at h
   obtain⟨rfl,rfl,rfl⟩:=h
   simp only[h1];rfl
  ·cases h
 ·split at h
  ·cases h
  ·rename_i h1
   split
   ·rename_i h3;exact absurd h3 h1
   ·rfl
theorem zIj{f:Nat}{args args':List AV}{dst:Option Tmp}{ops:Array Oper}{j:Nat}{todo:List Oper}{r:AV}{rd mw zw:Bool}(h:zA0 P f args' r)(ha:args'=args\/args'=AV.normL args)(hK:GoD P C K ops j todo k (s.put dst r)):
 zAj P C K f args dst ops j todo k s rd mw zw:=⟨r,args',ha,.inl ⟨h,hK⟩⟩
theorem zIk{f:Nat}{args args':List AV}{dst:Option Tmp}{ops:Array Oper}{j:Nat}{todo:List Oper}{r:AV}{rd mw zw:Bool}(hr:rd=true)(h:zA5 P f args' r s.obj)(ha:args'=args\/args'=AV.normL args)(hK:GoD P C K ops j todo k (s.put dst r)):
 zAj P C K f args dst ops j todo k s rd mw zw:=⟨r,args',ha,.inr (.inl ⟨hr,h,hK⟩)⟩
theorem zJS(ops:Array Oper)(j:Nat)(d:Option Tmp)(x:Operand)(ty:Nat)(pos:String)(af:Array Edge)(g:Option (Nat×Bool))(r:List Oper):GoDX P C K ops j ⟨d,.move x,ty,pos,af,g⟩ r k s=match eff C ⟨d,.move x,ty,pos,af,g⟩ s with
 |some ⟨c,v,s'⟩=>c/\GoD P C K ops j r k (s'.put d v)
 |none=>False:=rfl
theorem zI7(ops:Array Oper)(j:Nat)(d:Option Tmp)(x:Operand)(ty:Nat)(pos:String)(af:Array Edge)(g:Option (Nat×Bool))(r:List Oper):GoDX P C K ops j ⟨d,.assign x,ty,pos,af,g⟩ r k s=match eff C ⟨d,.assign x,ty,pos,af,g⟩ s with
 |some ⟨c,v,s'⟩=>c/\GoD P C K ops j r k (s'.put d v)
 |none=>False:=rfl
theorem zJU(ops:Array Oper)(j:Nat)(d:Option Tmp)(x y z:Operand)(ty:Nat)(pos:String)(af:Array Edge)(g:Option (Nat×Bool))(r:List Oper):GoDX P C K ops j ⟨d,.pick x y z,ty,pos,af,g⟩ r k s=match eff C ⟨d,.pick x y z,ty,pos,af,g⟩ s with
 |some ⟨c,v,s'⟩=>c/\GoD P C K ops j r k (s'.put d v)
 |none=>False:=rfl
theorem zJL(ops:Array Oper)(j:Nat)(d:Option Tmp)(t:Nat)(x:Operand)(ty:Nat)(pos:String)(af:Array Edge)(g:Option (Nat×Bool))(r:List Oper):GoDX P C K ops j ⟨d,.load t x,ty,pos,af,g⟩ r k s=match eff C ⟨d,.load t x,ty,pos,af,g⟩ s with
 |some ⟨c,v,s'⟩=>c/\GoD P C K ops j r k (s'.put d v)
 |none=>False:=rfl
theorem zJW(ops:Array Oper)(j:Nat)(d:Option Tmp)(t:Nat)(x y:Operand)(ty:Nat)(pos:String)(af:Array Edge)(g:Option (Nat×Bool))(r:List Oper):GoDX P C K ops j ⟨d,.store t x y,ty,pos,af,g⟩ r k s=match eff C ⟨d,.store t x y,ty,pos,af,g⟩ s with
 |some ⟨c,v,s'⟩=>c/\GoD P C K ops j r k (s'.put d v)
 |none=>False:=rfl
theorem zJT(ops:Array Oper)(j:Nat)(d:Option Tmp)(x:Operand)(ty:Nat)(pos:String)(af:Array Edge)(g:Option (Nat×Bool))(r:List Oper):GoDX P C K ops j ⟨d,.nilCheck x,ty,pos,af,g⟩ r k s=match eff C ⟨d,.nilCheck x,ty,pos,af,g⟩ s with
 |some ⟨c,v,s'⟩=>c/\GoD P C K ops j r k (s'.put d v)
 |none=>False:=rfl
theorem zI8(ops:Array Oper)(j:Nat)(d:Option Tmp)(op:BinOp)(t u:Nat)(x y:Operand)(ty:Nat)(pos:String)(af:Array Edge)(g:Option (Nat×Bool))(r:List Oper):GoDX P C K ops j ⟨d,.binOp op t x y u,ty,pos,af,g⟩ r k s=match eff C ⟨d,.binOp op t x y u,ty,pos,af,g⟩ s with
 |some ⟨c,v,s'⟩=>c/\GoD P C K ops j r k (s'.put d v)
 |none=>False:=rfl
theorem zJX(ops:Array Oper)(j:Nat)(d:Option Tmp)(op:UnOp)(t:Nat)(x:Operand)(ty:Nat)(pos:String)(af:Array Edge)(g:Option (Nat×Bool))(r:List Oper):GoDX P C K ops j ⟨d,.unOp op t x,ty,pos,af,g⟩ r k s=match eff C ⟨d,.unOp op t x,ty,pos,af,g⟩ s with
 |some ⟨c,v,s'⟩=>c/\GoD P C K ops j r k (s'.put d v)
 |none=>False:=rfl
theorem zJE(ops:Array Oper)(j:Nat)(d:Option Tmp)(t u:Nat)(x:Operand)(ty:Nat)(pos:String)(af:Array Edge)(g:Option (Nat×Bool))(r:List Oper):GoDX P C K ops j ⟨d,.convert t u x,ty,pos,af,g⟩ r k s=match eff C ⟨d,.convert t u x,ty,pos,af,g⟩ s with
 |some ⟨c,v,s'⟩=>c/\GoD P C K ops j r k (s'.put d v)
 |none=>False:=rfl
theorem zJH(ops:Array Oper)(j:Nat)(d:Option Tmp)(t f:Nat)(x:Operand)(ty:Nat)(pos:String)(af:Array Edge)(g:Option (Nat×Bool))(r:List Oper):GoDX P C K ops j ⟨d,.fieldAddr t x f,ty,pos,af,g⟩ r k s=match eff C ⟨d,.fieldAddr t x f,ty,pos,af,g⟩ s with
 |some ⟨c,v,s'⟩=>c/\GoD P C K ops j r k (s'.put d v)
 |none=>False:=rfl
theorem zJG(ops:Array Oper)(j:Nat)(d:Option Tmp)(t f:Nat)(x:Operand)(ty:Nat)(pos:String)(af:Array Edge)(g:Option (Nat×Bool))(r:List Oper):GoDX P C K ops j ⟨d,.field t x f,ty,pos,af,g⟩ r k s=match eff C ⟨d,.field t x f,ty,pos,af,g⟩ s with
 |some ⟨c,v,s'⟩=>c/\GoD P C K ops j r k (s'.put d v)
 |none=>False:=rfl
theorem zJJ(ops:Array Oper)(j:Nat)(d:Option Tmp)(t:Nat)(x y:Operand)(ty:Nat)(pos:String)(af:Array Edge)(g:Option (Nat×Bool))(r:List Oper):GoDX P C K ops j ⟨d,.indexAddr t x y,ty,pos,af,g⟩ r k s=match eff C ⟨d,.indexAddr t x y,ty,pos,af,g⟩ s with
 |some ⟨c,v,s'⟩=>c/\GoD P C K ops j r k (s'.put d v)
 |none=>False:=rfl
theorem zJI(ops:Array Oper)(j:Nat)(d:Option Tmp)(t:Nat)(x y:Operand)(ty:Nat)(pos:String)(af:Array Edge)(g:Option (Nat×Bool))(r:List Oper):GoDX P C K ops j ⟨d,.index t x y,ty,pos,af,g⟩ r k s=match eff C ⟨d,.index t x y,ty,pos,af,g⟩ s with
 |some ⟨c,v,s'⟩=>c/\GoD P C K ops j r k (s'.put d v)
 |none=>False:=rfl
theorem zJA(ops:Array Oper)(j:Nat)(d:Option Tmp)(t:Nat)(ps:Array (Nat×Operand))(ty:Nat)(pos:String)(af:Array Edge)(g:Option (Nat×Bool))(r:List Oper):GoDX P C K ops j ⟨d,.build t ps,ty,pos,af,g⟩ r k s=match eff C ⟨d,.build t ps,ty,pos,af,g⟩ s with
 |some ⟨c,v,s'⟩=>c/\GoD P C K ops j r k (s'.put d v)
 |none=>False:=rfl
theorem zJB(ops:Array Oper)(j:Nat)(d:Option Tmp)(t n:Nat)(ps:Array (Nat×Operand))(ty:Nat)(pos:String)(af:Array Edge)(g:Option (Nat×Bool))(r:List Oper):GoDX P C K ops j ⟨d,.buildSlice t n ps,ty,pos,af,g⟩ r k s=match eff C ⟨d,.buildSlice t n ps,ty,pos,af,g⟩ s with
 |some ⟨c,v,s'⟩=>c/\GoD P C K ops j r k (s'.put d v)
 |none=>False:=rfl
theorem zJO(ops:Array Oper)(j:Nat)(d:Option Tmp)(t:Nat)(x y:Operand)(ty:Nat)(pos:String)(af:Array Edge)(g:Option (Nat×Bool))(r:List Oper):GoDX P C K ops j ⟨d,.makeSlice t x y,ty,pos,af,g⟩ r k s=match eff C ⟨d,.makeSlice t x y,ty,pos,af,g⟩ s with
 |some ⟨c,v,s'⟩=>c/\GoD P C K ops j r k (s'.put d v)
 |none=>False:=rfl
theorem zJV(ops:Array Oper)(j:Nat)(d:Option Tmp)(t:Nat)(x:Operand)(lo hi mx:Option Operand)(ty:Nat)(pos:String)(af:Array Edge)(g:Option (Nat×Bool))(r:List Oper):GoDX P C K ops j ⟨d,.slice t x lo hi mx,ty,pos,af,g⟩ r k s=match eff C ⟨d,.slice t x lo hi mx,ty,pos,af,g⟩ s with
 |some ⟨c,v,s'⟩=>c/\GoD P C K ops j r k (s'.put d v)
 |none=>False:=rfl
theorem zJF(ops:Array Oper)(j:Nat)(d:Option Tmp)(x:Operand)(i:Nat)(ty:Nat)(pos:String)(af:Array Edge)(g:Option (Nat×Bool))(r:List Oper):GoDX P C K ops j ⟨d,.extract x i,ty,pos,af,g⟩ r k s=match eff C ⟨d,.extract x i,ty,pos,af,g⟩ s with
 |some ⟨c,v,s'⟩=>c/\GoD P C K ops j r k (s'.put d v)
 |none=>False:=rfl
theorem zJN(ops:Array Oper)(b j:Nat)(d:Option Tmp)(t:Nat)(ty:Nat)(ps:String)(af:Array Edge)(g:Option (Nat×Bool))(r:List Oper):GoDX P C K ops (pos b j) ⟨d,.makeMap t none,ty,ps,af,g⟩ r k s=
 match s.obj (b+j)with
 |some .dead=>s.b<=b+j/\GoD P C K ops (pos b (j+1)) r k ((s.setObj (b+j) (.map [])).put d (.mp (b+j)))
 |_=>False:=by
 simp only[GoDX,xopD,effD,pos]
 split<;>rename_i h
 ·split at h
  ·rename_i h1
   simp only[YAM,Out.mk.injEq]at h
   obtain⟨rfl,rfl,rfl⟩:=h
   simp only[h1];rfl
  ·cases h
 ·split at h
  ·cases h
  ·rename_i h1
   split
   ·rename_i h2;exact absurd h2 h1
   ·rfl
theorem zJM(ops:Array Oper)(j:Nat)(d:Option Tmp)(t:Nat)(x y:Operand)(b:Bool)(ty:Nat)(pos:String)(af:Array Edge)(g:Option (Nat×Bool))(r:List Oper):GoDX P C K ops j ⟨d,.lookup t x y b,ty,pos,af,g⟩ r k s=match eff C ⟨d,.lookup t x y b,ty,pos,af,g⟩ s with
 |some ⟨c,v,s'⟩=>c/\GoD P C K ops j r k (s'.put d v)
 |none=>False:=rfl
theorem zJP(ops:Array Oper)(j:Nat)(d:Option Tmp)(t:Nat)(x y z:Operand)(ty:Nat)(pos:String)(af:Array Edge)(g:Option (Nat×Bool))(r:List Oper):GoDX P C K ops j ⟨d,.mapUpdate t x y z,ty,pos,af,g⟩ r k s=match eff C ⟨d,.mapUpdate t x y z,ty,pos,af,g⟩ s with
 |some ⟨c,v,s'⟩=>c/\GoD P C K ops j r k (s'.put d v)
 |none=>False:=rfl
theorem zI6(ops:Array Oper)(j:Nat)(d:Option Tmp)(args:Array Operand)(ts:Array Nat)(ty:Nat)(pos:String)(af:Array Edge)(g:Option (Nat×Bool))(r:List Oper):GoDX P C K ops j ⟨d,.call ⟨.builtin .append,args,ts⟩,ty,pos,af,g⟩ r k s=match(if zCQ C ⟨d,.call ⟨.builtin .append,args,ts⟩,ty,pos,af,g⟩ s args=true then eff C ⟨d,.call ⟨.builtin .append,args,ts⟩,ty,pos,af,g⟩ s else none)with
 |some ⟨c,v,s'⟩=>c/\GoD P C K ops j r k (s'.put d v)
 |none=>False:=rfl
theorem zWF(es:List AV)(t:Tk):slOK (.sl es t)=true:=rfl
theorem zJK(ops:Array Oper)(j:Nat)(d:Option Tmp)(args:Array Operand)(ts:Array Nat)(ty:Nat)(pos:String)(af:Array Edge)(g:Option (Nat×Bool))(r:List Oper):GoDX P C K ops j ⟨d,.call ⟨.builtin .len,args,ts⟩,ty,pos,af,g⟩ r k s=match eff C ⟨d,.call ⟨.builtin .len,args,ts⟩,ty,pos,af,g⟩ s with
 |some ⟨c,v,s'⟩=>c/\GoD P C K ops j r k (s'.put d v)
 |none=>False:=rfl
theorem zJQ(ops:Array Oper)(j:Nat)(d:Option Tmp)(args:Array Operand)(ts:Array Nat)(ty:Nat)(pos:String)(af:Array Edge)(g:Option (Nat×Bool))(r:List Oper):GoDX P C K ops j ⟨d,.call ⟨.builtin .max,args,ts⟩,ty,pos,af,g⟩ r k s=match eff C ⟨d,.call ⟨.builtin .max,args,ts⟩,ty,pos,af,g⟩ s with
 |some ⟨c,v,s'⟩=>c/\GoD P C K ops j r k (s'.put d v)
 |none=>False:=rfl
theorem zJR(ops:Array Oper)(j:Nat)(d:Option Tmp)(args:Array Operand)(ts:Array Nat)(ty:Nat)(pos:String)(af:Array Edge)(g:Option (Nat×Bool))(r:List Oper):GoDX P C K ops j ⟨d,.call ⟨.builtin .min,args,ts⟩,ty,pos,af,g⟩ r k s=match eff C ⟨d,.call ⟨.builtin .min,args,ts⟩,ty,pos,af,g⟩ s with
 |some ⟨c,v,s'⟩=>c/\GoD P C K ops j r k (s'.put d v)
 |none=>False:=rfl
end
end Go.Ab
/- Rules for the walks: arguments made plain, slots that are no longer looked at, loops. No condition. -/
set_option linter.unusedSimpArgs false
set_option linter.defProp false
namespace Go.Ab
open Go.RowKit (Below)
section
variable {P : Program} {C : Cfg} {K : Exit -> AState -> Prop} {k : List KI} {s : AState}
def frz(e:Nat->AV):Nat->AV:=e
theorem zH7(e:Nat->AV)(t:Nat):frz e t=e t:=rfl
theorem zH9(e:Nat->AV)(d:Nat)(v:AV):upd (frz e) d v=frz (upd e d v):=rfl
theorem zH8(e:Nat->AV):frz e=frz e:=rfl
attribute [congr] zH8
theorem zLg(args:List AV)(H:List AObj)(n:Nat):zLe args H n=⟨frz fun t=>args.getD t .any,H.length,H,[],n⟩:=rfl
theorem zHD(l:List (Nat×AV))(b:Nat)(H L:List AObj)(n:Nat):AState.mk (envL l) b H L n=AState.mk (frz (envL l)) b H L n:=rfl
theorem zJ4{ops:Array Oper}{todo:List Oper}{s':AState}(h:s=s'):GoO P C K ops todo k s=GoO P C K ops todo k s':=by rw[h]
theorem zKI{ops:Array Oper}{o:Oper}{todo:List Oper}{s':AState}(h:s=s'):GoX P C K ops o todo k s=GoX P C K ops o todo k s':=by rw[h]
theorem zId{f:Nat}{args args':List AV}{dst:Option Tmp}{ops:Array Oper}{todo:List Oper}{s':AState}(ha:args=args')(h:s=s'):zAi P C K f args dst ops todo k s=zAi P C K f args' dst ops todo k s':=by rw[ha,h]
theorem zJs{v v':AV}{want:Bool}{ops:Array Oper}{o:Oper}{todo:List Oper}{s':AState}(hv:v=v')(h:s=s'):GoGv P C K v want ops o todo k s=GoGv P C K v' want ops o todo k s':=by rw[hv,h]
theorem zI3{v v':AV}{want:Bool}{ops:Array Oper}{j j':Nat}{o:Oper}{todo:List Oper}{s':AState}(hv:v=v')(hj:j=j')(h:s=s'):zAl P C K v want ops j o todo k s=zAl P C K v' want ops j' o todo k s':=by rw[hv,hj,h]
theorem zJb{g g':Option (Option Tmp×Bool)}{ops:Array Oper}{o:Oper}{todo:List Oper}{s':AState}(hg:g=g')(h:s=s'):GoG P C K g ops o todo k s=GoG P C K g' ops o todo k s':=by rw[hg,h]
theorem zJj{b b' want:Bool}{ops:Array Oper}{o:Oper}{todo:List Oper}{s':AState}(hb:b=b')(h:s=s'):GoGb P C K b want ops o todo k s=GoGb P C K b' want ops o todo k s':=by rw[hb,h]
theorem zJu{b b':Bool}{x y:Code}{s':AState}(hb:b=b')(h:s=s'):GoIf P C K b x y k s=GoIf P C K b' x y k s':=by rw[hb,h]
theorem zKf{s':AState}(h:s=s'):Go P C K k s=Go P C K k s':=by rw[h]
theorem zJY{ops:Array Oper}{j j':Nat}{todo:List Oper}{s':AState}(hj:j=j')(h:s=s'):GoD P C K ops j todo k s=GoD P C K ops j' todo k s':=by rw[hj,h]
theorem zJD{ops:Array Oper}{j j':Nat}{o:Oper}{todo:List Oper}{s':AState}(hj:j=j')(h:s=s'):GoDX P C K ops j o todo k s=GoDX P C K ops j' o todo k s':=by rw[hj,h]
theorem zIg{f:Nat}{args args':List AV}{dst:Option Tmp}{ops:Array Oper}{j j':Nat}{todo:List Oper}{s':AState}{rd mw zw rd' mw' zw':Bool}(ha:args=args')(hj:j=j')(h:s=s')(h1:rd=rd')(h2:mw=mw')(h3:zw=zw'):zAj P C K f args dst ops j todo k s rd mw zw=zAj P C K f args' dst ops j' todo k s' rd' mw' zw':=by rw[ha,hj,h,h1,h2,h3]
theorem zIm{g g':Option (Option Tmp×Bool)}{ops:Array Oper}{j j':Nat}{o:Oper}{todo:List Oper}{s':AState}(hg:g=g')(hj:j=j')(h:s=s'):GoDG P C K g ops j o todo k s=GoDG P C K g' ops j' o todo k s':=by rw[hg,hj,h]
theorem zIu{b b' want:Bool}{ops:Array Oper}{j j':Nat}{o:Oper}{todo:List Oper}{s':AState}(hb:b=b')(hj:j=j')(h:s=s'):zAk P C K b want ops j o todo k s=zAk P C K b' want ops j' o todo k s':=by rw[hb,hj,h]
attribute [congr] zJs zI3 zJ4 zKI zId zJb zJj zJu zKf zJY zJD zIg zIm zIu
theorem zIe{f:Nat}{args:List AV}{dst:Option Tmp}{ops:Array Oper}{todo:List Oper}(h:zAi P C K f (AV.normL args) dst ops todo k s):zAi P C K f args dst ops todo k s:=by
 refine⟨h.1,fun V w vs h1 h2 h3 h4 h5=>h.2 V w vs h1 h2 h3 (by rw[zQj];exact h4) fun i hi=> ?_⟩
 rw[zQj]at hi
 rw[zQi]
 exact(h5 i hi).normed
mutual
theorem zQl:∀a:AV,a.norm.norm=a.norm
 | .any=>rfl
 | .int _ _=>rfl
 | .bool _=>rfl
 | .str _=>rfl
 | .nilp=>rfl
 | .agg cs=>by simp only[AV.norm,zQk cs]
 | .tup cs=>by simp only[AV.norm,zQk cs]
 | .sl es t=>by simp only[AV.norm,zQk es]
 | .eptr e _=>by simp only[AV.norm,zQk e]
 | .bptr _ _=>rfl
 | .ms _ _ _=>rfl
 | .aptr _ _ _ _ _=>rfl
 | .mp _=>rfl
 | .nilm=>rfl
 | .fn _=>rfl
 | .clo _ cs=>by simp only[AV.norm,zQk cs]
 | .yld _=>rfl
 | .nilf=>rfl
theorem zQk:∀l:List AV,AV.normL (AV.normL l)=AV.normL l
 | []=>rfl
 |a::as=>by simp only[AV.normL,zQl a,zQk as]
end
theorem zIi{f:Nat}{args:List AV}{dst:Option Tmp}{ops:Array Oper}{j:Nat}{todo:List Oper}{rd mw zw:Bool}(h:zAj P C K f (AV.normL args) dst ops j todo k s rd mw zw):zAj P C K f args dst ops j todo k s rd mw zw:=by
 obtain⟨r,as,h2,h3⟩:=h
 refine⟨r,as,.inr ?_,h3⟩
 rcases h2 with h2|h2
 ·exact h2
 ·rw[h2,zQk]
theorem aloop_trim(ts:List Nat){b:Code}{Q:Exit->AState->Prop}(h:zAB P b Q ⟨envL (ts.map fun t=>(t,s.env t)),s.b,s.H,s.L,s.n⟩):zAB P b Q s:=by
 refine zAB.weak (zat rfl rfl rfl rfl fun p hp=> ?_) h
 obtain⟨t,_,rfl⟩:=List.mem_map.1 hp
 exact .inl rfl
theorem zJ3{ι:Type}(m:Nat)(chg:ι->List (Nat×AV))(Lx:ι->List AObj)(I:ι->Prop)(μ:ι->Nat){l:List (Nat×AV)}{b n:Nat}{H L:List AObj}{c:Code}(hC:zAb P C)(x:ι)(h0:chg x=l.take m)(hL:Lx x=L)(hx:I x)
 (hok:zFG n c=true)
 (h:∀x,I x->Go P C (zFW (Un P C K k) fun s'=>∃y,I y/\μ y<μ x/\Weak s' ⟨envL (chg y++l.drop m),b,H,Lx y,n⟩) [.code c] ⟨envL (chg x++l.drop m),b,H,Lx x,n⟩):
 zAB P c (Un P C K k) ⟨envL l,b,H,L,n⟩:=by
 refine zJ0 (s:=⟨envL l,b,H,L,n⟩) (fun x=>⟨envL (chg x++l.drop m),b,H,Lx x,n⟩) I μ hC x hx ?_ hok h
 rw[h0,hL,List.take_append_drop]
 exact⟨rfl,rfl,rfl,by simp,fun t=> .inr (.inl rfl),.inl rfl⟩
theorem zJ2{ι:Type}(m p:Nat)(chg:ι->List (Nat×AV))(ext:ι->List AObj)(I:ι->Prop)(μ:ι->Nat){l:List (Nat×AV)}{b n:Nat}{H L:List AObj}{c:Code}(hC:zAb P C)(x:ι)(h0:chg x=l.take m)(hL:ext x=L.drop p)(hx:I x)
 (hok:zFG n c=true)
 (h:∀x,I x->Go P C (zFW (Un P C K k) fun s'=>∃y,I y/\μ y<μ x/\Weak s' ⟨envL (chg y++l.drop m),b,H,L.take p++ext y,n⟩) [.code c] ⟨envL (chg x++l.drop m),b,H,L.take p++ext x,n⟩):
 zAB P c (Un P C K k) ⟨envL l,b,H,L,n⟩:=
 zJ3 m chg (fun y=>L.take p++ext y) I μ hC x h0 (by rw[hL,List.take_append_drop]) hx hok h
theorem zJ9{b:Code}(h:Go P C (zFW (Un P C K k) (zAB P b (Un P C K k))) [.code b] s)(hC:zAb P C)(n:Nat)(hn:s.n=n)(hok:zFG n b=true):zAB P b (Un P C K k) s:=
 zCM (zBH hC zEA n b hok hn h)
theorem zbO:IntKind.wrap .i64 1=1:=by decide
theorem zbP:IntKind.wrap .i64 2=2:=by decide
theorem zbQ:IntKind.wrap .i64 3=3:=by decide
theorem zJv{p:Prop} [Decidable p]{x y:Code}(h:p->Go P C K (.code x::k) s)(h':¬p->Go P C K (.code y::k) s):GoIf P C K (decide p) x y k s:=zJy (fun e=>h (by simpa using e)) (fun e=>h' (by simpa using e))
theorem zJk{p:Prop} [Decidable p]{want:Bool}{ops:Array Oper}{o:Oper}{r:List Oper}(h:p->GoGb P C K true want ops o r k s)(h':¬p->GoGb P C K false want ops o r k s):GoGb P C K (decide p) want ops o r k s:=zJo (fun e=>h (by simpa using e)) (fun e=>h' (by simpa using e))
theorem zIv{p:Prop} [Decidable p]{want:Bool}{ops:Array Oper}{j:Nat}{o:Oper}{r:List Oper}(h:p->zAk P C K true want ops j o r k s)(h':¬p->zAk P C K false want ops j o r k s):zAk P C K (decide p) want ops j o r k s:=zIz (fun e=>h (by simpa using e)) (fun e=>h' (by simpa using e))
theorem zPG{α:Type}{p:α->Prop}:(∀x,x∈([]:List α)->p x)=True:=by simp
theorem zPC:maxLen=9223372036854775807:=rfl
theorem zD5:zD4=140737488355328:=rfl
theorem zCR{α:Type}(a:α)(l m:List α):List.append (a::l) m=a::List.append l m:=rfl
theorem zCV{α:Type}(m:List α):List.append [] m=m:=rfl
theorem zYU{α:Type}(l:List α):(List.toArray l).toList=l:=rfl
theorem zCd(x t:Nat)(rs:List ResultVar):zCc C s (.cell x t::rs)=match C.ty t,zEN s (s.env x),zCc C s rs with
 |some l,some (cs,off,c),some (c',vs)=>some ((c/\(zRw l cs off).1)/\c',(zRw l cs off).2::vs)
 |_,_,_=>none:=by
 simp only[zCc,zCb]
 cases C.ty t<;>cases zEN s (s.env x)<;>cases zCc C s rs<;>rfl
end
def W0d:=cjI @zKo (cjI @zKb (cjI @zKu (cjI @zKt (cjI @zKc (cjI @zKe (cjI @zKl (cjI @zKq (cjI @zKp (cjI @zKn (cjI @zJ6 (cjI @zJ5 (cjI @zJe (cjI @zJf (cjI @zJr (cjI @zJt (cjI @zJq (cjI @zJl (cjI @zJp (cjI @zJm (cjI @zJz (cjI @zJw (cjI @zJx (cjI @zFY (cjI @zFZ (cjI @zFX (cjI @zKH (cjI @zKV (cjI @zKB (cjI @zKX (cjI @zKA (cjI @zKD (cjI @zKP (cjI @zKZ (cjI @zKW (cjI @zKC (cjI @zKa (cjI @zKJ (cjI @zKM (cjI @zKL (cjI @zKO (cjI @zKN (cjI @zKE (cjI @zKF (cjI @zKT (cjI @zKY (cjI @zKK (cjI @zKR (cjI @zKS (cjI @zKQ (cjI @zKU (cjI @zKG (cjI @zaG (cjI @zaE (cjI @zaD (cjI @zaJ (cjI @zaI (cjI @zaF (cjI @zaK (cjI @zKr (cjI @zKs (cjI @zKm (cjI @zaH (cjI @zR0 (cjI @zRz (cjI @zR6 (cjI @zR4 (cjI @zR1 (cjI @zR3 (cjI @zR2 (cjI @zR5 (cjI @zRy (cjI @zLg (cjI @zQv (cjI @zQw (cjI @zVc (cjI @zVd (cjI @zHE (cjI @zES (cjI @zEY (cjI @zEU (cjI @zEf (cjI @zEe (cjI @zEa (cjI @zEV (cjI @zEZ (cjI @zEc (cjI @zEb (cjI @zEX (cjI @zWr (cjI @zWv (cjI @zWs (cjI @zW1 (cjI @zW0 (cjI @zWx (cjI @zWt (cjI @zWw (cjI @zWy (cjI @zWu (cjI @zRd (cjI @zRZ (cjI @zRl (cjI @zRk (cjI @zRg (cjI @zRa (cjI @zRf (cjI @zRh (cjI @zRc (cjI @Option.map_none.{0,0} (cjI @Option.map_some.{0,0} (cjI @Option.bind_some.{0,0} (cjI @true_and (cjI @and_true (cjI @List.getD_cons_zero.{0} (cjI @List.getD_cons_succ.{0} (cjI @Bool.false_eq_true (cjI @List.length_nil.{0} (cjI @List.length_cons.{0} (cjI @Nat.add_zero (cjI @List.nil_append.{0} (cjI @List.cons_append.{0} (cjI @List.getElem?_cons_zero.{0} (cjI @List.getElem?_cons_succ.{0} (cjI @Nat.zero_add (cjI @Nat.lt_add_one (cjI @Nat.zero_lt_succ (cjI @List.map_nil.{0,0} (cjI @List.map_cons.{0,0} (cjI @List.getElem?_toArray.{0} (cjI @List.all_cons.{0} (cjI @List.all_nil.{0} (cjI @Bool.and_self (cjI @Bool.and_true (cjI @Bool.true_and (cjI @List.set_cons_zero.{0} (cjI @List.set_cons_succ.{0} (cjI @List.take_succ_cons.{0} (cjI @List.take_zero.{0} (cjI @List.drop_zero.{0} (cjI @List.drop_succ_cons.{0} (cjI @List.take_nil.{0} (cjI @Nat.le_refl (cjI @decide_true (cjI @decide_false (cjI @Bool.not_true (cjI @Bool.not_false (cjI @Nat.succ_ne_self (cjI @zN6 (cjI @nn (cjI @Int.toNat_natCast (cjI @false_implies (cjI @Int.ofNat_lt (cjI @List.length_map.{0,0} (cjI @zCR (cjI @zCV (cjI @zYU (cjI @Nat.lt_irrefl (cjI @beq_self_eq_true.{0} (cjI @Bool.false_and (cjI @Bool.and_false (cjI @List.forall_mem_cons.{0} (cjI @zPG (cjI @Option.isSome_some.{0} (cjI @List.replicate_zero.{0} (cjI @List.not_mem_nil.{0} (cjI @List.mem_cons.{0} (cjI @or_false (cjI @List.headD_cons.{0} (cjI @zJa (cjI @zJZ (cjI @zIp (cjI @zIq (cjI @zI2 (cjI @zI4 (cjI @zI1 (cjI @zIw (cjI @zI0 (cjI @zIx (cjI @zQo (cjI @zJC (cjI @zI5 (cjI @zI9 (cjI @zI7 (cjI @zI8 (cjI @zJA (cjI @zJB (cjI @zI6 (cjI @zJK (cjI @zJQ (cjI @zJR (cjI @zJE (cjI @zJF (cjI @zJG (cjI @zJH (cjI @zJI (cjI @zJJ (cjI @zJL (cjI @zJM (cjI @zJN (cjI @zJO (cjI @zJP (cjI @zJS (cjI @zJT (cjI @zJU (cjI @zJV (cjI @zJW (cjI @zJX (cjI @List.replicate_succ.{0} (cjI @List.append_nil.{0} (cjI @Nat.le_add_right (cjI @zKd (cjI @zFo (cjI @zFm (cjI @zFs (cjI @zFr (cjI @zFq (cjI @zFp (cjI @zFt (cjI @zFu (cjI @zFv (cjI @zFw (cjI @zP1 (cjI @zP2 (cjI @zP3 (cjI @zWF (cjI @not_false_eq_true (cjI @zCe (cjI @zCg (cjI @zCd (cjI @zYo (cjI @zYq (cjI @zYp (cjI @zYn (cjI @zH7 (cjI @zH9 (cjI @zHD (cjI @AV.int.injEq (cjI @AV.bool.injEq (cjI @AV.tup.injEq (cjI @AV.agg.injEq (cjI @AV.sl.injEq (cjI @List.cons.injEq.{0} (cjI @zPC (cjI @zD5 (@List.length_range))))))))))))))))))))))))))))))))))))))))))))))))))))))))))))))))))))))))))))))))))))))))))))))))))))))))))))))))))))))))))))))))))))))))))))))))))))))))))))))))))))))))))))))))))))))))))))))))))))))))))))))))))))))))))))))))))))))))))))))))))))
theorem W0:type_of% W0d:=W0d
def WDd:=cjI @guardOf.eq_1 (cjI @eff.eq_1 (cjI @zF5.eq_1 (cjI @zF5.eq_2 (cjI @zF5.eq_3 (cjI @zF5.eq_4 (cjI @zF5.eq_5 (cjI @zF5.eq_6 (cjI @zF5.eq_7 (cjI @zF5.eq_8 (cjI @abin.eq_1 (cjI @abin.eq_2 (cjI @abin.eq_3 (cjI @abin.eq_4 (cjI @abin.eq_5 (cjI @abin.eq_6 (cjI @abin.eq_7 (cjI @abin.eq_8 (cjI @abin.eq_9 (cjI @abin.eq_10 (cjI @abin.eq_11 (cjI @abin.eq_12 (cjI @abin.eq_13 (cjI @abin.eq_14 (cjI @abin.eq_15 (cjI @abin.eq_16 (cjI @zBM.eq_1 (cjI @zln.eq_1 (cjI @zGB.eq_1 (cjI @zBL.eq_1 (cjI @zBL.eq_2 (cjI @zBL.eq_3 (cjI @zBL.eq_4 (cjI @zBL.eq_5 (cjI @zBL.eq_6 (cjI @zBL.eq_7 (cjI @zBL.eq_8 (cjI @zBL.eq_9 (cjI @zBL.eq_10 (cjI @zBL.eq_11 (cjI @zBL.eq_12 (cjI @zEN.eq_1 (cjI @zEN.eq_2 (cjI @zEN.eq_3 (cjI @zEN.eq_4 (cjI @shift.eq_1 (cjI @shift.eq_2 (cjI @shift.eq_3 (cjI @shift.eq_4 (cjI @zQ4.eq_1 (cjI @zQ4.eq_2 (cjI @zQ5.eq_1 (cjI @zQ5.eq_2 (cjI @zQ5.eq_3 (cjI @zQ5.eq_4 (cjI @zQ5.eq_5 (cjI @zQ5.eq_6 (cjI @zQ5.eq_7 (cjI @zQ5.eq_8 (cjI @zVf.eq_1 (cjI @zVf.eq_2 (cjI @zLl.eq_1 (cjI @zHU.eq_1 (cjI @zHU.eq_2 (cjI @zSb.eq_1 (cjI @zHV.eq_1 (cjI @zHV.eq_2 (cjI @zGG.eq_1 (cjI @zGG.eq_2 (cjI @zGG.eq_3 (cjI @zF2.eq_1 (cjI @zF9.eq_1 (cjI @zF9.eq_2 (cjI @zF9.eq_3 (cjI @zF9.eq_4 (cjI @zF9.eq_5 (cjI @zF9.eq_6 (cjI @zRo.eq_1 (cjI @zRo.eq_2 (cjI @zRo.eq_3 (cjI @zTS.eq_1 (cjI @zTS.eq_2 (cjI @isAl.eq_1 (cjI @zCQ.eq_1 (cjI @isMs.eq_1 (cjI @isMs.eq_2 (cjI @AV.norm.eq_1 (cjI @AV.norm.eq_2 (cjI @AV.norm.eq_3 (cjI @AV.norm.eq_4 (cjI @AV.norm.eq_5 (cjI @AV.norm.eq_6 (cjI @AV.normL.eq_1 (@AV.normL.eq_2)))))))))))))))))))))))))))))))))))))))))))))))))))))))))))))))))))))))))))))))))))))))))))))
theorem WD:type_of% WDd:=WDd
def WEd:=cjI @AState.ev.eq_1 (cjI @AState.ev.eq_2 (cjI @AState.ev.eq_3 (cjI @AState.ev.eq_4 (cjI @AState.put.eq_1 (cjI @AState.put.eq_2 (cjI @AState.new.eq_1 (cjI @retP.eq_1 (cjI @retP.eq_2 (@retP.eq_3)))))))))
theorem WE:type_of% WEd:=WEd
def W3d:=cjI @zbO (cjI @zbP (cjI @zbQ (cjI @Int.zero_add (cjI @Int.natCast_zero (cjI @Int.natCast_one (cjI @Int.cast_ofNat_Int (cjI @Int.toNat_zero (cjI @Int.toNat_one (cjI @Nat.lt_irrefl (cjI @Int.lt_irrefl (cjI @true_or (cjI @or_true (cjI @and_false (cjI @false_and (@false_or)))))))))))))))
theorem W3:type_of% W3d:=W3d
end Go.Ab
end
section
/- The executor on abstract values: guards, one list of objects, accumulators, maps. Conditions stand ahead of each part. -/
/- Guards without a case split: a slot then holds a value that the guard decides. No condition. -/
set_option linter.unusedSimpArgs false
namespace Go.Ab
open Go.RowKit (Below)
section
variable {P : Program} {C : Cfg} {K : Exit -> AState -> Prop} {k : List KI} {s : AState}
theorem zMM{b:Bool}{x y z:AV}:(if b=true then(if b=true then x else y)else z)=if b=true then x else z:=by cases b<;>rfl
theorem zML{b:Bool}{x y z:AV}:(if b=true then x else(if b=false then y else z))=if b=true then x else y:=by cases b<;>rfl
theorem zMJ{b p:Bool}:(if b=true then AV.bool p else AV.bool false)= .bool (b&&p):=by cases b<;>rfl
theorem zMK{b p:Bool}:(if b=true then AV.bool true else AV.bool p)= .bool (b||p):=by cases b<;>rfl
end
end Go.Ab
/- Guards on slots that a guard decides. No condition. -/
set_option linter.unusedSimpArgs false
namespace Go.Ab
open Go.RowKit (Below)
section
variable {P : Program} {C : Cfg} {K : Exit -> AState -> Prop} {k : List KI} {s : AState}
theorem zJh{b p:Bool}{ops:Array Oper}{o:Oper}{r:List Oper}:GoGv P C K (if b=true then AV.bool p else AV.tup []) true ops o r k s=GoGb P C K (b&&p) true ops o r k s:=by cases b<;>cases p<;>rfl
theorem zJg{b p:Bool}{ops:Array Oper}{o:Oper}{r:List Oper}:GoGv P C K (if b=true then AV.bool p else AV.tup []) false ops o r k s=GoGb P C K (!b||p) false ops o r k s:=by cases b<;>cases p<;>rfl
theorem zJd{b p:Bool}{ops:Array Oper}{o:Oper}{r:List Oper}:GoGv P C K (if b=false then AV.bool p else AV.tup []) true ops o r k s=GoGb P C K (!b&&p) true ops o r k s:=by cases b<;>cases p<;>rfl
theorem zJc{b p:Bool}{ops:Array Oper}{o:Oper}{r:List Oper}:GoGv P C K (if b=false then AV.bool p else AV.tup []) false ops o r k s=GoGb P C K (b||p) false ops o r k s:=by cases b<;>cases p<;>rfl
theorem zIs{b p:Bool}{j:Nat}{ops:Array Oper}{o:Oper}{r:List Oper}:zAl P C K (if b=true then AV.bool p else AV.tup []) true ops j o r k s=zAk P C K (b&&p) true ops j o r k s:=by cases b<;>cases p<;>rfl
theorem zIr{b p:Bool}{j:Nat}{ops:Array Oper}{o:Oper}{r:List Oper}:zAl P C K (if b=true then AV.bool p else AV.tup []) false ops j o r k s=zAk P C K (!b||p) false ops j o r k s:=by cases b<;>cases p<;>rfl
theorem zIo{b p:Bool}{j:Nat}{ops:Array Oper}{o:Oper}{r:List Oper}:zAl P C K (if b=false then AV.bool p else AV.tup []) true ops j o r k s=zAk P C K (!b&&p) true ops j o r k s:=by cases b<;>cases p<;>rfl
theorem zIn{b p:Bool}{j:Nat}{ops:Array Oper}{o:Oper}{r:List Oper}:zAl P C K (if b=false then AV.bool p else AV.tup []) false ops j o r k s=zAk P C K (b||p) false ops j o r k s:=by cases b<;>cases p<;>rfl
end
end Go.Ab
/- States by one list of objects, the callers' and the locals together; accumulators that grow. No condition. -/
set_option linter.unusedSimpArgs false
set_option linter.unusedVariables false
namespace Go.Ab
open Go.RowKit (Below)
def FS(e:Nat->AV)(F:List AObj)(b n:Nat):AState:=⟨e,b,F.take b,F.drop b,n⟩
section
variable {P : Program} {C : Cfg} {K : Exit -> AState -> Prop} {k : List KI} {e : Nat -> AV} {F : List AObj} {b n : Nat}
theorem zIH:(FS e F b n).env=e:=rfl
theorem fs_b:(FS e F b n).b=b:=rfl
theorem fs_n:(FS e F b n).n=n:=rfl
theorem zIQ(d:Nat)(v:AV):(FS e F b n).put (some d) v=FS (upd e d v) F b n:=rfl
theorem zIR(v:AV):(FS e F b n).put none v=FS e F b n:=rfl
theorem zIV(t:Nat):(FS e F b n).ev (.tmp t)=e t:=rfl
theorem zIG(v:Value):(FS e F b n).ev (.const v)=zQ4 v:=rfl
theorem zIK(f:Nat):(FS e F b n).ev (.func f)= .fn f:=rfl
theorem zII(l:List (Nat×AV)):FS (envL l) F b n=FS (frz (envL l)) F b n:=rfl
theorem zIJ(l:List AV):FS (fun t=>l.getD t .any) F b n=FS (frz fun t=>l.getD t .any) F b n:=rfl
theorem zIP(r:Nat):(FS e F b n).obj r=F[r]?:=by
 unfold FS AState.obj
 split
 ·rename_i h
  simp[List.getElem?_take,h]
 ·rename_i h
  simp only[Nat.not_lt]at h
  simp only[List.getElem?_drop,Nat.add_sub_cancel' h]
theorem zIU(r:Nat)(x:AObj):(FS e F b n).setObj r x=FS e (F.set r x) b n:=by
 unfold FS AState.setObj
 split
 ·rename_i h
  simp only[AState.mk.injEq,true_and,and_true]
  refine⟨List.take_set.symm,?_⟩
  rw[List.drop_set_of_lt h]
 ·rename_i h
  simp only[Nat.not_lt]at h
  simp only[AState.mk.injEq,true_and,and_true]
  refine⟨?_,?_⟩
  ·rw[List.take_set_of_le h]
  ·rw[List.drop_set,if_neg (by omega)]
theorem zIN(x:AObj)(hb:b<=F.length):(FS e F b n).new x=FS e (F++ [x]) b n:=by
 unfold FS AState.new
 simp only[AState.mk.injEq,true_and,and_true]
 exact⟨(List.take_append_of_le_length hb).symm,(List.drop_append_of_le_length hb).symm⟩
theorem zIO(hb:b<=F.length):b+(FS e F b n).L.length=F.length:=by unfold FS;simp;omega
theorem zID:(FS e F b n).H++(FS e F b n).L=F:=List.take_append_drop b F
theorem zIM:AState.mk e b (F.take b) (F.drop b) n=FS e F b n:=rfl
theorem fs_H:(FS e F b n).H=F.take b:=rfl
theorem zIS(m:Nat)(hb:b<=F.length):AState.mk (FS e F b n).env (FS e F b n).b (FS e F b n).H ((FS e F b n).L++List.replicate m .dead) (FS e F b n).n=FS e (F++List.replicate m .dead) b n:=by
 unfold FS
 simp only[AState.mk.injEq,true_and,and_true]
 exact⟨(List.take_append_of_le_length hb).symm,(List.drop_append_of_le_length hb).symm⟩
theorem zif(hC:zAb P C)(hm:P.follows .mixedOrders=true){id:Nat}{ops:Array Oper}(D:List (Tmp×Tmp))(m n':Nat)(hb:b<=F.length)(hn:n=n')(hchk:chk C ops D=true)(hok:zFG n' (.region id ops true)=true)
 (h:GoD P C K ops (pos b (FS e F b n).L.length) ops.toList (.chk (fun s=>DisL D s/\ZLd C s)::k) (FS e (F++List.replicate m .dead) b n)):Go P C K (.code (.region id ops true)::k) (FS e F b n):=by
 refine zKk hC hm D m n' hn hchk hok ?_
 have:=zIS (e:=e) (n:=n) m hb
 simp only[zIH,fs_b,fs_n]at this
 simp only[fs_b]
 exact(congrArg (fun s=>GoD P C K ops (pos b (FS e F b n).L.length) ops.toList (.chk (fun s=>DisL D s/\ZLd C s)::k) s) this.symm)▸h
theorem zKi(hC:zAb P C)(hz:∀s,ZLd C s)(hm:P.follows .mixedOrders=true){id:Nat}{ops:Array Oper}(D:List (Tmp×Tmp))(m n':Nat)(hb:b<=F.length)(hn:n=n')(hchk:chk C ops D=true)(hok:zFG n' (.region id ops true)=true)
 (h:GoD P C K ops (pos b (FS e F b n).L.length) ops.toList (.chk (DisL D)::k) (FS e (F++List.replicate m .dead) b n)):Go P C K (.code (.region id ops true)::k) (FS e F b n):=by
 refine zKj hC hz hm D m n' hn hchk hok ?_
 have:=zIS (e:=e) (n:=n) m hb
 simp only[zIH,fs_b,fs_n]at this
 simp only[fs_b]
 exact(congrArg (fun s=>GoD P C K ops (pos b (FS e F b n).L.length) ops.toList (.chk (DisL D)::k) s) this.symm)▸h
theorem zKh(hC:zAb P C)(hz:∀s,ZLd C s)(hm:P.follows .mixedOrders=true){id:Nat}{ops:Array Oper}(m n':Nat)(hb:b<=F.length)(hn:n=n')(hchk:chk C ops []=true)(hok:zFG n' (.region id ops true)=true)
 (h:GoD P C K ops (pos b (FS e F b n).L.length) ops.toList k (FS e (F++List.replicate m .dead) b n)):Go P C K (.code (.region id ops true)::k) (FS e F b n):=by
 refine zKi hC hz hm [] m n' hb hn hchk hok ?_
 unfold GoD at h⊢
 rw[show Go P C K (.chk (DisL [])::k)=Go P C K k from funext fun s=>by rw[zKd];simp only[DisL,true_and]]
 exact h
theorem zM0{l:List AObj}(h:b<=F.length):(b<=(F++l).length)=True:=by simp;omega
theorem zM1{r:Nat}{x:AObj}(h:b<=F.length):(b<=(F.set r x).length)=True:=by simpa using h
theorem zCS{l:List AObj}{q:Nat}(h:q<F.length):(F++l)[q]?=F[q]?:=YAG h
theorem zVk{q r:Nat}{x:AObj}(h:r≠q):(F.set r x)[q]?=F[q]?:=List.getElem?_set_ne h
theorem zVl{q:Nat}{x:AObj}(h:q<F.length):(F.set q x)[q]?=some x:=List.getElem?_set_self h
theorem zCW{l:List AObj}{q:Nat}{x:AObj}(h:q<F.length):(F++l).set q x=F.set q x++l:=List.set_append_left _ _ h
theorem zCT{l:List AObj}{m:Nat}(h:F.length=m):(F++l)[m]?=l[0]?:=by subst h;rw[YAH (YAV _),Nat.sub_self]
theorem zCU{l:List AObj}{m j:Nat}(h:F.length=m):(F++l)[m+j]?=l[j]?:=by subst h;rw[YAH (by omega)];congr 1;omega
theorem zCX{l:List AObj}{m:Nat}{x:AObj}(h:F.length=m):(F++l).set m x=F++l.set 0 x:=by subst h;rw[List.set_append_right _ _ (YAV _),Nat.sub_self]
theorem zCY{l:List AObj}{m j:Nat}{x:AObj}(h:F.length=m):(F++l).set (m+j) x=F++l.set j x:=by subst h;rw[List.set_append_right _ _ (by omega)];congr 2;omega
theorem zIc{q:Nat}{x:AObj}(h:F[q]?=some x):q<F.length:=(YAS.1 h).1
theorem zBU(hC:zAb P C){f:Nat}{fn:Func}{c:Code}{args:List AV}{H:List AObj}{R:AV→List AObj→Prop}(hf:P.funcs[f]?=some fn)(hb:fn.body=some c)(hname:(fn.name== "runtime.NumGoroutine")=false)
 (hn:args.length<=fn.ntmps) (hok:zFG fn.ntmps c=true) (h:AV.zRR args->Go P C (retE C fn.results.toList R) [.code c] (FS (fun t=>args.getD t .any) H H.length fn.ntmps)):zAA P f args H R:=by
 refine zBS ⟨fn,hf,by simp[hb],hname⟩ fun hok'=>zBQ hC hf hb hname hn hok ?_
 have h1:=h hok'
 have h2:FS (fun t=>args.getD t .any) H H.length fn.ntmps=zLe args H fn.ntmps:=by simp[FS,zLe]
 rw[h2]at h1
 exact h1
theorem zTi{rs:List ResultVar}{R:AV->List AObj->Prop}:retE C rs R .ret (FS e F b n)=match zCc C (FS e F b n) rs with
 |some (c,vs)=>c/\R (zYm vs) F
 |none=>False:=by
 simp only[retE,zID,true_and]
 cases zCc C (FS e F b n) rs<;>rfl
theorem zTj{rs:List ResultVar}{r:AV}{H:List AObj}:retP C rs r H .ret (FS e F b n)=match zCc C (FS e F b n) rs with
 |some (c,vs)=>c/\(zYm vs).norm=r/\F.take b=H
 |none=>False:=by
 simp only[retP,fs_H,true_and]
 cases zCc C (FS e F b n) rs<;>rfl
theorem zLh(args:List AV)(H:List AObj)(n:Nat):zLe args H n=FS (fun t=>args.getD t .any) H H.length n:=by simp[FS,zLe]
theorem zD8{s:AState}{f:Nat}{args args':List AV}{K:AV->AState->Prop}{R:AV->List AObj->Prop}(h:zAA P f args' (s.H++s.L) R)(ha:∀i,args'.getD i .any=args.getD i .any\/args'.getD i .any=(args.getD i .any).norm)(hl:args'.length=args.length)
 (hK:(∀x∈s.H,x.bel s.b=true)->∀r H'',R r H''->s.H.length+s.L.length<=H''.length->(∀x∈H''.take s.b,x.bel s.b=true)/\K r {s with H:=H''.take s.b,L:=H''.drop s.b}):zAa P f args s K:=by
 refine⟨h.1,fun V w vs hb hI hbel hvl hva=> ?_⟩
 have hI':Inv V (zLC (s.H++s.L)) w:=by rw[<-zQu hb];exact hI
 refine(h.2 V w vs hI' (zLG hI hb) (by rw[hvl,hl]) (fun i hi=> ?_)).mono fun e w' he=> ?_
 ·rw[hl]at hi
  rcases ha i with e|e<;>rw[e]
  ·exact hva i hi
  ·exact(hva i hi).normed
 ·obtain⟨V',v,r,H'',g1,g2,g3,g4,g5,g6,g7⟩:=he
  have hlen:s.H.length+s.L.length<=H''.length:=by simp at g6;omega
  obtain⟨k1,k2⟩:=hK hbel r H'' g7 hlen
  refine⟨V',v,r,{s with H:=H''.take s.b,L:=H''.drop s.b},g1,g2,g3,g4,?_,k1,by simp;omega,rfl,rfl,rfl,k2⟩
  have hb':({s with H:=H''.take s.b,L:=H''.drop s.b}:AState).b=({s with H:=H''.take s.b,L:=H''.drop s.b}:AState).H.length:=by simp;omega
  rw[zQu hb']
  simpa using g5
theorem fsCall{f:Nat}{args args':List AV}{dst:Option Tmp}{ops:Array Oper}{todo:List Oper}{R:AV->List AObj->Prop}(h:zAA P f args' F R)(ha:args'=args\/args'=AV.normL args)
 (hK:∀r F',R r F'->F.length<=F'.length->((∀x∈F.take b,x.bel b=true)->∀x∈F'.take b,x.bel b=true)/\GoO P C K ops todo k ((FS e F' b n).put dst r)):
 zAi P C K f args dst ops todo k (FS e F b n):=by
 refine zD8 (s:=FS e F b n) (args':=args') (R:=R) (by rw[zID];exact h) (fun i=> ?_) ?_ fun hbel r H'' hr hlen=> ?_
 ·rcases ha with rfl|rfl
  ·exact .inl rfl
  ·rw[zQi];exact .inr rfl
 ·rcases ha with rfl|rfl
  ·rfl
  ·exact zQj _
 ·have hl:(FS e F b n).H.length+(FS e F b n).L.length=F.length:=by rw[<-YAJ,zID]
  rw[hl]at hlen
  obtain⟨h1,h2⟩:=hK r H'' hr hlen
  exact⟨h1 hbel,h2⟩
theorem zCN(ts:List Nat){c:Code}{Q:Exit->AState->Prop}(h:zAB P c Q (FS (envL (ts.map fun t=>(t,e t))) F b n)):zAB P c Q (FS e F b n):=
 aloop_trim (s:=FS e F b n) ts h
theorem zap{l:List (Nat×AV)}{F':List AObj}(hF:F'=F)(h:∀p∈l,e p.1=p.2\/(e p.1).norm=p.2):Weak (FS e F b n) (FS (envL l) F' b n):=by
 subst hF
 exact zat rfl rfl rfl rfl h
theorem zJ1{ι:Type}(m:Nat)(chg:ι->List (Nat×AV))(Fx:ι->List AObj)(I:ι->Prop)(μ:ι->Nat){l:List (Nat×AV)}{c:Code}(hC:zAb P C)(x:ι)(h0:chg x=l.take m)(hF:Fx x=F)(hx:I x)
 (hok:zFG n c=true)
 (h:∀x,I x->Go P C (zFW (Un P C K k) fun s'=>∃y,I y/\μ y<μ x/\Weak s' (FS (envL (chg y++l.drop m)) (Fx y) b n)) [.code c] (FS (envL (chg x++l.drop m)) (Fx x) b n)):
 zAB P c (Un P C K k) (FS (envL l) F b n):=by
 refine zJ0 (s:=FS (envL l) F b n) (fun x=>FS (envL (chg x++l.drop m)) (Fx x) b n) I μ hC x hx ?_ hok h
 rw[h0,hF,List.take_append_drop]
 exact⟨rfl,rfl,rfl,by simp,fun t=> .inr (.inl rfl),.inl rfl⟩
end
/- Accumulators: a slice that grows by append, of which the list of objects holds the room's owner. -/
def zAC(sz:Nat)(F:List AObj)(es:List AV)(a:AV):Prop:=
 (es=[]/\a= .sl [] .full)\/∃q,a= .sl es (.own q)/\F[q]?=some (.tok es.length sz)
def AccR(sz:Nat)(F:List AObj)(a:AV)(es':List AV)(a':AV)(F':List AObj):Prop:=
 ∃J,match a with
  | .sl _ (.own q)=>a'= .sl es' (.own q)/\F'=F.set q (.tok es'.length sz)++J
  |_=>F'=F++J/\((es'=[]/\a'= .sl [] .full)\/∃q,F.length<=q/\a'= .sl es' (.own q)/\F'[q]?=some (.tok es'.length sz))
section
variable {sz : Nat} {F F' F1 F2 : List AObj} {es es' es1 es2 : List AV} {a a' a1 a2 : AV}
theorem zVm{q:Nat}{x:AObj}(h:F[q]?=some x):F.set q x=F:=by
 obtain⟨h1,h2⟩:=YAS.1 h
 rw[<-h2];exact List.set_getElem_self h1
theorem AccR.refl(h:zAC sz F es a):AccR sz F a es a F:=by
 rcases h with ⟨rfl,rfl⟩|⟨q,rfl,h⟩
 ·exact⟨[],by simp,.inl ⟨rfl,rfl⟩⟩
 ·exact⟨[],rfl,by rw[zVm h];simp⟩
theorem AccR.ok(h:zAC sz F es a)(hr:AccR sz F a es' a' F'):zAC sz F' es' a':=by
 obtain⟨J,hr⟩:=hr
 rcases h with ⟨rfl,rfl⟩|⟨q,rfl,h⟩
 ·obtain⟨h1,h2⟩:=hr
  rcases h2 with h2|⟨q,_,h3,h4⟩
  ·exact .inl h2
  ·exact .inr ⟨q,h3,h4⟩
 ·obtain⟨h1,h2⟩:=hr
  refine .inr ⟨q,h1,?_⟩
  rw[h2,zCS (by simpa using zIc h),zVl (zIc h)]
theorem AccR.len(hr:AccR sz F a es' a' F'):F.length<=F'.length:=by
 obtain⟨J,hr⟩:=hr
 split at hr
 ·rw[hr.2];simp
 ·rw[hr.1];simp
theorem AccR.trans(h:zAC sz F es a)(h1:AccR sz F a es1 a1 F1)(h2:AccR sz F1 a1 es2 a2 F2):AccR sz F a es2 a2 F2:=by
 have hl:=h1.len
 obtain⟨J1,h1⟩:=h1
 obtain⟨J2,h2⟩:=h2
 rcases h with ⟨rfl,rfl⟩|⟨q,rfl,h⟩
 ·obtain⟨e1,h1⟩:=h1
  rcases h1 with ⟨rfl,rfl⟩|⟨q,hq,rfl,hF⟩
  ·obtain⟨e2,h2⟩:=h2
   refine⟨J1++J2,by rw[e2,e1,List.append_assoc],?_⟩
   rcases h2 with h2|⟨q,hq,h3,h4⟩
   ·exact .inl h2
   ·exact .inr ⟨q,by omega,h3,h4⟩
  ·obtain⟨e2,e3⟩:=h2
   have hlt:=zIc hF
   refine⟨J1.set (q-F.length) (.tok es2.length sz)++J2,?_,.inr ⟨q,hq,e2,?_⟩⟩
   ·rw[e3,e1,List.set_append_right _ _ hq,List.append_assoc]
   ·rw[e3,zCS (by simpa using hlt),zVl hlt]
 ·obtain⟨rfl,e1⟩:=h1
  obtain⟨e2,e3⟩:=h2
  refine⟨J1++J2,e2,?_⟩
  rw[e3,e1,zCW (by simpa using zIc h),List.set_set,List.append_assoc]
theorem AccR.get(h:zAC sz F es a)(hr:AccR sz F a es' a' F'){r:Nat}{x:AObj}(hx:F[r]?=some x)(hn:∀m,x≠ .tok m sz):F'[r]?=some x:=by
 obtain⟨J,hr⟩:=hr
 rcases h with ⟨rfl,rfl⟩|⟨q,rfl,h⟩
 ·rw[hr.1,zCS (zIc hx)];exact hx
 ·have hne:q≠r:=by
   rintro rfl
   rw[h]at hx
   simp only[YAM]at hx
   exact hn _ hx.symm
  rw[hr.2,zCS (by simpa using zIc hx),zVk hne];exact hx
theorem AccR.bel(h:zAC sz F es a)(hr:AccR sz F a es' a' F'){b:Nat}(hb:b<=F.length)(hbel:∀x∈F.take b,x.bel b=true):∀x∈F'.take b,x.bel b=true:=by
 obtain⟨J,hr⟩:=hr
 rcases h with ⟨rfl,rfl⟩|⟨q,rfl,h⟩
 ·rw[hr.1,List.take_append_of_le_length hb];exact hbel
 ·rw[hr.2,List.take_append_of_le_length (by simpa using hb),List.take_set]
  intro x hx
  rcases List.mem_or_eq_of_mem_set hx with hx|rfl
  ·exact hbel x hx
  ·rfl
theorem AccR.junk(h:zAC sz F es a)(J:List AObj):AccR sz F a es a (F++J):=by
 rcases h with ⟨rfl,rfl⟩|⟨q,rfl,h⟩
 ·exact⟨J,rfl,.inl ⟨rfl,rfl⟩⟩
 ·exact⟨J,rfl,by rw[zVm h]⟩
theorem AccR.out(h:AccR sz F (.sl [] .full) es a' F'):a'.norm= .sl (AV.normL es) .no/\∃J,F'=F++J:=by
 obtain⟨J,h1,h2⟩:=h
 refine⟨?_,J,h1⟩
 rcases h2 with ⟨rfl,rfl⟩|⟨q,_,rfl,_⟩
 ·rfl
 ·rfl
theorem AccR.app0(x:AV):AccR sz F (.sl [] .full) [x] (.sl [x] (.own F.length)) (F++ [.tok 1 sz]):=
 ⟨[.tok 1 sz],rfl,.inr ⟨F.length,YAV _,rfl,by simp⟩⟩
theorem AccR.app{q:Nat}(x:AV):AccR sz F (.sl es (.own q)) (es++ [x]) (.sl (es++ [x]) (.own q)) (F.set q (.tok (es.length+1) sz)):=
 ⟨[],rfl,by simp⟩
end
end Go.Ab
/- Maps from numbers to numbers, as lists. No condition. -/
set_option linter.unusedSimpArgs false
set_option linter.unusedVariables false
namespace Go.Ab
def embM(m:List (Int×Int)):List (AV×AV):=m.map fun p=>(.int .i64 p.1,.int .i64 p.2)
def mget:List (Int×Int)->Int->Option Int
 | [],_=>none
 |(k,w)::m,n=>if k=n then some w else mget m n
def mput:List (Int×Int)->Int->Int->List (Int×Int)
 | [],n,v=> [(n,v)]
 |(k,w)::m,n,v=>if k=n then(n,v)::m else(k,w)::mput m n v
def mfind:List (Int×Int)->Int->Nat->Option (Nat×AV)
 | [],_,_=>none
 |(k,w)::m,n,i=>if k=n then some (i,.int .i64 w)else mfind m n (i+1)
theorem zHe(m:List (Int×Int))(n:Int):∀i,zHd (.int .i64) (.int .i64 n) (embM m) i=some (mfind m n i):=by
 induction m with
 |nil=>intro i;rfl
 |cons p m ih=>
  intro i
  obtain⟨k,w⟩:=p
  simp only[embM,List.map_cons,zHd,zMS,if_true,mfind]
  by_cases h:k=n
  ·simp[h]
  ·have:(n==k)=false:=by simpa using Ne.symm h
   simp only[this,if_neg h]
   exact ih (i+1)
theorem zPM(m:List (Int×Int))(n:Int):∀i,(mfind m n i).map (·.2)=(mget m n).map (.int .i64 ·):=by
 induction m with
 |nil=>intro i;rfl
 |cons p m ih=>
  intro i
  obtain⟨k,w⟩:=p
  simp only[mfind,mget]
  split
  ·rfl
  ·exact ih (i+1)
theorem zHx(m:List (Int×Int))(n z:Int):zHw (.int .i64 z) (mfind m n 0)= .int .i64 ((mget m n).getD z):=by
 have:=zPM m n 0
 cases h:mfind m n 0 with
 |none=>rw[h]at this;cases h2:mget m n with
  |none=>rfl
  |some v=>rw[h2]at this;simp at this
 |some p=>rw[h]at this;cases h2:mget m n with
  |none=>rw[h2]at this;simp at this
  |some v=>rw[h2]at this;simp only[Option.map_some,YAM]at this;simp only[zHw,this,Option.getD_some]
theorem zPN(m:List (Int×Int))(n:Int):(mfind m n 0).isSome=(mget m n).isSome:=by
 have:=congrArg Option.isSome (zPM m n 0)
 simpa using this
theorem zOl(m:List (Int×Int))(n v:Int):zOk (embM m) (mfind m n 0) (.int .i64 n) (.int .i64 v)=embM (mput m n v):=by
 have key:∀(m:List (Int×Int)) (j:Nat),match mfind m n j with
  |none=>embM m++ [(.int .i64 n,.int .i64 v)]=embM (mput m n v)
  |some (i,_)=>j<=i/\(embM m).set (i-j) (.int .i64 n,.int .i64 v)=embM (mput m n v):=by
  intro m
  induction m with
  |nil=>intro j;rfl
  |cons p m ih=>
   intro j
   obtain⟨k,w⟩:=p
   simp only[mfind,mput]
   by_cases h:k=n
   ·simp[h,embM]
   ·simp only[if_neg h]
    have:=ih (j+1)
    split at this
    ·rename_i hm
     simp only[embM,List.map_cons,List.cons_append]at this⊢
     rw[this]
    ·rename_i i x hm
     obtain⟨h1,h2⟩:=this
     refine⟨by omega,?_⟩
     rw[show i-j=(i-(j+1))+1 by omega]
     simp only[embM,List.map_cons,List.set_cons_succ]at h2⊢
     rw[h2]
 have:=key m 0
 split at this
 ·rename_i hm;rw[hm];exact this
 ·rename_i i x hm;rw[hm];exact this.2
theorem zPO(m:List (Int×Int))(n v k:Int):mget (mput m n v) k=if n=k then some v else mget m k:=by
 induction m with
 |nil=>simp[mput,mget]
 |cons p m ih=>
  obtain⟨j,w⟩:=p
  simp only[mput]
  by_cases h:j=n
  ·subst h;simp only[if_true,mget];split<;>rfl
  ·simp only[if_neg h,mget,ih]
   by_cases h1:j=k
   ·subst h1;simp[Ne.symm h]
   ·simp[h1]
theorem zGW(m:List (Int×Int))(b:Nat):(AObj.map (embM m)).bel b=true:=by
 induction m with
 |nil=>rfl
 |cons p m ih=>simpa [AObj.bel,embM,AV.belL,AV.bel]using ih
section
variable {sz : Nat} {F F' : List AObj} {es es' : List AV} {a a' : AV}
theorem zAC.setO(h:zAC sz F es a){r:Nat}{y x:AObj}(hy:F[r]?=some y)(hn:∀m,y≠ .tok m sz):zAC sz (F.set r x) es a:=by
 rcases h with h|⟨q,h1,h2⟩
 ·exact .inl h
 ·refine .inr ⟨q,h1,?_⟩
  rw[zVk];exact h2
  rintro rfl;rw[h2]at hy;exact hn _ (Option.some.inj hy).symm
theorem AccR.setO(h:zAC sz F es a)(hr:AccR sz F a es' a' F'){r:Nat}{y x:AObj}(hy:F[r]?=some y)(hn:∀m,y≠ .tok m sz):AccR sz (F.set r x) a es' a' (F'.set r x):=by
 have hl:=zIc hy
 obtain⟨J,hr⟩:=hr
 rcases h with ⟨rfl,rfl⟩|⟨q,rfl,h⟩
 ·obtain⟨h1,h2⟩:=hr
  refine⟨J,by rw[h1,zCW hl],?_⟩
  rcases h2 with h2|⟨q,h3,h4,h5⟩
  ·exact .inl h2
  ·exact .inr ⟨q,by simpa using h3,h4,by rw[zVk (by omega)];exact h5⟩
 ·have hne:q≠r:=by
   rintro rfl;rw[h]at hy;exact hn _ (Option.some.inj hy).symm
  obtain⟨h1,h2⟩:=hr
  refine⟨J,h1,?_⟩
  rw[h2,zCW (by simpa using hl),List.set_comm _ _ hne]
theorem zDa{b r:Nat}{x:AObj}(hx:x.bel b=true)(h:∀y∈F.take b,y.bel b=true):∀y∈(F.set r x).take b,y.bel b=true:=by
 rw[List.take_set]
 intro y hy
 rcases List.mem_or_eq_of_mem_set hy with hy|rfl
 ·exact h y hy
 ·exact hx
end
set_option linter.defProp false
theorem bA:type_of% @zJv:= @zJv
theorem bB:type_of% @zJy:= @zJy
theorem bC:type_of% @zJk:= @zJk
theorem bD:type_of% @zJo:= @zJo
theorem bE:type_of% @zIv:= @zIv
theorem bF:type_of% @zIz:= @zIz
theorem bG:type_of% @zIe:= @zIe
theorem bH:type_of% @zIi:= @zIi
def W5d:=cjI @zMM (cjI @zML (cjI @zMJ (cjI @zMK (cjI @Bool.false_or (cjI @Bool.or_false (cjI @Bool.true_or (cjI @Bool.or_true (cjI @zJh (cjI @zJg (cjI @zJd (cjI @zJc (cjI @zIs (cjI @zIr (cjI @zIo (@zIn)))))))))))))))
def WZd:=cjI @W0 (cjI @WD (cjI @WE (cjI @if_true.{1} (cjI @if_false.{1} (cjI @implies_true.{0} (cjI @implies_true.{1} (cjI @forall_eq_or_imp.{1} (@forall_eq.{1}))))))))
theorem WZ:type_of% WZd:=WZd
def WYd:=cjI @W0 (cjI @WD (cjI @if_true.{1} (cjI @if_false.{1} (cjI @implies_true.{0} (cjI @implies_true.{1} (cjI @forall_eq_or_imp.{1} (@forall_eq.{1})))))))
theorem WY:type_of% WYd:=WYd
def WSd:=cjI @zII (cjI @zIJ (cjI @zIH (cjI @fs_b (cjI @fs_n (cjI @zIQ (cjI @zIR (cjI @zIV (cjI @zIG (cjI @zIK (cjI @zIP (cjI @zIU (cjI @zIN (cjI @zIO (cjI @zIM (cjI @fs_H (cjI @zM0 (cjI @zM1 (cjI @zCS (cjI @zCW (cjI @zCT (cjI @zCU (cjI @zCX (cjI @zCY (cjI @List.append_assoc.{0} (cjI @not_false_eq_true (cjI @not_true_eq_false (cjI @zTi (cjI @zTj (cjI @List.length_append.{0} (cjI @List.length_set.{0} (@Nat.le_succ)))))))))))))))))))))))))))))))
theorem WS:type_of% WSd:=WSd
def WKd:=cjI @List.forall_mem_cons.{0} (cjI @zPG (cjI @zH7 (cjI @if_true.{1} (cjI @if_false.{1} (cjI @if_true.{0} (cjI @if_false.{0} (cjI @true_and (cjI @and_true (cjI @and_self (cjI @true_or (cjI @or_true (cjI @implies_true.{0} (cjI @implies_true.{1} (cjI @List.not_mem_nil.{0} (cjI @false_implies (cjI @Bool.and_true (cjI @Bool.true_and (cjI @decide_true (cjI @decide_eq_true_eq (cjI @List.length_cons.{0} (cjI @List.length_nil.{0} (cjI @Nat.zero_add (cjI @Nat.lt_add_one (cjI @Nat.lt_add_right_iff_pos (cjI @Nat.zero_lt_succ (cjI @Nat.zero_lt_one (cjI @List.take_succ_cons.{0} (@List.take_zero.{0}))))))))))))))))))))))))))))
theorem WK:type_of% WKd:=WKd
theorem eE{P:Program}{C:Cfg}{f:Nat}{fn:Func}{c:Code}{args:List AV}{rs:Array ResultVar}(hC:zAb P C)(hf:P.funcs[f]?=some fn)(hs:fn.results=rs){H:List AObj}{R:AV→List AObj→Prop}(h:AV.zRR args→Go P C (retE C rs.toList R) [.code c] (FS (fun t=>args.getD t .any) H H.length fn.ntmps))(hb:fn.body=some c:=by exact rfl)(hname:(fn.name== "runtime.NumGoroutine")=false:=by decide)(hn:args.length≤fn.ntmps:=by exact YAL rfl)(hok:zFG fn.ntmps c=true:=by decide):zAA P f args H R:=by subst hs;exact zBU hC hf hb hname hn hok h
theorem eP{P:Program}{C:Cfg}{f:Nat}{fn:Func}{c:Code}{args:List AV}{rs:Array ResultVar}(hC:zAb P C)(hf:P.funcs[f]?=some fn)(hs:fn.results=rs){r:AV}(h:AV.zRR args→∀H,Go P C (retP C rs.toList r H) [.code c] (zLe args H fn.ntmps))(hb:fn.body=some c:=by exact rfl)(hname:(fn.name== "runtime.NumGoroutine")=false:=by decide)(hn:args.length≤fn.ntmps:=by exact YAL rfl)(hok:zFG fn.ntmps c=true:=by decide)(hr:r.bel 0=true:=by exact rfl):zA0 P f args r:=by subst hs;exact zSa hC hf hb hname hn hok hr h
end Go.Ab
end
section
/- The executor on abstract values: what is read as data. Conditions stand ahead of each part. -/
/- What is read as data is abstract values: for laws: types of integers, truth values, texts, slices and structs of these. Condition: the executor's table of types is the program's. -/
set_option linter.unusedSimpArgs false
namespace Go.Ab
open Go.RowKit (Below)
theorem zRb{a y:AV}(h:a.one=true)(hc:cellsOf a=[y]):a=y:=by
 cases a<;>first|(simp[AV.one]at h;done)|(simp[cellsOf]at hc;exact hc)
def zah(w:World):View:=⟨w.heap.size,fun b o=>w.cell? ⟨b,o,none⟩,fun _ _=>none⟩
theorem zL3(w:World):Inv (zah w) (zLC []) w:=
 ⟨YAV _,fun _ _ _ h=>h,fun _ _ _ h=>(by cases h),fun r x h=>by simp[zLC]at h,fun r r' x x' b h=>by simp[zLC]at h⟩
def zWC(C:Cfg)(t:Nat):Nat:=match C.ty t with|some l=>l.size|none=>0
def aggT(C:Cfg)(t:Nat):Bool:=match C.ty t with|some l=>l.d.isAgg|none=>false
def Shp(C:Cfg):Nat->Nat->List AV->Prop
 |0,_,_=>False
 |n+1,t,cs=>match C.ty t with
  |none=>False
  |some l=>match l.d with
   | .int k=>∃m,cs=[.int k m]
   | .bool=>∃b,cs=[.bool b]
   | .str=>∃s,cs=[.str s]
   | .sl e=>∃es,cs=[.sl es .no]/\∀x∈es,Shp C n e (cellsOf x)/\if aggT C e then∃ys,x= .agg ys else∃y,x=y/\y.one=true
   | .st fs=>cs.length=l.size/\∀p∈fs,Shp C n p.2 ((cs.drop p.1).take (zWC C p.2))
   |_=>False
def tiled(C:Cfg):List (Nat×Nat)->Nat->Nat->Bool
 | [],o,z=>o==z
 |p::r,o,z=>p.1==o&&tiled C r (o+zWC C p.2) z
def zKv(C:Cfg)(S:List Nat):Bool:=S.all fun t=>match C.ty t with
 |none=>false
 |some l=>match l.d with
  | .int _| .bool| .str=>l.size==1
  | .sl e=>S.contains e&&l.size==1
  | .st fs=>(fs.all fun p=>S.contains p.2)&&tiled C fs 0 l.size
  |_=>false
section
variable {P : Program} {C : Cfg} {H : Type} {enc : TypeId × Value -> H} {w : World}
theorem TyOK.zEW{t:Nat}{l:TL}(h:TyOK P t l):P.cellsOf t=l.size:=by
 obtain⟨i,z,h1,h2,_⟩:=h.info
 simp[Program.cellsOf,h1,h2]
theorem zEM{base n:Nat}{a:Addr}{vs:List Value}(h:w.cells? base a n=some vs):vs.length=n/\∀i v,vs[i]?=some v->w.cell? (a.add i)=some v:=by
 unfold World.cells? at h
 split at h
 ·have hl:=mapM_some_length h
  refine⟨by simpa using hl,fun i v hv=> ?_⟩
  have hi:i<n:=by
   have:=(YAS.1 hv).1
   simp at hl;omega
  rw[mapM_some_get h i i (by simp[hi]),hv]
 ·cases h
theorem cell?_spot{a:Addr}{v:Value}(h:w.cell? a=some v):a.spot=none:=by
 unfold World.cell? at h
 split at h
 ·split at h
  ·cases h
  ·rename_i hs;simpa using hs
 ·cases h
theorem zBm{a:Addr}(h:a.spot=none):a=⟨a.block,a.off,none⟩:=by cases a;simp at h;subst h;rfl
theorem mkAV{as:List AV}(C:Cfg)(e:Nat){l:TL}(hT:C.ty e=some l)(hl:as.length=l.size)(hone:∀x∈as,x.one=true)(hd:l.d.isAgg=false->l.size=1):
 ∃x:AV,cellsOf x=as/\(if aggT C e then∃ys,x= .agg ys else∃y,x=y/\y.one=true):=by
 by_cases ha:aggT C e=true
 ·exact⟨.agg as,rfl,by simp[ha]⟩
 ·have ha':l.d.isAgg=false:=by simpa [aggT,hT]using ha
  obtain⟨y,hy⟩:=List.length_eq_one_iff.1 (hl.trans (hd ha'))
  refine⟨y,?_,by simp only[ha];exact⟨y,rfl,hone y (by simp[hy])⟩⟩
  have:=hone y (by simp[hy])
  rw[hy]
  cases y<;>first|rfl|(simp[AV.one]at this)
theorem zYS{V:View}{vs:List Value}{n:Nat}:∀(fs:List (Nat×Nat)) (o z:Nat),tiled C fs o z=true->vs.length=z->
 (∀p∈fs,∃as,RepL V ((vs.drop p.1).take (zWC C p.2)) as/\as.length=zWC C p.2/\(∀x∈as,x.one=true)/\Shp C n p.2 as)->
 ∃as,RepL V (vs.drop o) as/\as.length+o=z/\(∀x∈as,x.one=true)/\∀p∈fs,o<=p.1/\Shp C n p.2 ((as.drop (p.1-o)).take (zWC C p.2))
 | [],o,z,ht,hl,_=>by
  have:o=z:=by simpa [tiled]using ht
  subst this
  exact⟨[],by rw[List.drop_of_length_le (by omega)];exact .nil V,by simp,by simp,by simp⟩
 |p::r,o,z,ht,hl,h=>by
  simp only[tiled,YAA,beq_iff_eq]at ht
  obtain⟨hp,hr⟩:=ht
  obtain⟨as,h1,h2,h3,h4⟩:=h p YAU
  obtain⟨bs,g1,g2,g3,g4⟩:=zYS r (o+zWC C p.2) z hr hl (fun q hq=>h q (YAT _ hq))
  refine⟨as++bs,?_,by simp;omega,?_,?_⟩
  ·have:vs.drop o=(vs.drop p.1).take (zWC C p.2)++vs.drop (o+zWC C p.2):=by
    rw[hp,<-List.drop_drop,List.take_append_drop]
   rw[this];exact h1.append g1
  ·intro x hx
   rcases List.mem_append.1 hx with hx|hx
   ·exact h3 x hx
   ·exact g3 x hx
  ·intro q hq
   rcases List.mem_cons.1 hq with rfl|hq
   ·refine⟨by omega,?_⟩
    rw[hp,Nat.sub_self,List.drop_zero,List.take_append_of_le_length (by omega),List.take_of_length_le (by omega)]
    exact h4
   ·obtain⟨k1,k2⟩:=g4 q hq
    refine⟨by omega,?_⟩
    have:q.1-o=as.length+(q.1-(o+zWC C p.2)):=by omega
    rw[this,<-List.drop_drop,List.drop_left]
    exact k2
theorem zRj{S:List Nat}(hS:zKv C S=true){t:Nat}{l:TL}(ht:t∈S)(hT:C.ty t=some l)(ha:l.d.isAgg=false):l.size=1:=by
 have hg:=List.all_eq_true.1 hS t ht
 simp only[hT]at hg
 split at hg<;>first|(simp at hg;done)|skip
 ·simpa using hg
 ·simpa using hg
 ·simpa using hg
 ·simp only[YAA,beq_iff_eq]at hg;exact hg.2
 ·rename_i hd;rw[hd]at ha;simp[TD.isAgg]at ha
theorem zYj{n t:Nat}{k:IntKind}{spare:Nat->Bool}{held:Bool}{vs:List Value}{x:DataW H×List MemPlace}(ht:P.underlying t=some (.int k))(h:DataW.trod enc P w 0 spare held (n+1) t vs=some x):
 ∃m,vs=[.int k m]/\(Lit.int k m).wf=true:=by
 unfold DataW.trod at h
 rw[ht]at h
 split at h<;>simp_all
theorem zYi{n t:Nat}{spare:Nat->Bool}{held:Bool}{vs:List Value}{x:DataW H×List MemPlace}(ht:P.underlying t=some .bool)(h:DataW.trod enc P w 0 spare held (n+1) t vs=some x):∃b,vs=[.bool b]:=by
 unfold DataW.trod at h
 rw[ht]at h
 split at h<;>simp_all
theorem zYl{n t:Nat}{spare:Nat->Bool}{held:Bool}{vs:List Value}{x:DataW H×List MemPlace}(ht:P.underlying t=some .string)(h:DataW.trod enc P w 0 spare held (n+1) t vs=some x):∃s,vs=[.string s]/\s.size<=maxLen:=by
 unfold DataW.trod at h
 rw[ht]at h
 split at h<;>simp_all
theorem zYk(hC:zAb P C){S:List Nat}(hS:zKv C S=true){spare:Nat->Bool}{held:Bool}:∀(fuel:Nat) {t:Nat} {l:TL} {vs:List Value} {x:DataW H×List MemPlace},t∈S->C.ty t=some l->
 DataW.trod enc P w 0 spare held fuel t vs=some x->∃as,RepL (zah w) vs as/\as.length=l.size/\(∀a∈as,a.one=true)/\Shp C fuel t as
 |0,t,l,vs,x,ht,hT,h=>by simp[DataW.trod]at h
 |n+1,t,l,vs,x,ht,hT,h=>by
  have hTy:=hC _ _ hT
  have hsz:=hTy.zEW
  have hg:=List.all_eq_true.1 hS t ht
  simp only[hT]at hg
  obtain⟨desc,hdesc,hok⟩:=hTy.desc
  split at hg<;>first|(simp at hg;done)|skip
  ·
   rename_i k hd
   rw[hd]at hok
   simp only[zAe]at hok
   subst hok
   obtain⟨m,rfl,hwf⟩:=zYj hdesc h
   have hb:k.min<=m/\m<=k.max:=by simpa [Lit.wf]using hwf
   refine⟨[.int k m],.cons (.int _ _ hb.1 hb.2) (.nil _),?_,by simp[AV.one],?_⟩
   ·have:l.size=1:=by simpa using hg
    simp[this]
   ·simp only[Shp,hT,hd];exact⟨m,rfl⟩
  ·
   rename_i hd
   rw[hd]at hok
   simp only[zAe]at hok
   subst hok
   obtain⟨b,rfl⟩:=zYi hdesc h
   refine⟨[.bool b],.cons (.bool b) (.nil _),?_,by simp[AV.one],?_⟩
   ·have:l.size=1:=by simpa using hg
    simp[this]
   ·simp only[Shp,hT,hd];exact⟨b,rfl⟩
  ·
   rename_i hd
   rw[hd]at hok
   simp only[zAe]at hok
   subst hok
   obtain⟨s,rfl,hs⟩:=zYl hdesc h
   refine⟨[.str s],.cons (.str s hs) (.nil _),?_,by simp[AV.one],?_⟩
   ·have:l.size=1:=by simpa using hg
    simp[this]
   ·simp only[Shp,hT,hd];exact⟨s,rfl⟩
  ·
   rename_i e hd
   rw[hd]at hok
   simp only[zAe]at hok
   subst hok
   simp only[YAA,List.contains_iff_mem,beq_iff_eq]at hg
   obtain⟨hmem,h1⟩:=hg
   have hge:=List.all_eq_true.1 hS e hmem
   cases hE:C.ty e with
   |none=>rw[hE]at hge;simp at hge
   |some le=>
    have hEsz:=(hC _ _ hE).zEW
    have hEpos:=(hC _ _ hE).pos
    rcases DataW.trod_slice hdesc h with ⟨rfl,_⟩|⟨a,len,cap,elems,rest,m,hm,rfl,_,_,hlc,hcm,hel,hget,_,_⟩
    ·refine⟨[.sl [] .no],.cons (.sl none 0 0 [] .no le.size 0 0 (fun _=>undef) rfl (YAV _) (YAX _) (by simp) (by simp) (by simp) (by simp) (by simp) (by simp)) (.nil _),by simp[h1],by simp[AV.one],?_⟩
     simp only[Shp,hT,hd];exact⟨[],rfl,by simp⟩
    ·obtain rfl:n=m:=by omega
     have hel1:∀i,i<len->∃(vs:List Value) (y:AV),w.cells? 0 (a.add (i*le.size)) le.size=some vs/\RepL (zah w) vs (cellsOf y)/\(cellsOf y).length=le.size/\Shp C n e (cellsOf y)/\(if aggT C e then∃ys,y= .agg ys else∃z,y=z/\z.one=true):=by
      intro i hi
      have hgi:=hget i hi
      rw[hEsz]at hgi
      have:elems[i]?=some elems[i]:=YAI (by omega)
      rw[this]at hgi
      cases hcs:w.cells? 0 (a.add (i*le.size)) le.size with
      |none=>rw[hcs]at hgi;simp at hgi
      |some vs=>
       rw[hcs]at hgi
       simp only[Option.bind_some]at hgi
       obtain⟨as,k1,k2,k3,k4⟩:=zYk hC hS n hmem hE hgi
       obtain⟨y,hy1,hy2⟩:=mkAV C e hE k2 k3 (zRj hS hmem hE)
       exact⟨vs,y,rfl,by rw[hy1];exact k1,by rw[hy1];exact k2,by rw[hy1];exact k4,hy2⟩
     let pick:Nat->AV:=fun i=>if hi:i<len then(hel1 i hi).choose_spec.choose else .any
     have hpick:∀i,i<len->∃vs,w.cells? 0 (a.add (i*le.size)) le.size=some vs/\RepL (zah w) vs (cellsOf (pick i))/\(cellsOf (pick i)).length=le.size/\Shp C n e (cellsOf (pick i))/\(if aggT C e then∃ys,pick i= .agg ys else∃z,pick i=z/\z.one=true):=by
      intro i hi
      have:=(hel1 i hi).choose_spec.choose_spec
      refine⟨(hel1 i hi).choose,?_⟩
      simp only[pick,hi,dif_pos]
      exact this
     have hcellat:∀i j,i<len->j<le.size->∃v,w.cell? ⟨a.block,a.off+(i*le.size+j),none⟩=some v/\a.spot=none/\Rep (zah w) v ((cellsOf (pick i)).getD j .any):=by
      intro i j hi hj
      obtain⟨vs,g1,g2,g3,_⟩:=hpick i hi
      obtain⟨g4,g5⟩:=zEM g1
      have hjv:vs[j]?=some vs[j]:=YAI (by omega)
      have g6:=g5 j _ hjv
      have hj0:=g5 0 _ (YAI (by omega))
      have hsp:a.spot=none:=by
       obtain⟨vs0,q1,_⟩:=hpick 0 (by omega)
       obtain⟨q2,q3⟩:=zEM q1
       have:=cell?_spot (q3 0 _ (YAI (by omega)))
       simpa [Addr.add]using this
      have hadd:(a.add (i*le.size)).add j=⟨a.block,a.off+(i*le.size+j),none⟩:=by
       rw[zBm hsp,addr_add,addr_add,Nat.add_assoc]
      rw[hadd]at g6
      refine⟨_,g6,hsp,?_⟩
      have:=g2.2 j (by omega)
      rwa[getD_lt _ (by omega)]at this
     refine⟨[.sl ((List.range len).map pick) .no],.cons ?_ (.nil _),by simp[h1],by simp[AV.one],?_⟩
     ·refine .sl (some a) len cap _ .no le.size a.block a.off (fun j=>(w.cell? ⟨a.block,a.off+j,none⟩).getD undef) (by simp) hlc hcm ?_ ?_ ?_ ?_ (by simp) (by simp)
      ·intro hpos
       obtain⟨v,_,hsp,_⟩:=hcellat 0 0 hpos hEpos
       rw[zBm hsp]
      ·intro i hi
       obtain⟨vs,g1,g2,g3,_⟩:=hpick i hi
       rw[getD_lt _ (by simpa using hi)];simpa using g3
      ·intro j hj
       have hi:j/le.size<len:=Nat.div_lt_of_lt_mul (by rw[Nat.mul_comm];exact hj)
       obtain⟨v,g1,_,_⟩:=hcellat (j/le.size) (j % le.size) hi (Nat.mod_lt _ hEpos)
       have:j/le.size*le.size+j % le.size=j:=by rw[Nat.mul_comm];exact Nat.div_add_mod j le.size
       rw[this]at g1
       simp only[zah,g1,Option.getD_some]
      ·intro i j hi hj
       obtain⟨v,g1,_,g3⟩:=hcellat i j hi hj
       simp only[g1,Option.getD_some]
       have e:((List.range len).map pick).getD i .any=pick i:=by simp[hi]
       rw[e];exact g3
     ·simp only[Shp,hT,hd]
      refine⟨_,rfl,fun x hx=> ?_⟩
      obtain⟨i,hi,rfl⟩:=List.mem_map.1 hx
      obtain⟨vs,_,_,_,g4,g5⟩:=hpick i (by simpa using hi)
      exact⟨g4,g5⟩
  ·
   rename_i fs hd
   rw[hd]at hok
   simp only[zAe]at hok
   obtain⟨f,rfl,hf⟩:=hok
   simp only[YAA,List.all_eq_true,List.contains_iff_mem]at hg
   obtain⟨hmem,htile⟩:=hg
   obtain⟨xs,m,hm,_,hlen,hxs,hget⟩:=DataW.trod_struct hdesc h
   obtain rfl:n=m:=by omega
   have hfield:∀p∈fs,∃as,RepL (zah w) ((vs.drop p.1).take (zWC C p.2)) as/\as.length=zWC C p.2/\(∀x∈as,x.one=true)/\Shp C n p.2 as:=by
    intro p hp
    rw[<-hf]at hp
    obtain⟨q,hq,rfl⟩:=List.mem_map.1 hp
    obtain⟨i,hi,rfl⟩:=List.mem_iff_getElem.1 hq
    have hi':i<f.size:=by simpa using hi
    have hfi:f[i]?=some f[i]:=Array.getElem?_eq_getElem hi'
    have hg:=hget i _ hfi
    have hmq:=hmem (f.toList[i].offset,f.toList[i].type) (by rw[<-hf];exact hp)
    simp only[Array.getElem_toList]at hmq⊢
    have hgq:=List.all_eq_true.1 hS _ hmq
    cases hQ:C.ty f[i].type with
    |none=>rw[hQ]at hgq;simp at hgq
    |some lq=>
     rw[(hC _ _ hQ).zEW]at hg
     have hx:xs[i]?=some (xs[i]'(by omega)):=YAI (by omega)
     rw[hx]at hg
     have hsq:zWC C f[i].type=lq.size:=by simp[zWC,hQ]
     rw[hsq]
     exact zYk hC hS n hmq hQ hg
   obtain⟨as,g1,g2,g3,g4⟩:=zYS fs 0 l.size htile (by rw[hlen,hsz]) hfield
   refine⟨as,by simpa using g1,by omega,g3,?_⟩
   simp only[Shp,hT,hd]
   refine⟨by omega,?_⟩
   intro p hp
   have:=(g4 p hp).2
   simpa using this
theorem zCk(hl:laidOutB P=true){W W':World}(hb:Below W.heap.size W W'):∀(ts:List Nat) (vs:List Value) (ds:List (DataW H)) (ps:List MemPlace),(ts.all fun t=>P.readableRec t&&decide (t<P.types.size))=true->
 DataW.TrodAll enc P W 0 (fun _=>true) true ts vs ds ps->(∀x∈ps,x.block<W.heap.size)->DataW.TrodAll enc P W' 0 (fun b=>decide (b<W.heap.size)) true ts vs ds ps
 | [],[],[],ps,_,h,_=>h
 | [],_::_,_,_,_,h,_=>h.elim
 | [],[],_::_,_,_,h,_=>h.elim
 |_::_,[],_,_,_,h,_=>h.elim
 |_::_,_::_,[],_,_,h,_=>h.elim
 |t::ts,v::vs,d::ds,ps,hr,⟨p,q,h1,h2,h3⟩,hlt=>by
  simp only[List.all_cons,YAA,YAa]at hr
  subst h3
  exact⟨p,q,Go.RowKit.Below.trod hl hr.1.1 hr.1.2 h1 hb (fun x hx=>hlt x (List.mem_append_left _ hx)),zCk hl hb ts vs ds q hr.2 h2 (fun x hx=>hlt x (List.mem_append_right _ hx)),rfl⟩
theorem zMu{f:Func}{s:ChangeSpec}{W W':World}{args:Array Value}{ds gs:List (DataW H)}{before:List MemPlace}{tb:Nat}(hv:s.vars=[])(hl:laidOutB P=true)
 (hr:(f.params.toList.all fun t=>P.readableRec t&&decide (t<P.types.size))=true) (hres:f.resultTypes= #[tb]) (htb:P.underlying tb=some .bool) (hW:DataW.Whole enc P f.params.toList s.vars false W args.toList ds gs before)
 (hfn:s.fn H ds= {results:=[.lit (.bool true)],args:=ds}) (hb:Below W.heap.size W W'):s.post enc P f false true false false W args (.bool true) W':=by
 have hW0:=hW
 have hlt:∀p∈before,p.block<W.heap.size:=fun p hp=>hW.lt p hp
 obtain⟨p,q,hA,hV,rfl,_,_⟩:=hW
 rw[hv]at hV
 obtain⟨rfl,rfl⟩:=Go.ChangeShapes.trodVars_none hV
 refine⟨ds,[],_,[],p,[],hW0,?_,?_,?_,hb.frame _,fun h=>by cases h⟩
 ·rw[List.append_nil,hfn,hres]
  exact⟨[],[],Go.RowKit.shut_bool htb true,rfl,rfl⟩
 ·rw[List.append_nil,hfn]
  exact zCk hl hb _ _ _ _ hr hA (fun x hx=>hlt x (List.mem_append_left _ hx))
 ·rw[List.append_nil,hfn,hv];rfl
theorem zCi(hC:zAb P C){S:List Nat}(hS:zKv C S=true){r:Reach}{b0:Nat}{spare:Nat->Bool}{held:Bool}{t:Nat}{l:TL}{v:Value}{d:DataW H}{ps:List MemPlace}(ht:t∈S)(hT:C.ty t=some l)
 (hval:Value.okWide P w r b0 t v) (hd:DataW.Trod enc P w 0 spare held t v d ps):∃(a:AV) (n:Nat),Rep (zah w) v a/\Shp C n t (cellsOf a)/\if aggT C t then∃ys,a= .agg ys else∃y,a=y/\y.one=true:=by
 obtain⟨fuel,hf⟩:=hd
 obtain⟨as,h1,h2,h3,h4⟩:=zYk hC hS fuel ht hT hf
 obtain⟨desc,hdesc,hok⟩:=(hC _ _ hT).desc
 have hg:=List.all_eq_true.1 hS t ht
 simp only[hT]at hg
 by_cases ha:l.d.isAgg=true
 ·have hag:aggT C t=true:=by simp[aggT,hT,ha]
  have hv:∃cs,v= .agg cs:=by
   unfold Value.okWide at hval
   rw[hdesc]at hval
   cases hd:l.d<;>rw[hd]at ha<;>simp[TD.isAgg]at ha
   ·rename_i n e
    rw[hd]at hok;simp only[zAe]at hok;subst hok
    obtain⟨cs,h,_⟩:=hval;exact⟨cs,h⟩
   ·rename_i fs
    rw[hd]at hok;simp only[zAe]at hok;obtain⟨f,rfl,_⟩:=hok
    obtain⟨cs,h,_⟩:=hval;exact⟨cs,h⟩
  obtain⟨cs,rfl⟩:=hv
  refine⟨.agg as,fuel,RepL.agg (by simpa [Value.cells]using h1),h4,by simp[hag]⟩
 ·have ha':l.d.isAgg=false:=by simpa using ha
  have hag:aggT C t=false:=by simp[aggT,hT,ha']
  obtain⟨y,hy⟩:=List.length_eq_one_iff.1 (h2.trans (zRj hS ht hT ha'))
  subst hy
  have hone:=h3 y (by simp)
  have hcy:cellsOf y=[y]:=by cases y<;>first|rfl|(simp[AV.one]at hone)
  obtain⟨u,hu⟩:=List.length_eq_one_iff.1 h1.1
  have hru:Rep (zah w) u y:=by have:=h1.2 0 (by simp);rw[hu]at this;simpa using this
  have hvu:v=u:=by
   cases v with
   |agg cs=>
    exfalso
    unfold Value.okWide at hval
    rw[hdesc]at hval
    split at hg<;>first|(simp at hg;done)|skip
    all_goals (rename_i hd;rw[hd]at hok ha')
    ·simp only[zAe]at hok;subst hok;simp[Cell.okWide,Cell.ok,hdesc]at hval
    ·simp only[zAe]at hok;subst hok;simp[Cell.okWide,Cell.ok,hdesc]at hval
    ·simp only[zAe]at hok;subst hok;simp[Cell.okWide,Cell.ok,hdesc]at hval
    ·simp only[zAe]at hok;subst hok;simp[Cell.okWide,Cell.ok,hdesc]at hval
    ·simp[TD.isAgg]at ha'
   |_=>simpa [Value.cells]using hu
  subst hvu
  exact⟨y,fuel,hru,by rw[hcy];exact h4,by rw[if_neg (by simp[hag])];exact⟨y,rfl,hone⟩⟩
theorem zMr{f:Nat}{W:World}{vs:Array Value}{avs:List AV}(h:zA0 P f avs (.bool true))(hs:vs.size=avs.length)(hr:∀i,i<avs.length->Rep (zah W) (vs.getD i undef) (avs.getD i .any)):
 Calls P f vs W fun e W'=>e= .returned (.bool true)/\Below W.heap.size W W':=by
 refine((h.2 []).2 (zah W) W vs (zL3 W) (by simp) hs hr).mono fun e W' he=> ?_
 obtain⟨V',v,r,H',_,g2,rfl,g4,_,_,rfl,_⟩:=he
 cases g4
 exact⟨rfl,g2⟩
end
end Go.Ab
end
