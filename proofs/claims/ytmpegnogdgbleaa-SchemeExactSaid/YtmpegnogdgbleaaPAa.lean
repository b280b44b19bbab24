/- Lemmas: the values and steps of the executor on data. No condition. -/
import Derived.Calls
import Derived.Orders
import Derived.Below
import Derived.Scope
import Derived.Laws.CopyRow
import Derived.Laws.AppendOwn
section
/- The executor on abstract values: values, states, laws of both. Conditions stand ahead of each part. -/
/- Abstract values and their relation to the model's values: helper definitions and laws, over any world. No condition. -/
namespace Go.Ab
open Go.RowKit (Below)
theorem getD_lt{α:Type}{l:List α}{i:Nat}(d:α)(h:i<l.length):l.getD i d=l[i]:=by
 simp[List.getD_eq_getElem?_getD,List.getElem?_eq_getElem h]
theorem zIX{α:Type}(l k:List α)(d:α){i:Nat}(h:i<l.length):(l++k).getD i d=l.getD i d:=by
 simp[List.getD_eq_getElem?_getD,List.getElem?_append,h]
theorem zIY{α:Type}(l k:List α)(d:α){i:Nat}(h:l.length<=i):(l++k).getD i d=k.getD (i-l.length) d:=by
 simp[List.getD_eq_getElem?_getD,List.getElem?_append,show¬i<l.length by omega]
inductive Tk where
 |no
 |full
 |cap
 |own (r:Nat)
inductive AV where
 |any
 |int (k:IntKind) (n:Int)
 |bool (b:Bool)
 |str (s:ByteArray)
 |nilp
 |agg (cs:List AV)
 |tup (vs:List AV)
 |sl (es:List AV) (tok:Tk)
 |eptr (e:List AV) (off:Nat)
 |bptr (r:Nat) (off:Nat)
 |ms (r:Nat) (ver len:Nat)
 |aptr (r:Nat) (ver size i off:Nat)
 |mp (r:Nat)
 |nilm
 |fn (f:Nat)
 |clo (f:Nat) (cs:List AV)
 |yld (r:Nat)
 |nilf
instance:Inhabited AV:=⟨.any⟩
def cellsOf:AV->List AV
 | .agg cs=>cs
 |a=> [a]
def AV.one:AV->Bool
 | .any| .agg _| .tup _=>false
 |_=>true
def AV.solid:AV->Bool
 | .any| .tup _=>false
 | .agg cs=>cs.all AV.one
 |_=>true
structure LpD where
 fn:FuncId
 ps:Array Tmp
 assign:Code
 body:Code
inductive AObj where
 |box (cs:List AV)
 |tok (n size:Nat)
 |arr (ver size:Nat) (es:List AV)
 |map (es:List (AV×AV))
 |raw (o:Obj)
 |lp (d:LpD) (env:List AV) (st:LoopState) (pend:Option Code)
 |dead
structure View where
 base:Nat
 imm:Nat->Nat->Option Value
 loc:Nat->Nat->Option (Option Nat×Nat)
structure View.Le (V V':View):Prop where
 base:V'.base=V.base
 imm:∀b o v,V.imm b o=some v->V'.imm b o=some v
 loc:∀r n x,V.loc r n=some x->V'.loc r n=some x
theorem View.Le.refl(V:View):V.Le V:=⟨rfl,fun _ _ _ h=>h,fun _ _ _ h=>h⟩
theorem View.Le.trans{A B C:View}(h:A.Le B)(k:B.Le C):A.Le C:=
 ⟨k.base.trans h.base,fun b o v e=>k.imm b o v (h.imm b o v e),fun r n x e=>k.loc r n x (h.loc r n x e)⟩
structure View.LeB (m:Nat) (V V':View):Prop where
 base:V'.base=V.base
 imm:∀b o v,V.imm b o=some v->V'.imm b o=some v
 loc:∀r n x,r<m->V.loc r n=some x->V'.loc r n=some x
theorem View.Le.toB{V V':View}(h:V.Le V')(m:Nat):V.LeB m V':=⟨h.base,h.imm,fun r n x _=>h.loc r n x⟩
theorem View.LeB.refl(m:Nat)(V:View):V.LeB m V:=⟨rfl,fun _ _ _ h=>h,fun _ _ _ _ h=>h⟩
theorem View.LeB.trans{m:Nat}{A B C:View}(h:View.LeB m A B)(k:View.LeB m B C):View.LeB m A C:=
 ⟨k.base.trans h.base,fun b o v e=>k.imm b o v (h.imm b o v e),fun r n x hr e=>k.loc r n x hr (h.loc r n x hr e)⟩
def zDB(blk:Option Nat):Option Addr:=blk.map fun b=>⟨b,0,none⟩
inductive Rep (V:View):Value->AV->Prop
 |any (v:Value):Rep V v .any
 |int (k:IntKind) (n:Int) (h1:k.min<=n) (h2:n<=k.max):Rep V (.int k n) (.int k n)
 |bool (b:Bool):Rep V (.bool b) (.bool b)
 |str (s:ByteArray) (h:s.size<=maxLen):Rep V (.string s) (.str s)
 |nilp:Rep V (.pointer none) .nilp
 |agg (cs:Array Value) (as:List AV) (hl:cs.size=as.length) (h:∀i,i<as.length->Rep V (cs.getD i undef) (as.getD i .any)):
  Rep V (.agg cs) (.agg as)
 |tup (cs:Array Value) (as:List AV) (hl:cs.size=as.length) (h:∀i,i<as.length->Rep V (cs.getD i undef) (as.getD i .any)):
  Rep V (.tuple cs) (.tup as)
 |sl (bse:Option Addr) (len cap:Nat) (es:List AV) (tok:Tk) (size b o:Nat) (val:Nat->Value)
  (hl:es.length=len) (hc:len<=cap) (hm:cap<=maxLen) (hb:0<len->bse=some ⟨b,o,none⟩)
  (hs:∀i,i<len->(cellsOf (es.getD i .any)).length=size)
  (hi:∀j,j<len*size->V.imm b (o+j)=some (val j))
  (hr:∀i j,i<len->j<size->Rep V (val (i*size+j)) ((cellsOf (es.getD i .any)).getD j .any))
  (ht:∀r,tok= .own r->∃blk,V.loc r len=some (blk,cap)/\bse=zDB blk) (hf:(tok= .full->cap=len/\(len=0->bse=none))/\(tok= .cap->cap=len)):
  Rep V (.slice bse len cap) (.sl es tok)
 |eptr (e:List AV) (off b o:Nat) (val:Nat->Value) (hi:∀j,j<e.length->V.imm b (o+j)=some (val j))
  (hr:∀j,j<e.length->Rep V (val j) (e.getD j .any)):Rep V (.pointer (some ⟨b,o+off,none⟩)) (.eptr e off)
 |bptr (r:Nat) (off b c:Nat) (h:V.loc r 0=some (some b,c)):Rep V (.pointer (some ⟨b,off,none⟩)) (.bptr r off)
 |ms (r:Nat) (ver len:Nat) (blk:Option Nat) (cap:Nat) (h:V.loc r ver=some (blk,cap)) (hc:len<=cap) (hm:cap<=maxLen) (hn:blk=none->cap=0):Rep V (.slice (zDB blk) len cap) (.ms r ver len)
 |aptr (r:Nat) (ver size i off b cap:Nat) (h:V.loc r ver=some (some b,cap)):Rep V (.pointer (some ⟨b,i*size+off,none⟩)) (.aptr r ver size i off)
 |mp (r:Nat) (b c:Nat) (h:V.loc r 0=some (some b,c)):Rep V (.map (some b)) (.mp r)
 |nilm:Rep V (.map none) .nilm
 |fn (f:Nat):Rep V (.func (.func f) #[] #[]) (.fn f)
 |clo (f:Nat) (cs:Array Value) (as:List AV) (hl:cs.size=as.length) (h:∀i,i<as.length->Rep V (cs.getD i undef) (as.getD i .any)):Rep V (.func (.func f) #[] cs) (.clo f as)
 |yld (r b c:Nat) (h:V.loc r 0=some (some b,c)):Rep V (.func (.yield b) #[] #[]) (.yld r)
 |nilf:Rep V .nilFunc .nilf
theorem Rep.mono{V V':View}(hV:V.Le V'){v:Value}{a:AV}(h:Rep V v a):Rep V' v a:=by
 induction h with
 |any v=>exact .any v
 |int k n h1 h2=>exact .int k n h1 h2
 |bool b=>exact .bool b
 |str s h=>exact .str s h
 |nilp=>exact .nilp
 |agg cs as hl _ ih=>exact .agg cs as hl ih
 |tup cs as hl _ ih=>exact .tup cs as hl ih
 |sl bse len cap es tok size b o val hl hc hm hb hs hi _ ht hf ih=>
  exact .sl bse len cap es tok size b o val hl hc hm hb hs (fun j hj=>hV.imm _ _ _ (hi j hj)) ih
   (fun r hr=>let ⟨blk,h1,h2⟩:=ht r hr;⟨blk,hV.loc _ _ _ h1,h2⟩) hf
 |eptr e off b o val hi _ ih=>exact .eptr e off b o val (fun j hj=>hV.imm _ _ _ (hi j hj)) ih
 |bptr r off b c h=>exact .bptr r off b c (hV.loc _ _ _ h)
 |ms r ver len blk cap h hc hm hn=>exact .ms r ver len blk cap (hV.loc _ _ _ h) hc hm hn
 |aptr r ver size i off b cap h=>exact .aptr r ver size i off b cap (hV.loc _ _ _ h)
 |mp r b c h=>exact .mp r b c (hV.loc _ _ _ h)
 |nilm=>exact .nilm
 |fn f=>exact .fn f
 |clo f cs as hl _ ih=>exact .clo f cs as hl ih
 |yld r b c h=>exact .yld r b c (hV.loc _ _ _ h)
 |nilf=>exact .nilf
theorem Rep.cells{V:View}{v:Value}{a:AV}(h:Rep V v a)(hs:a.solid=true):
 v.cells.size=(cellsOf a).length/\∀i,i<(cellsOf a).length->Rep V (v.cells.getD i undef) ((cellsOf a).getD i .any):=by
 cases h with
 |any v=>simp[AV.solid]at hs
 |tup=>simp[AV.solid]at hs
 |agg cs as hl h=>exact⟨hl,h⟩
 |_=>
  refine⟨rfl,fun i hi=> ?_⟩
  have h0:i=0:=by simp[cellsOf]at hi;omega
  subst h0
  simp only[Value.cells,cellsOf,List.getD_cons_zero]
  first
   |exact .int _ _ ‹_› ‹_›
   |exact .bool _
   |exact .str _ ‹_›
   |exact .nilp
   |exact .sl _ _ _ _ _ _ _ _ _ ‹_› ‹_› ‹_› ‹_› ‹_› ‹_› ‹_› ‹_› ‹_›
   |exact .eptr _ _ _ _ _ ‹_› ‹_›
   |exact .bptr _ _ _ _ ‹_›
   |exact .ms _ _ _ _ _ ‹_› ‹_› ‹_› ‹_›
   |exact .aptr _ _ _ _ _ _ _ ‹_›
   |exact .mp _ _ _ ‹_›
   |exact .nilm
   |exact .fn _
   |exact .clo _ _ _ ‹_› ‹_›
   |exact .yld _ _ _ ‹_›
   |exact .nilf
theorem Rep.oneCell{V:View}{v:Value}{a:AV}(h:Rep V v a)(hs:a.one=true):v.oneCell'=true:=by
 cases h<;>first|rfl|(simp[AV.one]at hs)
theorem AV.zWz{a:AV}(h:a.solid=true):∀i,i<(cellsOf a).length->((cellsOf a).getD i .any).one=true:=by
 intro i hi
 cases a with
 |any=>simp[AV.solid]at h
 |tup=>simp[AV.solid]at h
 |agg cs=>
  simp only[AV.solid,List.all_eq_true]at h
  simp only[cellsOf]at hi⊢
  rw[getD_lt _ hi]
  exact h _ (List.getElem_mem hi)
 |_=>
  have h0:i=0:=by simp[cellsOf]at hi;omega
  subst h0
  rfl
def own(V:View)(r:Nat):AObj->Option Nat
 | .box _| .map _=>(V.loc r 0).bind (·.1)
 | .tok n _=>(V.loc r n).bind (·.1)
 | .arr ver _ _=>(V.loc r ver).bind (·.1)
 | .raw _| .lp _ _ _ _=>(V.loc r 0).bind (·.1)
 | .dead=>none
def zBB(V:View)(entries:List MapEntry)(es:List (AV×AV)):Prop:=
 entries.length=es.length/\∀i,i<es.length->∀e p,entries[i]?=some e->es[i]?=some p->Rep V e.key p.1/\Rep V e.val p.2
def zAy(V:View)(w:World)(r:Nat):AObj->Prop
 | .box cs=>∃b c cells ty,V.loc r 0=some (some b,c)/\w.heap[b]?=some (.cells cells ty (0,0))/\V.base<=b/\
  cells.size=cs.length/\(∀i,i<cs.length->Rep V (cells.getD i undef) (cs.getD i .any))/\∀o,V.imm b o=none
 | .tok n size=>∃blk cap,V.loc r n=some (blk,cap)/\(∀m,n<m->V.loc r m=none)/\n<=cap/\cap<=maxLen/\
  match blk with
  |none=>cap=0
  |some b=>V.base<=b/\∃cells ty,w.heap[b]?=some (.cells cells ty (0,0))/\cells.size=cap*size/\∀o,n*size<=o->V.imm b o=none
 | .arr ver size es=>∃blk cap,V.loc r ver=some (blk,cap)/\(∀m,ver<m->V.loc r m=none)/\es.length<=cap/\cap<=maxLen/\
  (∀i,i<es.length->(cellsOf (es.getD i .any)).length=size)/\
  match blk with
  |none=>cap=0
  |some b=>V.base<=b/\∃cells ty,w.heap[b]?=some (.cells cells ty (0,0))/\cells.size=cap*size/\
   (∀i j,i<es.length->j<size->Rep V (cells.getD (i*size+j) undef) ((cellsOf (es.getD i .any)).getD j .any))/\∀o,V.imm b o=none
 | .map es=>∃b c entries clock,V.loc r 0=some (some b,c)/\w.heap[b]?=some (.map entries clock)/\V.base<=b/\
  zBB V entries.toList es/\∀o,V.imm b o=none
 | .raw ob=>∃b c,V.loc r 0=some (some b,c)/\w.heap[b]?=some ob/\V.base<=b/\∀o,V.imm b o=none
 | .lp d env st pend=>∃b c tmps db,V.loc r 0=some (some b,c)/\w.heap[b]?=some (.loop ⟨st,pend,d.fn,tmps,d.ps,d.assign,d.body,db⟩)/\V.base<=b/\tmps.size=env.length/\
  (∀i,i<env.length->Rep V (tmps.getD i undef) (env.getD i .any))/\∀o,V.imm b o=none
 | .dead=>∀n,V.loc r n=none
theorem zBB.mono{V V':View}(hV:V.Le V'){en:List MapEntry}{es:List (AV×AV)}(h:zBB V en es):zBB V' en es:=
 ⟨h.1,fun i hi e p he hp=>let ⟨h1,h2⟩:=h.2 i hi e p he hp;⟨h1.mono hV,h2.mono hV⟩⟩
theorem zAy.frame{V V':View}{w w':World}{r:Nat}{x:AObj}(h:zAy V w r x)(hV:V.Le V')
 (hb:∀b,own V r x=some b->w'.heap[b]?=w.heap[b]?)
 (hi:∀b,own V r x=some b->∀o,V.imm b o=none->V'.imm b o=none)
 (hl:∀n,V.loc r n=none->V'.loc r n=none):zAy V' w' r x/\own V' r x=own V r x:=by
 cases x with
 |box cs=>
  obtain⟨b,c,cells,ty,h1,h2,h3,h4,h5,h6⟩:=h
  have ho:own V r (.box cs)=some b:=by simp[own,h1]
  have h1':=hV.loc _ _ _ h1
  refine⟨⟨b,c,cells,ty,h1',by rw[hb b ho];exact h2,by rw[hV.base];exact h3,h4,fun i hi=>(h5 i hi).mono hV,fun o=>hi b ho o (h6 o)⟩,?_⟩
  simp[own,h1,h1']
 |tok n size=>
  obtain⟨blk,cap,h1,h2,h3,h4,h5⟩:=h
  have h1':=hV.loc _ _ _ h1
  refine⟨⟨blk,cap,h1',fun m hm=>hl m (h2 m hm),h3,h4,?_⟩,by simp[own,h1,h1']⟩
  cases blk with
  |none=>exact h5
  |some b=>
   have ho:own V r (.tok n size)=some b:=by simp[own,h1]
   obtain⟨h6,cells,ty,h7,h8,h9⟩:=h5
   exact⟨by rw[hV.base];exact h6,cells,ty,by rw[hb b ho];exact h7,h8,fun o hoo=>hi b ho o (h9 o hoo)⟩
 |arr ver size es=>
  obtain⟨blk,cap,h1,h2,h3,h4,hsz,h5⟩:=h
  have h1':=hV.loc _ _ _ h1
  refine⟨⟨blk,cap,h1',fun m hm=>hl m (h2 m hm),h3,h4,hsz,?_⟩,by simp[own,h1,h1']⟩
  cases blk with
  |none=>exact h5
  |some b=>
   have ho:own V r (.arr ver size es)=some b:=by simp[own,h1]
   obtain⟨h6,cells,ty,h7,h8,h9,h10⟩:=h5
   exact⟨by rw[hV.base];exact h6,cells,ty,by rw[hb b ho];exact h7,h8,fun i j hi hj=>(h9 i j hi hj).mono hV,fun o=>hi b ho o (h10 o)⟩
 |map es=>
  obtain⟨b,c,entries,clock,h1,h2,h3,h4,h6⟩:=h
  have ho:own V r (.map es)=some b:=by simp[own,h1]
  have h1':=hV.loc _ _ _ h1
  refine⟨⟨b,c,entries,clock,h1',by rw[hb b ho];exact h2,by rw[hV.base];exact h3,h4.mono hV,fun o=>hi b ho o (h6 o)⟩,?_⟩
  simp[own,h1,h1']
 |raw ob=>
  obtain⟨b,c,h1,h2,h3,h6⟩:=h
  have ho:own V r (.raw ob)=some b:=by simp[own,h1]
  have h1':=hV.loc _ _ _ h1
  refine⟨⟨b,c,h1',by rw[hb b ho];exact h2,by rw[hV.base];exact h3,fun o=>hi b ho o (h6 o)⟩,?_⟩
  simp[own,h1,h1']
 |lp d env st pend=>
  obtain⟨b,c,tmps,db,h1,h2,h3,h4,h5,h6⟩:=h
  have ho:own V r (.lp d env st pend)=some b:=by simp[own,h1]
  have h1':=hV.loc _ _ _ h1
  refine⟨⟨b,c,tmps,db,h1',by rw[hb b ho];exact h2,by rw[hV.base];exact h3,h4,fun i hi=>(h5 i hi).mono hV,fun o=>hi b ho o (h6 o)⟩,?_⟩
  simp[own,h1,h1']
 |dead=>exact⟨fun n=>hl n (h n),rfl⟩
theorem zAy.zRr{V:View}{w:World}{r:Nat}{x:AObj}(h:zAy V w r x){b:Nat}(ho:own V r x=some b):V.base<=b/\b<w.heap.size:=by
 have lt:∀ {o:Obj},w.heap[b]?=some o->b<w.heap.size:=fun h=>(Array.getElem?_eq_some_iff.1 h).1
 cases x with
 |box cs=>obtain⟨b',c,cells,ty,h1,h2,h3,_⟩:=h;simp[own,h1]at ho;subst ho;exact⟨h3,lt h2⟩
 |tok n size=>
  obtain⟨blk,cap,h1,_,_,_,h5⟩:=h
  simp[own,h1]at ho;subst ho
  obtain⟨h6,cells,ty,h7,_⟩:=h5
  exact⟨h6,lt h7⟩
 |arr ver size es=>
  obtain⟨blk,cap,h1,_,_,_,_,h5⟩:=h
  simp[own,h1]at ho;subst ho
  obtain⟨h6,cells,ty,h7,_⟩:=h5
  exact⟨h6,lt h7⟩
 |map es=>obtain⟨b',c,cells,ty,h1,h2,h3,_⟩:=h;simp[own,h1]at ho;subst ho;exact⟨h3,lt h2⟩
 |raw ob=>obtain⟨b',c,h1,h2,h3,_⟩:=h;simp[own,h1]at ho;subst ho;exact⟨h3,lt h2⟩
 |lp d env st pend=>obtain⟨b',c,tmps,db,h1,h2,h3,_⟩:=h;simp[own,h1]at ho;subst ho;exact⟨h3,lt h2⟩
 |dead=>simp[own]at ho
structure Inv (V:View) (obj:Nat->Option AObj) (w:World):Prop where
 base:V.base<=w.heap.size
 imm:∀b o v,V.imm b o=some v->w.cell? ⟨b,o,none⟩=some v
 dom:∀r n x,V.loc r n=some x->(obj r).isSome=true
 objs:∀r x,obj r=some x->zAy V w r x
 sep:∀r r' x x' b,obj r=some x->obj r'=some x'->own V r x=some b->own V r' x'=some b->r=r'
theorem Inv.zLZ{V:View}{obj:Nat->Option AObj}{w:World}(h:Inv V obj w){b o:Nat}{v:Value}(hi:V.imm b o=some v):b<w.heap.size:=
 World.block_lt_of_cell? w ⟨b,o,none⟩ (h.imm b o v hi)
theorem Inv.zLa{V:View}{obj:Nat->Option AObj}{w:World}(h:Inv V obj w){b:Nat}(hb:w.heap.size<=b)(o:Nat):V.imm b o=none:=by
 cases hi:V.imm b o with
 |none=>rfl
 |some v=>have:=h.zLZ hi;omega
theorem Inv.upd{V V':View}{obj:Nat->Option AObj}{w w':World}(h:Inv V obj w)(hV:V.Le V')(r:Nat)(x':AObj)
 (hsz:w.heap.size<=w'.heap.size) (himm:∀b o v,V'.imm b o=some v->w'.cell? ⟨b,o,none⟩=some v)
 (hframe:∀r1 x1,r1≠r->obj r1=some x1->∀b,own V r1 x1=some b->w'.heap[b]?=w.heap[b]?/\∀o,V.imm b o=none->V'.imm b o=none)
 (hloc:∀r1 n,r1≠r->V'.loc r1 n=V.loc r1 n) (hnew:zAy V' w' r x')
 (hsep:∀b,own V' r x'=some b->∀r1 x1,r1≠r->obj r1=some x1->own V r1 x1≠some b):
 Inv V' (fun q=>if q=r then some x' else obj q) w':=by
 have key:∀r1 x1,r1≠r->obj r1=some x1->zAy V' w' r1 x1/\own V' r1 x1=own V r1 x1:=fun r1 x1 hne ho=>
  (h.objs r1 x1 ho).frame hV (fun b hb=>(hframe r1 x1 hne ho b hb).1) (fun b hb=>(hframe r1 x1 hne ho b hb).2) (fun n hn=>by rw[hloc r1 n hne];exact hn)
 refine⟨by rw[hV.base];exact Nat.le_trans h.base hsz,himm,?_,?_,?_⟩
 ·intro q n x hx
  by_cases hq:q=r
  ·simp[hq]
  ·rw[hloc q n hq]at hx
   simpa [hq]using h.dom q n x hx
 ·intro q x hx
  by_cases hq:q=r
  ·subst hq;simp at hx;subst hx;exact hnew
  ·simp[hq]at hx;exact(key q x hq hx).1
 ·intro q q' x1 x2 b h1 h2 h3 h4
  by_cases hq:q=r
  ·subst hq
   simp at h1;subst h1
   by_cases hq':q'=q
   ·exact hq'.symm
   ·simp[hq']at h2
    rw[(key q' x2 hq' h2).2]at h4
    exact absurd h4 (hsep b h3 q' x2 hq' h2)
  ·simp[hq]at h1
   rw[(key q x1 hq h1).2]at h3
   by_cases hq':q'=r
   ·subst hq'
    simp at h2;subst h2
    exact absurd h3 (hsep b h4 q x1 hq h1)
   ·simp[hq']at h2
    rw[(key q' x2 hq' h2).2]at h4
    exact h.sep q q' x1 x2 b h1 h2 h3 h4
theorem Inv.keep{V V':View}{obj:Nat->Option AObj}{w w':World}(h:Inv V obj w)(hV:V.Le V')
 (hsz:w.heap.size<=w'.heap.size) (himm:∀b o v,V'.imm b o=some v->w'.cell? ⟨b,o,none⟩=some v)
 (hframe:∀r1 x1,obj r1=some x1->∀b,own V r1 x1=some b->w'.heap[b]?=w.heap[b]?/\∀o,V.imm b o=none->V'.imm b o=none)
 (hloc:∀r1 n,V'.loc r1 n=V.loc r1 n):Inv V' obj w':=by
 have key:∀r1 x1,obj r1=some x1->zAy V' w' r1 x1/\own V' r1 x1=own V r1 x1:=fun r1 x1 ho=>
  (h.objs r1 x1 ho).frame hV (fun b hb=>(hframe r1 x1 ho b hb).1) (fun b hb=>(hframe r1 x1 ho b hb).2) (fun n hn=>by rw[hloc r1 n];exact hn)
 refine⟨by rw[hV.base];exact Nat.le_trans h.base hsz,himm,?_,fun q x hx=>(key q x hx).1,?_⟩
 ·intro q n x hx
  rw[hloc q n]at hx
  exact h.dom q n x hx
 ·intro q q' x1 x2 b h1 h2 h3 h4
  rw[(key q x1 h1).2]at h3
  rw[(key q' x2 h2).2]at h4
  exact h.sep q q' x1 x2 b h1 h2 h3 h4
theorem Inv.drew{V:View}{obj:Nat->Option AObj}{w:World}(h:Inv V obj w):Inv V obj w.drew:=
 h.keep (View.Le.refl V) (Nat.le_refl _) h.imm (fun _ _ _ _ _=>⟨rfl,fun _ h=>h⟩) (fun _ _=>rfl)
theorem zLF(w:World)(o:Obj){b:Nat}(h:b<w.heap.size):(w.alloc o).heap[b]?=w.heap[b]?:=heap_alloc_old w o b h
def View.zay(V:View)(b:Nat)(f:Nat->Option Value):View:=
 {V with imm:=fun b' o=>if b'=b then f o else V.imm b' o}
theorem View.zaz{V:View}{b:Nat}{f:Nat->Option Value}(h:∀o v,V.imm b o=some v->f o=some v):V.Le (V.zay b f):=
 ⟨rfl,fun b' o v hv=>by
  by_cases hb:b'=b
  ·subst hb;simp[View.zay,h o v hv]
  ·simp[View.zay,hb,hv],fun _ _ _ h=>h⟩
theorem Inv.newRow{V:View}{obj:Nat->Option AObj}{w:World}(h:Inv V obj w)(cs:Array Value)(ty:TypeId):
 V.Le (V.zay w.heap.size fun o=>cs[o]?)/\Inv (V.zay w.heap.size fun o=>cs[o]?) obj (w.alloc (.cells cs ty)):=by
 have hle:V.Le (V.zay w.heap.size fun o=>cs[o]?):=View.zaz fun o v hv=>by
  rw[h.zLa (Nat.le_refl _)]at hv;cases hv
 refine⟨hle,h.keep hle (by simp) ?_ ?_ (fun _ _=>rfl)⟩
 ·intro b o v hv
  by_cases hb:b=w.heap.size
  ·subst hb
   simp only[View.zay,if_true]at hv
   rw[World.cell?_alloc_new];exact hv
  ·simp only[View.zay,hb,if_false]at hv
   rw[World.cell?_alloc_old w _ ⟨b,o,none⟩ hb]
   exact h.imm b o v hv
 ·intro r1 x1 ho b hb
  have hlt:=((h.objs r1 x1 ho).zRr hb).2
  refine⟨zLF w _ hlt,fun o hn=> ?_⟩
  have:b≠w.heap.size:=by omega
  simp[View.zay,this,hn]
theorem Inv.newObj{V:View}{obj:Nat->Option AObj}{w:World}(h:Inv V obj w)(r:Nat)(hr:obj r=none\/obj r=some .dead)(x:AObj)(ob:Obj)(c n:Nat)
 (hx:∀V':View,V.Le V'->V'.base=V.base->V'.loc r n=some (some w.heap.size,c)->(∀m,m≠n->V'.loc r m=none)->(∀o,V'.imm w.heap.size o=none)->
  zAy V' (w.alloc ob) r x/\own V' r x=some w.heap.size):
 ∃V',V.Le V'/\V'.loc r n=some (some w.heap.size,c)/\Inv V' (fun q=>if q=r then some x else obj q) (w.alloc ob):=by
 have hnone:∀m,V.loc r m=none:=fun m=>by
  cases hm:V.loc r m with
  |none=>rfl
  | some y => rcases hr with hr|hr
              ·have:=h.dom r m y hm;simp[hr]at this
              ·have:=h.objs r _ hr m;rw[hm]at this;cases this
 let V':View:= {V with loc:=fun q m=>if q=r then(if m=n then some (some w.heap.size,c)else none)else V.loc q m}
 have hle:V.Le V':=⟨rfl,fun _ _ _ h=>h,fun q m y hy=>by
  by_cases hq:q=r
  ·subst hq;rw[hnone m]at hy;cases hy
  ·simp[V',hq,hy]⟩
 obtain⟨hok,hown⟩:=hx V' hle rfl (by simp[V']) (fun m hm=>by simp[V',hm]) (fun o=>h.zLa (Nat.le_refl _) o)
 refine⟨V',hle,by simp[V'],h.upd hle r x (by simp) ?_ ?_ ?_ hok ?_⟩
 ·intro b o v hv
  have hlt:=h.zLZ (show V.imm b o=some v from hv)
  rw[World.cell?_alloc_old w _ ⟨b,o,none⟩ (by simp;omega)]
  exact h.imm b o v hv
 ·intro r1 x1 hne ho b hb
  exact⟨zLF w _ ((h.objs r1 x1 ho).zRr hb).2,fun _ hn=>hn⟩
 ·intro r1 m hne;simp[V',hne]
 ·intro b hb r1 x1 hne ho hb1
  rw[hown]at hb
  simp at hb;subst hb
  exact absurd ((h.objs r1 x1 ho).zRr hb1).2 (by omega)
theorem Inv.write{V:View}{obj:Nat->Option AObj}{w w':World}(h:Inv V obj w)(r:Nat)(x x':AObj)(hr:obj r=some x)(b:Nat)(hb:own V r x=some b)
 (hsz:w'.heap.size=w.heap.size) (hoth:∀k,k≠b->w'.heap[k]?=w.heap[k]?) (V':View) (hV:V.Le V')
 (himm:∀b1 o,b1≠b->V'.imm b1 o=V.imm b1 o) (himmb:∀o v,V'.imm b o=some v->w'.cell? ⟨b,o,none⟩=some v)
 (hloc:∀r1 n,r1≠r->V'.loc r1 n=V.loc r1 n) (hnew:zAy V' w' r x') (hown:own V' r x'=some b):
 Inv V' (fun q=>if q=r then some x' else obj q) w':=by
 have hother:∀r1 x1,r1≠r->obj r1=some x1->∀b1,own V r1 x1=some b1->b1≠b:=fun r1 x1 hne ho b1 hb1 he=>
  hne (h.sep r1 r x1 x b ho hr (he▸hb1) hb)
 refine h.upd hV r x' (by omega) ?_ ?_ hloc hnew ?_
 ·intro b1 o v hv
  by_cases h1:b1=b
  ·subst h1;exact himmb o v hv
  ·rw[himm b1 o h1]at hv
   have:=h.imm b1 o v hv
   simp only[World.cell?,hoth b1 h1]at this⊢
   exact this
 ·intro r1 x1 hne ho b1 hb1
  have h1:=hother r1 x1 hne ho b1 hb1
  exact⟨hoth b1 h1,fun o hn=>by rw[himm b1 o h1];exact hn⟩
 ·intro b1 hb1 r1 x1 hne ho hb2
  rw[hown]at hb1
  simp at hb1;subst hb1
  exact hother r1 x1 hne ho b hb2 rfl
end Go.Ab
/- An abstract executor for the model's code, on abstract values: definitions alone. No condition. -/
namespace Go.Ab
open Go.RowKit (Below)
mutual
def AV.bel(m:Nat):AV->Bool
 | .agg cs=>AV.belL m cs
 | .tup cs=>AV.belL m cs
 | .sl es t=>AV.belL m es&&(match t with| .own r=>decide (r<m)|_=>true)
 | .eptr e _=>AV.belL m e
 | .bptr r _=>decide (r<m)
 | .ms r _ _=>decide (r<m)
 | .aptr r _ _ _ _=>decide (r<m)
 | .mp r=>decide (r<m)
 | .clo _ cs=>AV.belL m cs
 | .yld r=>decide (r<m)
 |_=>true
def AV.belL(m:Nat):List AV->Bool
 | []=>true
 |a::as=>AV.bel m a&&AV.belL m as
end
def AObj.bel(m:Nat):AObj->Bool
 | .box cs=>AV.belL m cs
 | .tok _ _=>true
 | .arr _ _ es=>AV.belL m es
 | .map es=>AV.belL m (es.map (·.1))&&AV.belL m (es.map (·.2))
 | .raw _=>true
 | .lp _ env _ _=>AV.belL m env
 | .dead=>true
mutual
def AV.norm:AV->AV
 | .agg cs=> .agg (AV.normL cs)
 | .tup cs=> .tup (AV.normL cs)
 | .sl es _=> .sl (AV.normL es) .no
 | .eptr e o=> .eptr (AV.normL e) o
 | .clo f cs=> .clo f (AV.normL cs)
 |a=>a
def AV.normL:List AV->List AV
 | []=> []
 |a::as=>AV.norm a::AV.normL as
end
def zQ5:Value->AV
 | .int k n=> .int k n
 | .bool b=> .bool b
 | .string s=> .str s
 | .pointer none=> .nilp
 | .slice none 0 0=> .sl [] .full
 | .map none=> .nilm
 | .nilFunc=> .nilf
 |_=> .any
def zQ4:Value->AV
 | .agg cs=> .agg (cs.toList.map zQ5)
 |v=>zQ5 v
def zaN:Value->Bool
 | .int k n=>decide (k.min<=n)&&decide (n<=k.max)
 | .string s=>decide (s.size<=maxLen)
 |_=>true
def zaM:Value->Bool
 | .agg cs=>cs.toList.all zaN
 |v=>zaN v
inductive TD where
 |other
 |int (k:IntKind)
 |bool
 |str
 |sl (e:Nat)
 |arr (n e:Nat)
 |st (fs:List (Nat×Nat))
 |map (k v:Nat)
 |ptr
def TD.isAgg:TD->Bool
 | .arr _ _| .st _=>true
 |_=>false
structure TL where
 two:Nat
 d:TD
 size:Nat
 bytes:Nat
 zero:AV
structure Cfg where
 ty:Nat->Option TL
 inpl:Nat->Bool:=fun _=>false
 rdr:Nat->Bool:=fun _=>false
 mwr:Nat->Bool:=fun _=>false
 zwr:Nat->Bool:=fun _=>false
 zfr:Option (Nat×Nat):=none
 zld:List (Nat×Nat):=[]
structure AState where
 env:Nat->AV
 b:Nat
 H:List AObj
 L:List AObj
 n:Nat
def upd(e:Nat->AV)(d:Nat)(v:AV):Nat->AV:=fun t=>if t=d then v else e t
namespace AState
def put(s:AState)(dst:Option Tmp)(v:AV):AState:=
 match dst with
 |some d=> {s with env:=upd s.env d v}
 |none=>s
def obj(s:AState)(r:Nat):Option AObj:=if r<s.b then s.H[r]? else s.L[r-s.b]?
def setObj(s:AState)(r:Nat)(x:AObj):AState:=
 if r<s.b then {s with H:=s.H.set r x}else {s with L:=s.L.set (r-s.b) x}
def new(s:AState)(x:AObj):AState:= {s with L:=s.L++ [x]}
def ev(s:AState):Operand->AV
 | .tmp t=>s.env t
 | .const v=>zQ4 v
 | .global _=> .any
 | .func f=> .fn f
end AState
def zVf:List AV->Nat->List AV->List AV
 |cs,_,[]=>cs
 |cs,o,v::vs=>zVf (cs.set o v) (o+1) vs
def zTS:AV->List AV->AV
 | .agg _,cs=> .agg cs
 |_,cs=>cs.headD .any
structure Out where
 c:Prop
 v:AV
 s:AState
def zEN(s:AState):AV->Option (List AV×Nat×Prop)
 | .eptr e off=>some (e,off,True)
 | .bptr r off=>match s.obj r with
  |some (.box cs)=>some (cs,off,True)
  |_=>none
 | .aptr r ver size i off=>match s.obj r with
  |some (.arr v' sz es)=>some (cellsOf (es.getD i .any),off,v'=ver/\sz=size/\i<es.length)
  |_=>none
 |_=>none
def zRw(l:TL)(cs:List AV)(off:Nat):Prop×AV:=
 if l.d.isAgg then(off+l.size<=cs.length,.agg ((cs.drop off).take l.size))else(off<cs.length,cs.getD off .any)
def shift(o:Nat):AV->Option AV
 | .eptr e off=>some (.eptr e (off+o))
 | .bptr r off=>some (.bptr r (off+o))
 | .aptr r ver size i off=>some (.aptr r ver size i (off+o))
 |_=>none
def zBL(op:BinOp)(k:IntKind)(a b:Int):Option (Prop×AV):=
 match op with
 | .add=>some (True,.int k (k.wrap (a+b)))
 | .sub=>some (True,.int k (k.wrap (a-b)))
 | .mul=>some (True,.int k (k.wrap (a*b)))
 | .quo=>some (b≠0,.int k (k.wrap (a.tdiv b)))
 | .rem=>some (b≠0,.int k (a.tmod b))
 | .eql=>some (True,.bool (a==b))
 | .neq=>some (True,.bool (a !=b))
 | .lss=>some (True,.bool (decide (a<b)))
 | .leq=>some (True,.bool (decide (a<=b)))
 | .gtr=>some (True,.bool (decide (a>b)))
 | .geq=>some (True,.bool (decide (a≥b)))
 |_=>none
def zBM:BinOp->List AV->List AV->Option (Prop×AV)
 | .eql,[.int .i64 a,.int .i64 b],[.int .i64 a',.int .i64 b']=>some (True,.bool (a==a'&&b==b'))
 |_,_,_=>none
def zln:BinOp->List AV->List AV->Option (Prop×AV)
 | .eql,[.int .i64 a,.int .i64 b,.int .i64 c,.int .i64 d,.int .i64 e,.str t],[.int .i64 a',.int .i64 b',.int .i64 c',.int .i64 d',.int .i64 e',.str t']=>
  some (True,.bool (((((a==a'&&b==b')&&c==c')&&d==d')&&e==e')&&t==t'))
 |_,_,_=>none
def abin(d:TD)(q:Nat)(op:BinOp):AV->AV->Option (Prop×AV)
 | .int k a,.int k' b=>if k=k' then zBL op k a b else none
 | .bool a,.bool b=>match d,op with
  | .bool,.eql=>some (True,.bool (a==b))
  | .bool,.neq=>some (True,.bool (!(a==b)))
  |_,_=>none
 | .str a,.str b=>match op with
  | .eql=>some (True,.bool (a.toList==b.toList))
  | .neq=>some (True,.bool (!(a.toList==b.toList)))
  | .add=>some (a.size+b.size<=maxLen,.str (a++b))
  |_=>none
 | .agg as,.agg bs=>if q=1 then zBM op as bs else if q=2 then zln op as bs else none
 | .sl (_::_) _,.sl [] .full=>match d,op with
  | .sl _,.eql=>some (True,.bool false)
  | .sl _,.neq=>some (True,.bool true)
  |_,_=>none
 | .bptr _ _,.nilp=>match d,op with
  | .ptr,.eql=>some (True,.bool false)
  | .ptr,.neq=>some (True,.bool true)
  |_,_=>none
 |_,_=>none
def zHU(place:Nat->Option (Nat×Nat)):List (Nat×AV)->List AV->Option (Prop×List AV)
 | [],cs=>some (True,cs)
 |(i,v)::rest,cs=>
  match place i with
  |none=>none
  |some (off,size)=>
   match zHU place rest (zVf cs off (cellsOf v))with
   |none=>none
   |some (c,out)=>some ((v.solid=true/\(cellsOf v).length=size/\off+size<=cs.length)/\c,out)
def zSb(C:Cfg)(fs:List (Nat×Nat))(i:Nat):Option (Nat×Nat):=
 match fs[i]? with
 |some (o,ft)=>match C.ty ft with
  |some l=>some (o,l.size)
  |none=>none
 |none=>none
def zHV(size:Nat):List (Nat×AV)->List AV->Prop×List AV
 | [],es=>(True,es)
 |(i,v)::rest,es=>((v.solid=true/\(cellsOf v).length=size/\i<es.length)/\(zHV size rest (es.set i v)).1,(zHV size rest (es.set i v)).2)
def zGG(s:AState):AV->Option (List AV×Prop)
 | .sl es _=>some (es,True)
 | .ms r ver len=>match s.obj r with
  |some (.arr v' _ es)=>some (es.take len,v'=ver/\len<=es.length)
  |_=>none
 |_=>none
def zMS:TD->AV->AV->Option Bool
 | .int _,.int k a,.int k' b=>if k=k' then some (a==b)else none
 | .str,.str a,.str b=>some (a==b)
 |_,_,_=>none
def zHd(d:TD)(k:AV):List (AV×AV)->Nat->Option (Option (Nat×AV))
 | [],_=>some none
 |e::es,i=>match zMS d k e.1 with
  |some true=>some (some (i,e.2))
  |some false=>zHd d k es (i+1)
  |none=>none
def zMT:TD->AV->Bool
 | .int _,.int _ _=>true
 | .str,.str _=>true
 |_,_=>false
def zHw(z:AV):Option (Nat×AV)->AV
 |some (_,v)=>v
 |none=>z
def zOk(es:List (AV×AV))(f:Option (Nat×AV))(k x:AV):List (AV×AV):=
 match f with
 |some (i,_)=>es.set i (k,x)
 |none=>es++ [(k,x)]
def zD2(s:ByteArray)(i:Nat):Nat:=match s[i]? with|some b=>b.toNat|none=>0
def zD4:Nat:=140737488355328
def zF2(C:Cfg)(inpl:Bool)(t:Nat)(s:AState)(a x:AV):Option Out:=
 match C.ty t with
 |some {d:= .sl e,..}=>match C.ty e,zGG s x with
  |some le,some (xs,cx)=>match a with
   | .sl es tk=>match tk with
    | .own r=>match s.obj r with
     |some (.tok n size)=>some ⟨cx/\n=es.length/\size=le.size/\es.length+xs.length<=maxLen/\(es.length+xs.length)*le.bytes<=zD4/\(∀y∈es,(cellsOf y).length=le.size)/\(∀y∈xs,y.solid=true/\(cellsOf y).length=le.size),
      .sl (es++xs) (.own r),s.setObj r (.tok (es.length+xs.length) size)⟩
     |_=>none
    | .full=>match xs with
     | []=>some ⟨cx,.sl es .full,s⟩
     |x0::xs0=>
      if inpl then some ⟨cx/\es.length+(x0::xs0).length<=maxLen/\(es.length+(x0::xs0).length)*le.bytes<=zD4/\(∀y∈es,(cellsOf y).length=le.size)/\(∀y∈x0::xs0,y.solid=true/\(cellsOf y).length=le.size),
       .ms (s.b+s.L.length) 0 (es.length+(x0::xs0).length),s.new (.arr 0 le.size (es++x0::xs0))⟩
      else some ⟨cx/\es.length+(x0::xs0).length<=maxLen/\(es.length+(x0::xs0).length)*le.bytes<=zD4/\(∀y∈es,(cellsOf y).length=le.size)/\(∀y∈x0::xs0,y.solid=true/\(cellsOf y).length=le.size),
       .sl (es++x0::xs0) (.own (s.b+s.L.length)),s.new (.tok (es.length+(x0::xs0).length) le.size)⟩
    | .cap=>match xs with
     | []=>some ⟨cx,.sl es .cap,s⟩
     |x0::xs0=>
      if inpl then some ⟨cx/\es.length+(x0::xs0).length<=maxLen/\(es.length+(x0::xs0).length)*le.bytes<=zD4/\(∀y∈es,(cellsOf y).length=le.size)/\(∀y∈x0::xs0,y.solid=true/\(cellsOf y).length=le.size),
       .ms (s.b+s.L.length) 0 (es.length+(x0::xs0).length),s.new (.arr 0 le.size (es++x0::xs0))⟩
      else some ⟨cx/\es.length+(x0::xs0).length<=maxLen/\(es.length+(x0::xs0).length)*le.bytes<=zD4/\(∀y∈es,(cellsOf y).length=le.size)/\(∀y∈x0::xs0,y.solid=true/\(cellsOf y).length=le.size),
       .sl (es++x0::xs0) (.own (s.b+s.L.length)),s.new (.tok (es.length+(x0::xs0).length) le.size)⟩
    | .no=>none
   | .ms r ver len=>match s.obj r with
    |some (.arr v' size es)=>some ⟨cx/\v'=ver/\len<=es.length/\size=le.size/\len+xs.length<=maxLen/\(len+xs.length)*le.bytes<=zD4/\(∀y∈xs,y.solid=true/\(cellsOf y).length=le.size)/\(r<s.b->AV.belL s.b xs=true),
     .ms r (ver+1) (len+xs.length),s.setObj r (.arr (ver+1) size (es.take len++xs))⟩
    |_=>none
   |_=>none
  |_,_=>none
 |_=>none
def ints:List AV->Option (IntKind×List Int)
 | []=>none
 | [.int k n]=>some (k,[n])
 | .int k n::rest=>match ints rest with
  |some (k',ns)=>if k=k' then some (k,n::ns)else none
  |none=>none
 |_=>none
def zF5(C:Cfg)(inpl:Bool)(s:AState)(b:Builtin)(ts:List Nat)(args:List AV):Option Out:=
 match b,ts,args with
 | .len,[t],[.sl es _]=>match C.ty t with
  |some {d:= .sl _,..}=>some ⟨True,.int .i64 es.length,s⟩
  |_=>none
 | .len,[t],[.ms _ _ n]=>match C.ty t with
  |some {d:= .sl _,..}=>some ⟨True,.int .i64 n,s⟩
  |_=>none
 | .len,[t],[.str x]=>match C.ty t with
  |some {d:= .str,..}=>some ⟨True,.int .i64 x.size,s⟩
  |_=>none
 | .len,[t],[.mp r]=>match C.ty t,s.obj r with
  |some {d:= .map _ _,..},some (.map es)=>some ⟨es.length<=maxLen,.int .i64 es.length,s⟩
  |_,_=>none
 | .append,[t,t'],[a,x]=>if t=t' then zF2 C inpl t s a x else none
 | .max,_,[.int k a,.int k' b]=>if k=k' then some ⟨True,.int k (if b>a then b else a),s⟩else none
 | .min,_,[.int k a,.int k' b]=>if k=k' then some ⟨True,.int k (if b<a then b else a),s⟩else none
 |_,_,_=>none
def zRo:Option AV->Int->Option Int
 |none,d=>some d
 |some (.int _ n),_=>some n
 |some _,_=>none
def zF9(size:Nat)(x:AV)(lo hi mx:Option AV)(s:AState):Option Out:=
 match x with
 | .sl es _=>match mx with
  |none=>match zRo lo 0,zRo hi es.length with
   |some l,some h=>some ⟨0<=l/\l<=h/\h<=es.length/\(∀y∈es,(cellsOf y).length=size),.sl ((es.take h.toNat).drop l.toNat) .no,s⟩
   |_,_=>none
  |some (.int _ m)=>match zRo lo 0,zRo hi es.length with
   |some l,some h=>some ⟨0<=l/\l=h/\h=m/\h<=es.length/\hi.isSome=true,.sl [] .cap,s⟩
   |_,_=>none
  |_=>none
 | .ms r ver len=>match lo,hi,mx with
  |none,some (.int _ h),none=>some ⟨0<=h/\h<=len,.ms r ver h.toNat,s⟩
  |_,_,_=>none
 |_=>none
def zGB(x:AV)(lo hi mx:Option AV)(s:AState):Option Out:=
 match x,mx with
 | .str b,none=>match zRo lo 0,zRo hi b.size with
  |some l,some h=>some ⟨0<=l/\l<=h/\h<=b.size,.str (b.extract l.toNat h.toNat),s⟩
  |_,_=>none
 |_,_=>none
def zLl(C:Cfg)(o:Oper):Bool:=match o.dst with|some d=>C.inpl d|none=>false
def eff(C:Cfg)(o:Oper)(s:AState):Option Out:=
 match o.op with
 | .move x=>some ⟨True,s.ev x,s⟩
 | .assign x=>some ⟨True,s.ev x,s⟩
 | .pick c a b=>match s.ev c with
  | .bool t=>some ⟨True,if t then s.ev a else s.ev b,s⟩
  |_=>none
 | .alloc t=>match C.ty t with
  |some l=>some ⟨True,.bptr (s.b+s.L.length) 0,s.new (.box (cellsOf l.zero))⟩
  |none=>none
 | .box _ x=>some ⟨(s.ev x).solid=true,.bptr (s.b+s.L.length) 0,s.new (.box (cellsOf (s.ev x)))⟩
 | .load t a=>match C.ty t,zEN s (s.ev a)with
  |some l,some (cs,off,c)=>some ⟨c/\(zRw l cs off).1,(zRw l cs off).2,s⟩
  |_,_=>none
 | .store t a x=>match C.ty t with
  |some l=>match s.ev a with
   | .bptr r off=>match s.obj r with
    |some (.box cs)=>some ⟨(s.ev x).solid=true/\(cellsOf (s.ev x)).length=l.size/\off+l.size<=cs.length/\(r<s.b->(s.ev x).bel s.b=true),.any,
     s.setObj r (.box (zVf cs off (cellsOf (s.ev x))))⟩
    |_=>none
   | .aptr r ver size i off=>match s.obj r with
    |some (.arr v' sz es)=>some ⟨(s.ev x).solid=true/\(cellsOf (s.ev x)).length=l.size/\off+l.size<=size/\v'=ver/\sz=size/\i<es.length/\(r<s.b->(s.ev x).bel s.b=true),.any,
     s.setObj r (.arr v' sz (es.set i (zTS (es.getD i .any) (zVf (cellsOf (es.getD i .any)) off (cellsOf (s.ev x))))))⟩
    |_=>none
   |_=>none
  |none=>none
 | .nilCheck x=>match s.ev x with
  | .bptr r o=>some ⟨True,.bptr r o,s⟩
  | .eptr e o=>some ⟨True,.eptr e o,s⟩
  | .aptr r v z i o=>some ⟨True,.aptr r v z i o,s⟩
  |_=>none
 | .binOp op t x y _=>match C.ty t with
  |some l=>match abin l.d l.two op (s.ev x) (s.ev y)with
   |some (c,v)=>some ⟨c,v,s⟩
   |none=>none
  |none=>none
 | .unOp op _ x=>match op,s.ev x with
  | .not,.bool t=>some ⟨True,.bool (!t),s⟩
  | .neg,.int k n=>some ⟨True,.int k (k.wrap (0-n)),s⟩
  |_,_=>none
 | .convert src dst x=>match C.ty src,C.ty dst,s.ev x with
  |some _,some {d:= .int k,..},.int _ n=>some ⟨True,.int k (k.wrap n),s⟩
  |_,_,_=>none
 | .fieldAddr t x f=>match C.ty t with
  |some {d:= .st fs,..}=>match fs[f]? with
   |some (o,ft)=>match C.ty ft,shift o (s.ev x)with
    |some _,some v=>some ⟨True,v,s⟩
    |_,_=>none
   |none=>none
  |_=>none
 | .field t x f=>match C.ty t with
  |some {d:= .st fs,..}=>match fs[f]?,s.ev x with
   |some (o,ft),.agg cs=>match C.ty ft with
    |some lf=>some ⟨(zRw lf cs o).1,(zRw lf cs o).2,s⟩
    |none=>none
   |_,_=>none
  |_=>none
 | .indexAddr t x i=>match C.ty t with
  |some {d:= .sl e,..}=>match C.ty e,s.ev x,s.ev i with
   |some le,.sl es _,.int _ i=>some ⟨0<=i/\i<es.length/\(cellsOf (es.getD i.toNat .any)).length=le.size,.eptr (cellsOf (es.getD i.toNat .any)) 0,s⟩
   |some le,.ms r ver len,.int _ i=>some ⟨0<=i/\i<len,.aptr r ver le.size i.toNat 0,s⟩
   |_,_,_=>none
  |some {d:= .arr n e,..}=>match C.ty e,s.ev i with
   |some le,.int _ i=>match shift (i.toNat*le.size) (s.ev x)with
    |some v=>some ⟨0<=i/\i<n,v,s⟩
    |none=>none
   |_,_=>none
  |_=>none
 | .index t x i=>match C.ty t with
  |some {d:= .arr n e,..}=>match C.ty e,s.ev x,s.ev i with
   |some le,.agg cs,.int _ i=>some ⟨0<=i/\i<n/\(zRw le cs (i.toNat*le.size)).1,(zRw le cs (i.toNat*le.size)).2,s⟩
   |_,_,_=>none
  |some {d:= .str,..}=>match s.ev x,s.ev i with
   | .str b,.int _ i=>some ⟨0<=i/\i<b.size,.int .u8 (zD2 b i.toNat),s⟩
   |_,_=>none
  |_=>none
 | .build t parts=>match C.ty t with
  |some {d:= .st fs,zero:=z,..}=>
   match zHU (zSb C fs) (parts.toList.map fun p=>(p.1,s.ev p.2)) (cellsOf z)with
   |some (c,cs)=>some ⟨c/\(∀p∈fs,(C.ty p.2).isSome=true),.agg cs,s⟩
   |none=>none
  |some {d:= .arr _ e,zero:=z,..}=>match C.ty e with
   |some le=>match zHU (fun i=>some (i*le.size,le.size)) (parts.toList.map fun p=>(p.1,s.ev p.2)) (cellsOf z)with
    |some (c,cs)=>some ⟨c,.agg cs,s⟩
    |none=>none
   |none=>none
  |_=>none
 | .buildSlice t len parts=>match C.ty t with
  |some {d:= .sl e,..}=>match C.ty e with
   |some le=>
    let r:=zHV le.size (parts.toList.map fun p=>(p.1,s.ev p.2)) (List.replicate len le.zero)
    if zLl C o then some ⟨r.1/\len*le.size<=2 ^ 24,.ms (s.b+s.L.length) 0 len,s.new (.arr 0 le.size r.2)⟩
    else some ⟨r.1/\len*le.size<=2 ^ 24,.sl r.2 .cap,s⟩
   |none=>none
  |_=>none
 | .makeSlice t n c=>match C.ty t,s.ev n,s.ev c with
  |some {d:= .sl e,..},.int .i64 n,.int .i64 c=>match C.ty e with
   |some le=>
    if zLl C o then some ⟨0<=n/\n=c/\n*le.bytes<=zD4,.ms (s.b+s.L.length) 0 n.toNat,s.new (.arr 0 le.size (List.replicate n.toNat le.zero))⟩
    else some ⟨0<=n/\n=c/\n*le.bytes<=zD4,.sl (List.replicate n.toNat le.zero) .cap,s⟩
   |none=>none
  |_,_,_=>none
 | .slice t x lo hi mx=>match C.ty t with
  |some {d:= .sl e,..}=>match C.ty e with
   |some le=>zF9 le.size (s.ev x) (lo.map s.ev) (hi.map s.ev) (mx.map s.ev) s
   |none=>none
  |some {d:= .str,..}=>zGB (s.ev x) (lo.map s.ev) (hi.map s.ev) (mx.map s.ev) s
  |_=>none
 | .extract x i=>match s.ev x with
  | .tup vs=>some ⟨i<vs.length,vs.getD i .any,s⟩
  |_=>none
 | .makeMap _ none=>some ⟨True,.mp (s.b+s.L.length),s.new (.map [])⟩
 | .lookup t m k ok=>match C.ty t with
  |some {d:= .map kt vt,..}=>match C.ty kt,C.ty vt,s.ev m with
   |some lk,some lv,.mp r=>match s.obj r with
    |some (.map es)=>match zHd lk.d (s.ev k) es 0 with
     |some f=>some ⟨zMT lk.d (s.ev k)=true,if ok then .tup [zHw lv.zero f,.bool f.isSome]else zHw lv.zero f,s⟩
     |none=>none
    |_=>none
   |_,_,_=>none
  |_=>none
 | .mapUpdate t m k x=>match C.ty t with
  |some {d:= .map kt _,..}=>match C.ty kt,s.ev m with
   |some lk,.mp r=>match s.obj r with
    |some (.map es)=>match zHd lk.d (s.ev k) es 0 with
     |some f=>some ⟨zMT lk.d (s.ev k)=true/\(r<s.b->(s.ev k).bel s.b=true/\(s.ev x).norm.bel s.b=true),.any,
      s.setObj r (.map (zOk es f (s.ev k) (s.ev x).norm))⟩
     |none=>none
    |_=>none
   |_,_=>none
  |_=>none
 | .call {callee:= .builtin b,args:=args,argTypes:=ts}=>zF5 C (zLl C o) s b ts.toList (args.toList.map s.ev)
 | .makeFunc (.func g) first cap=>if first.isEmpty then some ⟨True,.clo g (cap.toList.map s.ev),s⟩else none
 |_=>none
structure Rel (V:View) (a:Act) (w:World) (s:AState):Prop where
 hb:s.b=s.H.length
 bel:∀x∈s.H,x.bel s.b=true
 inv:Inv V s.obj w
 size:a.tmps.size=s.n
 defers:a.defers=[]
 env:∀t,Rep V (a.tmps.getD t undef) (s.env t)
def AWp(P:Program)(c:Code)(Q:Exit->AState->Prop)(s:AState):Prop:=
 ∀V a w,Rel V a w s->c.wp P (fun e a' w'=>∃V' s',V.LeB s.b V'/\Below V.base w w'/\Rel V' a' w' s'/\s'.n=s.n/\s'.b=s.b/\Q e s') a w
def FnOK(P:Program)(f:Nat):Prop:=∃fn,P.funcs[f]?=some fn∧fn.body.isSome=true∧(fn.name== "runtime.NumGoroutine")=false
def zLC(H:List AObj)(r:Nat):Option AObj:=H[r]?
def zAA(P:Program)(f:FuncId)(args:List AV)(H:List AObj)(R:AV->List AObj->Prop):Prop:=
 FnOK P f/\∀V w vs,Inv V (zLC H) w->(∀x∈H,x.bel H.length=true)->vs.size=args.length->(∀i,i<args.length->Rep V (vs.getD i undef) (args.getD i .any))->
  Calls P f vs w fun e w'=>∃V' v r H',V.Le V'/\Below V.base w w'/\e= .returned v/\Rep V' v r/\Inv V' (zLC H') w'/\H.length<=H'.length/\R r H'
def zA0(P:Program)(f:FuncId)(args:List AV)(r:AV):Prop:=
 r.bel 0=true/\∀H,zAA P f args H fun r' H'=>r'=r/\H'=H
def zAa(P:Program)(f:FuncId)(args:List AV)(s:AState)(K:AV->AState->Prop):Prop:=
 FnOK P f/\∀V w vs,s.b=s.H.length->Inv V s.obj w->(∀x∈s.H,x.bel s.b=true)->vs.size=args.length->(∀i,i<args.length->Rep V (vs.getD i undef) (args.getD i .any))->
  Calls P f vs w fun e w'=>∃V' v r s',V.Le V'/\Below V.base w w'/\e= .returned v/\Rep V' v r/\Inv V' s'.obj w'/\(∀x∈s'.H,x.bel s'.b=true)/\s'.b=s'.H.length/\
   s'.env=s.env/\s'.n=s.n/\s'.b=s.b/\K r s'
def xop(P:Program)(C:Cfg)(o:Oper)(K:AState->Prop)(s:AState):Prop:=
 match o.op with
 | .call {callee:= .value f,args:=args,..}=>match s.ev f with
  | .fn g=>zAa P g (args.toList.map s.ev) s fun r s'=>K (s'.put o.dst r)
  |_=>False
 |_=>match eff C o s with
  |some ⟨c,v,s'⟩=>c/\K (s'.put o.dst v)
  |none=>False
def guardOf(ops:Array Oper)(o:Oper):Option (Option Tmp×Bool):=o.guard.map fun g=>((ops[g.1]?).bind (·.dst),g.2)
def xguard(P:Program)(C:Cfg)(ops:Array Oper)(o:Oper)(K:AState->Prop)(s:AState):Prop:=
 match guardOf ops o with
 |none=>xop P C o K s
 |some (some t,want)=>match s.env t with
  | .bool b=>if b=want then xop P C o K s else K (s.put o.dst (.tup []))
  | .tup []=>K (s.put o.dst (.tup []))
  |_=>False
 |some (none,_)=>False
def xops(P:Program)(C:Cfg)(ops:Array Oper):List Oper->(AState->Prop)->AState->Prop
 | [],K,s=>K s
 |o::rest,K,s=>xguard P C ops o (xops P C ops rest K) s
end Go.Ab
/- The executor's states: how objects are read and written. No condition. -/
set_option linter.unusedSimpArgs false
namespace Go.Ab
open Go.RowKit (Below)
theorem addr_add(b o j:Nat):(⟨b,o,none⟩:Addr).add j=⟨b,o+j,none⟩:=by unfold Addr.add;split<;>simp_all
/- Lists of values, place by place. -/
def RepL(V:View)(vs:List Value)(as:List AV):Prop:=vs.length=as.length/\∀i,i<as.length->Rep V (vs.getD i undef) (as.getD i .any)
theorem RepL.mono{V V':View}(hV:V.Le V'){vs:List Value}{as:List AV}(h:RepL V vs as):RepL V' vs as:=⟨h.1,fun i hi=>(h.2 i hi).mono hV⟩
theorem RepL.nil(V:View):RepL V [] []:=⟨rfl,fun i hi=>absurd hi (by simp)⟩
theorem RepL.cons{V:View}{v:Value}{a:AV}{vs:List Value}{as:List AV}(h:Rep V v a)(hs:RepL V vs as):RepL V (v::vs) (a::as):=by
 refine⟨by simp[hs.1],fun i hi=> ?_⟩
 cases i with
 |zero=>exact h
 |succ i=>exact hs.2 i (by simpa using hi)
theorem RepL.append{V:View}{vs ws:List Value}{as bs:List AV}(h:RepL V vs as)(k:RepL V ws bs):RepL V (vs++ws) (as++bs):=by
 refine⟨by simp[h.1,k.1],fun i hi=> ?_⟩
 by_cases hlt:i<as.length
 ·rw[zIX _ _ _ hlt,zIX _ _ _ (by rw[h.1];exact hlt)]
  exact h.2 i hlt
 ·have hl:=h.1
  rw[zIY _ _ _ (by omega),zIY as _ _ (by omega),h.1]
  exact k.2 _ (by simp at hi;omega)
theorem RepL.take{V:View}{vs:List Value}{as:List AV}(h:RepL V vs as)(n:Nat):RepL V (vs.take n) (as.take n):=by
 refine⟨by simp[h.1],fun i hi=> ?_⟩
 simp only[List.length_take]at hi
 have h1:=h.2 i (by omega)
 simpa [List.getD_eq_getElem?_getD,List.getElem?_take,show i<n by omega]using h1
theorem RepL.drop{V:View}{vs:List Value}{as:List AV}(h:RepL V vs as)(n:Nat):RepL V (vs.drop n) (as.drop n):=by
 refine⟨by simp[h.1],fun i hi=> ?_⟩
 simp only[List.length_drop]at hi
 have h1:=h.2 (n+i) (by omega)
 simpa [List.getD_eq_getElem?_getD,List.getElem?_drop]using h1
theorem RepL.zQ9{V:View}{vs:List Value}{as:List AV}(hl:vs.length=as.length)(h:∀(i:Nat) (v:Value) (a:AV),vs[i]?=some v->as[i]?=some a->Rep V v a):RepL V vs as:=by
 refine⟨hl,fun i hi=>h i _ _ ?_ ?_⟩
 ·simp[List.getD_eq_getElem?_getD,List.getElem?_eq_getElem (show i<vs.length by omega)]
 ·simp[List.getD_eq_getElem?_getD,List.getElem?_eq_getElem hi]
theorem RepL.get{V:View}{vs:List Value}{as:List AV}(h:RepL V vs as){i:Nat}{v:Value}{a:AV}(hv:vs[i]?=some v)(ha:as[i]?=some a):Rep V v a:=by
 have hi:i<as.length:=(List.getElem?_eq_some_iff.1 ha).1
 have h1:=h.2 i hi
 simpa [List.getD_eq_getElem?_getD,hv,ha]using h1
theorem RepL.agg{V:View}{cs:Array Value}{as:List AV}(h:RepL V cs.toList as):Rep V (.agg cs) (.agg as):=
 .agg cs as (by simpa using h.1) (fun i hi=>by have:=h.2 i hi;simpa [List.getD_eq_getElem?_getD,Array.getD_eq_getD_getElem?]using this)
theorem RepL.zQ8{V:View}{v:Value}{as:List AV}(h:Rep V v (.agg as)):∃cs,v= .agg cs/\RepL V cs.toList as:=by
 cases h with
 |agg cs _ hl h=>exact⟨cs,rfl,by simpa using hl,fun i hi=>by have:=h i hi;simpa [List.getD_eq_getElem?_getD,Array.getD_eq_getD_getElem?]using this⟩
theorem RepL.zRD{V:View}{v:Value}{as:List AV}(h:Rep V v (.tup as)):∃cs,v= .tuple cs/\RepL V cs.toList as:=by
 cases h with
 |tup cs _ hl h=>exact⟨cs,rfl,by simpa using hl,fun i hi=>by have:=h i hi;simpa [List.getD_eq_getElem?_getD,Array.getD_eq_getD_getElem?]using this⟩
theorem RepL.tup{V:View}{cs:Array Value}{as:List AV}(h:RepL V cs.toList as):Rep V (.tuple cs) (.tup as):=
 .tup cs as (by simpa using h.1) (fun i hi=>by have:=h.2 i hi;simpa [List.getD_eq_getElem?_getD,Array.getD_eq_getD_getElem?]using this)
theorem Rep.zEQ{V:View}{v:Value}{a:AV}(h:Rep V v a)(hs:a.solid=true):RepL V v.cells.toList (cellsOf a):=by
 obtain⟨h1,h2⟩:=h.cells hs
 exact⟨by simpa using h1,fun i hi=>by have:=h2 i hi;simpa [List.getD_eq_getElem?_getD,Array.getD_eq_getD_getElem?]using this⟩
theorem RepL.zRX{V:View}{v:Value}{a:AV}(h:Rep V v a)(hs:a.solid=true):∀u∈v.cells.toList,u.oneCell'=true:=by
 intro u hu
 obtain⟨i,hi,rfl⟩:=List.mem_iff_getElem.1 hu
 have hl:=h.zEQ hs
 have h1:i<(cellsOf a).length:=by rw[<-hl.1];exact hi
 have:=hl.2 i h1
 rw[getD_lt _ hi]at this
 exact this.oneCell (AV.zWz hs i h1)
theorem zVi(vs:List AV):∀(cs:List AV) (o:Nat),(zVf cs o vs).length=cs.length:=by
 induction vs with
 |nil=>intro cs o;rfl
 |cons v vs ih=>intro cs o;rw[zVf,ih];simp
theorem zVh(vs:List AV):∀(cs:List AV) (o i:Nat),o+vs.length<=cs.length->
 (zVf cs o vs)[i]?=if i<o then cs[i]? else if i<o+vs.length then vs[i-o]? else cs[i]?:=by
 induction vs with
 |nil=>intro cs o i _;simp only[zVf,List.length_nil,Nat.add_zero];split<;>rfl
 |cons v vs ih=>
  intro cs o i h
  simp only[List.length_cons]at h
  rw[zVf,ih _ _ _ (by simp;omega)]
  simp only[List.length_cons,List.getElem?_set]
  by_cases h1:i<o
  ·rw[if_pos (show i<o+1 by omega),if_pos h1,if_neg (show¬o=i by omega)]
  ·by_cases h2:i=o
   ·subst h2
    rw[if_pos (show i<i+1 by omega),if_pos rfl,if_pos (show i<cs.length by omega),if_neg h1,if_pos (show i<i+(vs.length+1)by omega)]
    simp
   ·rw[if_neg (show¬i<o+1 by omega),if_neg h1,if_neg (show¬o=i by omega)]
    by_cases h3:i<o+1+vs.length
    ·rw[if_pos h3,if_pos (show i<o+(vs.length+1)by omega),show i-o=(i-(o+1))+1 by omega]
     simp
    ·rw[if_neg h3,if_neg (show¬i<o+(vs.length+1)by omega)]
theorem zVg(vs cs:List AV)(o:Nat)(h:o+vs.length<=cs.length):zVf cs o vs=cs.take o++vs++cs.drop (o+vs.length):=by
 apply List.ext_getElem?
 intro i
 rw[zVh vs cs o i h]
 simp only[List.getElem?_append,List.getElem?_take,List.getElem?_drop,List.length_append,List.length_take]
 rw[show min o cs.length=o by omega]
 by_cases h1:i<o
 ·rw[if_pos h1,if_pos (show i<o+vs.length by omega),if_pos h1,if_pos h1]
 ·rw[if_neg h1]
  by_cases h2:i<o+vs.length
  ·rw[if_pos h2,if_pos h2,if_neg h1]
  ·rw[if_neg h2,if_neg h2]
   congr 1
   omega
theorem zDV(m:Nat):∀l:List AV,AV.belL m l=true ↔ ∀x∈l,x.bel m=true
 | []=>by simp[AV.belL]
 |a::as=>by simp[AV.belL,zDV m as]
theorem zPH{x:AV}:∀(vs cs:List AV) (o:Nat),x∈zVf cs o vs->x∈cs\/x∈vs
 | [],cs,o,h=> .inl h
 |v::vs,cs,o,h=>by
  rcases zPH vs _ _ h with h|h
  ·rcases List.mem_or_eq_of_mem_set h with h|h
   ·exact .inl h
   ·exact .inr (by simp[h])
  ·exact .inr (by simp[h])
theorem zDX{m:Nat}{cs vs:List AV}(o:Nat)(h:AV.belL m cs=true)(k:AV.belL m vs=true):AV.belL m (zVf cs o vs)=true:=by
 rw[zDV]at*
 intro x hx
 rcases zPH _ _ _ hx with h1|h1
 ·exact h x h1
 ·exact k x h1
theorem zET{m:Nat}{a:AV}(h:a.bel m=true):AV.belL m (cellsOf a)=true:=by
 cases a<;>first|exact h|(simp only[cellsOf,AV.belL,Bool.and_true];exact h)
/- Objects of a state. -/
structure RelW (V:View) (w:World) (s:AState):Prop where
 hb:s.b=s.H.length
 bel:∀x∈s.H,x.bel s.b=true
 inv:Inv V s.obj w
theorem Rel.toW{V:View}{a:Act}{w:World}{s:AState}(h:Rel V a w s):RelW V w s:=⟨h.hb,h.bel,h.inv⟩
theorem RelW.drew{V:View}{w:World}{s:AState}(h:RelW V w s):RelW V w.drew s:=⟨h.hb,h.bel,h.inv.drew⟩
theorem zQ0{s:AState}(hb:s.b=s.H.length){r:Nat}{x x':AObj}(hr:s.obj r=some x):
 (s.setObj r x').obj=fun q=>if q=r then some x' else s.obj q:=by
 funext q
 unfold AState.setObj AState.obj at*
 by_cases h1:r<s.b
 ·simp only[h1,if_true]at hr⊢
  have hlt:r<s.H.length:=by omega
  by_cases hq:q=r
  ·subst hq;simp[h1,hlt]
  ·by_cases h2:q<s.b
   ·simp[h2,hq,List.getElem?_set,Ne.symm hq]
   ·simp[h2,hq]
 ·simp only[h1,if_false]at hr⊢
  have hlt:r-s.b<s.L.length:=(List.getElem?_eq_some_iff.1 hr).1
  by_cases hq:q=r
  ·subst hq;simp[h1,hlt]
  ·by_cases h2:q<s.b
   ·simp[h2,hq]
   ·have:¬r-s.b=q-s.b:=by omega
    simp[h2,hq,List.getElem?_set,this]
theorem zVX(s:AState)(r:Nat)(x:AObj):(s.setObj r x).b=s.b:=by unfold AState.setObj;split<;>rfl
theorem zVZ(s:AState)(r:Nat)(x:AObj):(s.setObj r x).env=s.env:=by unfold AState.setObj;split<;>rfl
theorem zVe(s:AState)(r:Nat)(x:AObj):(s.setObj r x).n=s.n:=by unfold AState.setObj;split<;>rfl
theorem RelW.setObj{V V':View}{w w':World}{s:AState}(h:RelW V w s){r:Nat}{x x':AObj}(hr:s.obj r=some x)
 (hi:Inv V' (fun q=>if q=r then some x' else s.obj q) w') (hx:r<s.b->x'.bel s.b=true):RelW V' w' (s.setObj r x'):=by
 refine⟨?_,?_,by rw[zQ0 h.hb hr];exact hi⟩
 ·unfold AState.setObj;split
  ·simp[h.hb]
  ·exact h.hb
 ·rw[zVX]
  unfold AState.setObj
  split
  ·rename_i hlt
   intro y hy
   simp only at hy
   rcases List.mem_or_eq_of_mem_set hy with hy|hy
   ·exact h.bel y hy
   ·subst hy;exact hx hlt
  ·exact h.bel
theorem zQz(s:AState):s.obj (s.b+s.L.length)=none:=by
 unfold AState.obj;rw[if_neg (by omega)];simp
theorem zQy(s:AState)(x:AObj):(s.new x).obj=fun q=>if q=s.b+s.L.length then some x else s.obj q:=by
 funext q
 unfold AState.new AState.obj
 by_cases hq:q=s.b+s.L.length
 ·subst hq;simp only[if_true];rw[if_neg (by omega)];simp
 ·by_cases h1:q<s.b
  ·simp[h1,hq]
  ·have:¬q-s.b=s.L.length:=by omega
   simp only[h1,if_false,hq]
   rw[List.getElem?_append]
   by_cases h2:q-s.b<s.L.length
   ·simp[h2]
   ·have h3:q-s.b-s.L.length≠0:=by omega
    simp[h2]
    omega
theorem RelW.new{V V':View}{w w':World}{s:AState}(h:RelW V w s)(x:AObj)
 (hi:Inv V' (fun q=>if q=s.b+s.L.length then some x else s.obj q) w'):RelW V' w' (s.new x):=
 ⟨h.hb,h.bel,by rw[zQy];exact hi⟩
theorem zDe{B:Nat}(w:World)(o:Obj)(h:B<=w.heap.size):Below B w (w.alloc o):=(Below.refl B w).alloc h o
theorem below_setRow{B:Nat}(w:World)(g:Nat)(c:Array Value)(h:B<=g):Below B w (w.setRow g c):=
 ⟨rfl,rfl,rfl,by simp[World.setRow],fun k hk=>setRow_other w g k c (by omega)⟩
end Go.Ab
/- The executor's operations run as the model's do: values, loads, stores, new variables. Condition: the executor's table of types is the program's. -/
set_option linter.unusedSimpArgs false
namespace Go.Ab
open Go.RowKit (Below)
def zAe(d:TypeDesc):TD->Prop
 | .other=>(match d with| .struct _| .array _ _=>false|_=>true)=true
 | .int k=>d= .int k
 | .bool=>d= .bool
 | .str=>d= .string
 | .sl e=>d= .slice e
 | .arr n e=>d= .array n e
 | .st fs=>∃f,d= .struct f/\f.toList.map (fun x=>(x.offset,x.type))=fs
 | .map k v=>d= .map k v
 | .ptr=>∃e,d= .pointer e
def zBD(P:Program)(t:Nat):Prop:=∃f g,P.underlying t=some (.struct #[f,g])∧f.offset=0∧g.offset=1∧f.name≠ "_" ∧g.name≠ "_" ∧
 P.underlying f.type=some (.int .i64)/\P.underlying g.type=some (.int .i64)/\P.stoodInHeld t=false
def SixC(P:Program)(t:Nat):Prop:=∃f0 f1 f2 f3 f4,P.underlying t=some (.struct #[f0,f1,f2,f3,f4])/\(f0.offset=0/\f1.offset=2/\f2.offset=3/\f3.offset=4/\f4.offset=5)/\
 (f0.name≠ "_" ∧f1.name≠ "_" ∧f2.name≠ "_" ∧f3.name≠ "_" ∧f4.name≠ "_")∧zBD P f0.type∧(∃i,P.info? f0.type=some i∧i.size=2)∧
 (P.underlying f1.type=some (.int .i64)/\P.underlying f2.type=some (.int .i64)/\P.underlying f3.type=some (.int .i64)/\P.underlying f4.type=some .string)/\P.stoodInHeld t=false
structure TyOK (P:Program) (t:Nat) (l:TL):Prop where
 info:∃i z,P.info? t=some i/\i.size=l.size/\i.bytes=l.bytes/\i.zero=some z/\zaM z=true/\zQ4 z=l.zero
 desc:∃d,P.underlying t=some d/\zAe d l.d
 solid:l.zero.solid=true
 size:(cellsOf l.zero).length=l.size
 pos:0<l.size
 two:l.two=1->zBD P t
 six:l.two=2->SixC P t
def zAb(P:Program)(C:Cfg):Prop:=∀t l,C.ty t=some l->TyOK P t l
theorem zQ6(V:View){v:Value}(h:zaN v=true):Rep V v (zQ5 v):=by
 unfold zQ5
 split
 ·simp[zaN]at h;exact .int _ _ h.1 h.2
 ·exact .bool _
 ·simp[zaN]at h;exact .str _ h
 ·exact .nilp
 ·exact .sl none 0 0 [] .full 0 0 0 (fun _=>undef) rfl (Nat.le_refl _) (Nat.zero_le _) (fun h=>absurd h (by omega)) (fun i h=>absurd h (by omega))
   (fun j h=>absurd h (by omega)) (fun i j h=>absurd h (by omega)) (fun r h=>by cases h) ⟨fun _=>⟨rfl,fun _=>rfl⟩,fun h=>(by cases h)⟩
 ·exact .nilm
 ·exact .nilf
 ·exact .any _
theorem zQ7(V:View){v:Value}(h:zaM v=true):Rep V v (zQ4 v):=by
 unfold zQ4
 split
 ·rename_i cs
  apply RepL.agg
  simp only[zaM,List.all_eq_true]at h
  refine RepL.zQ9 (by simp) fun i v a hv ha=> ?_
  rw[List.getElem?_map]at ha
  rw[hv]at ha
  simp only[Option.map_some,Option.some.injEq]at ha
  subst ha
  exact zQ6 V (h v (List.mem_of_getElem? hv))
 ·rename_i h1
  have:zaN v=true:=by
   unfold zaM at h;split at h
   ·exact absurd rfl (h1 _)
   ·exact h
  exact zQ6 V this
def zRn:Operand->Bool
 | .const v=>zaM v
 |_=>true
theorem zHQ{V:View}{a:Act}{w:World}{s:AState}(h:Rel V a w s)(x:Operand)(hx:zRn x=true):Rep V (a.eval x) (s.ev x):=by
 cases x with
 |tmp t=>exact h.env t
 |const v=>exact zQ7 V hx
 |global g=>exact .any _
 |func f=>exact .fn f
section
variable {P : Program} {V : View} {w : World} {s : AState}
theorem TyOK.run_underlying{t:Nat}{l:TL}(h:TyOK P t l)(w:World):∃d,(underlying t).run P w= .ok d w/\zAe d l.d:=
 let ⟨d,h1,h2⟩:=h.desc;⟨d,Go.run_underlying h1 w,h2⟩
theorem TyOK.run_sizeOf{t:Nat}{l:TL}(h:TyOK P t l)(w:World):(sizeOf t).run P w= .ok l.size w:=by
 obtain⟨i,z,h1,h2,_⟩:=h.info
 simp[sizeOf,typeInfo,h1,h2]
theorem TyOK.zVD{t:Nat}{l:TL}(h:TyOK P t l)(w:World):∃z,(zeroValue t).run P w= .ok z w/\∀V,Rep V z l.zero:=by
 obtain⟨i,z,h1,h2,_,h4,h5,h6⟩:=h.info
 exact⟨z,by simp[zeroValue,typeInfo,h1,h4],fun V=>h6▸zQ7 V h5⟩
theorem TyOK.zU2{t:Nat}{l:TL}(h:TyOK P t l)(w:World):(isAgg t).run P w= .ok l.d.isAgg w:=by
 obtain⟨d,h1,h2⟩:=h.run_underlying w
 simp only[isAgg,Sem.run_bind,h1,Result.andThen_ok]
 cases hd:l.d<;>rw[hd]at h2<;>simp only[zAe]at h2
 case other=>split<;>simp_all [TD.isAgg]
 all_goals first
  |(subst h2;rfl)
  |(obtain⟨_,rfl,_⟩:=h2;rfl)
  |(obtain⟨_,rfl⟩:=h2;rfl)
theorem zEP(hr:RelW V w s){u:Value}{av:AV}(hu:Rep V u av){cs:List AV}{off:Nat}{c:Prop}(h:zEN s av=some (cs,off,c))(hc:c):
 ∃b o,u= .pointer (some ⟨b,o,none⟩)/\∀j,off+j<cs.length->∃v,w.cell? ⟨b,o+j,none⟩=some v/\Rep V v (cs.getD (off+j) .any):=by
 cases hu with
 |eptr e off' b o val hi hrr=>
  simp only[zEN,Option.some.injEq,Prod.mk.injEq]at h
  obtain⟨rfl,rfl,_⟩:=h
  refine⟨b,o+off',rfl,fun j hj=>⟨val (off'+j),?_,hrr _ hj⟩⟩
  rw[Nat.add_assoc]
  exact hr.inv.imm _ _ _ (hi _ hj)
 |bptr r off' b c' hl=>
  simp only[zEN]at h
  split at h
  ·rename_i cs' ho
   simp only[Option.some.injEq,Prod.mk.injEq]at h
   obtain⟨rfl,rfl,_⟩:=h
   obtain⟨b',c'',cells,ty,h1,h2,h3,h4,h5,h6⟩:=hr.inv.objs r _ ho
   rw[hl]at h1
   simp only[Option.some.injEq,Prod.mk.injEq]at h1
   obtain⟨rfl,rfl⟩:=h1
   refine⟨b,off',rfl,fun j hj=>⟨cells.getD (off'+j) undef,?_,h5 _ hj⟩⟩
   have hlt:off'+j<cells.size:=by omega
   simp[World.cell?,h2,hlt]
  ·cases h
 |aptr r ver size i off' b cap hl=>
  simp only[zEN]at h
  split at h
  ·rename_i v' sz es ho
   simp only[Option.some.injEq,Prod.mk.injEq]at h
   obtain⟨rfl,rfl,hcc⟩:=h
   rw[<-hcc]at hc
   obtain⟨rfl,rfl,hi⟩:=hc
   obtain⟨blk,cap',h1,_,h3,h4,hsz,h5⟩:=hr.inv.objs r _ ho
   rw[hl]at h1
   simp only[Option.some.injEq,Prod.mk.injEq]at h1
   obtain⟨rfl,rfl⟩:=h1
   obtain⟨h6,cells,ty,h7,h8,h9,_⟩:=h5
   refine⟨b,i*sz+off',rfl,fun j hj=>⟨cells.getD (i*sz+(off'+j)) undef,?_,h9 i (off'+j) hi (by rw[hsz i hi]at hj;exact hj)⟩⟩
   have hlt:i*sz+(off'+j)<cells.size:=by
    rw[hsz i hi]at hj
    have:i*sz+sz<=cap*sz:=by rw[<-Nat.succ_mul];exact Nat.mul_le_mul_right _ (by omega)
    omega
   simp[World.cell?,h7,Nat.add_assoc,hlt]
  ·cases h
 |_=>simp[zEN]at h
theorem zIZ{l:List AV}{o n j:Nat}(hj:j<n):((l.drop o).take n).getD j .any=l.getD (o+j) .any:=by
 simp[List.getD_eq_getElem?_getD,List.getElem?_take,hj,List.getElem?_drop]
theorem zU3{t:Nat}{l:TL}(hT:TyOK P t l){b o:Nat}{cs:List AV}{off:Nat}
 (hcell:∀j,off+j<cs.length->∃v,w.cell? ⟨b,o+j,none⟩=some v/\Rep V v (cs.getD (off+j) .any)) (hc:(zRw l cs off).1):
 ∃v,(Instr.loadAt t (.pointer (some ⟨b,o,none⟩))).run P w= .ok v w/\Rep V v (zRw l cs off).2:=by
 have ha:=hT.zU2 w
 have hs:=hT.run_sizeOf w
 unfold zRw at hc⊢
 cases hg:l.d.isAgg with
 |true=>
  rw[hg]at ha
  simp only[hg,if_true]at hc⊢
  have hl:=run_loadCells (P:=P) w ⟨b,o,none⟩ l.size (fun j=>(w.cell? ⟨b,o+j,none⟩).getD undef) (fun j hj=>by
   obtain⟨v,hv,_⟩:=hcell j (by omega)
   rw[addr_add,hv];rfl)
  refine⟨.agg ((List.range l.size).map fun j=>(w.cell? ⟨b,o+j,none⟩).getD undef).toArray,?_,RepL.agg ?_⟩
  ·simp[Instr.loadAt,Instr.sureAddr,loadVar,ha,hs,hl]
  ·refine⟨by simp;omega,fun j hj=> ?_⟩
   have hj':j<l.size:=by simp at hj;omega
   obtain⟨v,hv,hrv⟩:=hcell j (by omega)
   rw[zIZ hj']
   simp[List.getD_eq_getElem?_getD,List.getElem?_map,hj',hv]
   simpa [List.getD_eq_getElem?_getD]using hrv
 |false=>
  rw[hg]at ha
  simp only[hg,if_false,Bool.false_eq_true]at hc⊢
  obtain⟨v,hv,hrv⟩:=hcell 0 (by simpa using hc)
  simp only[Nat.add_zero]at hv hrv
  refine⟨v,?_,hrv⟩
  simp[Instr.loadAt,Instr.sureAddr,loadVar,ha,hv]
theorem zU6{t:Nat}{l:TL}(hT:TyOK P t l){cells:Array Value}{cs:List AV}{off:Nat}(hcs:RepL V cells.toList cs)(hc:(zRw l cs off).1):
 ∃v,(part t cells off).run P w= .ok v w/\Rep V v (zRw l cs off).2:=by
 have ha:=hT.zU2 w
 have hs:=hT.run_sizeOf w
 have hlen:cells.size=cs.length:=by simpa using hcs.1
 unfold zRw at hc⊢
 cases hg:l.d.isAgg with
 |true=>
  rw[hg]at ha
  simp only[hg,if_true]at hc⊢
  refine⟨.agg (cells.extract off (off+l.size)),by simp[part,ha,hs],RepL.agg ?_⟩
  have:=(hcs.drop off).take l.size
  simpa [Array.toList_extract,List.extract]using this
 |false=>
  rw[hg]at ha
  simp only[hg,if_false,Bool.false_eq_true]at hc⊢
  have hlt:off<cells.size:=by omega
  refine⟨cells[off],by simp[part,ha,hlt],?_⟩
  have:=hcs.2 off hc
  simpa [List.getD_eq_getElem?_getD,hlt]using this
end
def zAz(P:Program)(V:View)(a:Act)(w:World)(s:AState)(o:Oper)(out:Out):Prop:=
 ∃nx w' V',(execOp a.eval o).run P w= .ok nx w'/\V.Le V'/\Below V.base w w'/\RelW V' w' out.s/\out.s.env=s.env/\out.s.n=s.n/\out.s.b=s.b/\
  ((∃u,nx= .value u/\Rep V' u out.v)\/(nx= .skip/\out.v= .any))
section
variable {P : Program} {V : View} {a : Act} {w : World} {s : AState} {o : Oper}
theorem zAz.val(hr:Rel V a w s){u:Value}{v:AV}{c:Prop}(h:(execOp a.eval o).run P w= .ok (.value u) w)(hu:Rep V u v):zAz P V a w s o ⟨c,v,s⟩:=
 ⟨_,w,V,h,.refl V,.refl _ _,hr.toW,rfl,rfl,rfl,.inl ⟨u,rfl,hu⟩⟩
theorem zVj(hr:RelW V w s){r:Nat}{cs:List AV}(ho:s.obj r=some (.box cs)){b c:Nat}(hl:V.loc r 0=some (some b,c)){off:Nat}{vs:List Value}{xs:List AV}
 (hx:RepL V vs xs) (hoff:off+xs.length<=cs.length) (hbel:r<s.b->AV.belL s.b xs=true):
 ∃cells ty,w.heap[b]?=some (.cells cells ty (0,0))/\cells.size=cs.length/\
  RelW V (w.setRow b (cells.toList.take off++vs++cells.toList.drop (off+vs.length)).toArray) (s.setObj r (.box (zVf cs off xs)))/\V.base<=b:=by
 obtain⟨b',c',cells,ty,h1,h2,h3,h4,h5,h6⟩:=hr.inv.objs r _ ho
 rw[hl]at h1
 simp only[Option.some.injEq,Prod.mk.injEq]at h1
 obtain⟨rfl,rfl⟩:=h1
 refine⟨cells,ty,h2,h4,?_,h3⟩
 have hcells:RepL V cells.toList cs:=⟨by simpa using h4,fun i hi=>by have:=h5 i hi;simpa [List.getD_eq_getElem?_getD]using this⟩
 have hnew:RepL V (cells.toList.take off++vs++cells.toList.drop (off+vs.length)) (zVf cs off xs):=by
  rw[zVg xs cs off hoff,hx.1]
  exact((hcells.take off).append hx).append (hcells.drop _)
 refine hr.setObj ho (hr.inv.write r _ (.box (zVf cs off xs)) ho b (by simp[own,hl]) (by simp[World.setRow]) (fun k hk=>setRow_other w b k _ hk) V (.refl V)
  (fun _ _ _=>rfl) (fun o v hv=>by rw[h6 o]at hv;cases hv) (fun _ _ _=>rfl) ?_ (by simp[own,hl])) ?_
 ·refine⟨b,c,_,ty,hl,setRow_heap w b cells _ ty _ h2,h3,by simpa using hnew.1,fun i hi=> ?_,h6⟩
  have:=hnew.2 i hi
  simpa [List.getD_eq_getElem?_getD]using this
 ·intro hlt
  have hb0:AV.belL s.b cs=true:=by
   have:=hr.bel (.box cs) (by unfold AState.obj at ho;rw[if_pos hlt]at ho;exact List.mem_of_getElem? ho)
   exact this
  exact zDX off hb0 (hbel hlt)
end
theorem YAV:type_of% @Nat.le_refl:= @Nat.le_refl
theorem YAT.{u}:type_of% @List.mem_cons_of_mem.{u}:= @List.mem_cons_of_mem.{u}
theorem YAW:type_of% @Nat.lt_of_lt_of_le:= @Nat.lt_of_lt_of_le
theorem YAU.{u}:type_of% @List.mem_cons_self.{u}:= @List.mem_cons_self.{u}
theorem YAX:type_of% @Nat.zero_le:= @Nat.zero_le
theorem YAQ:type_of% @Int.le_refl:= @Int.le_refl
theorem YAP:type_of% @Bool.or_eq_true:= @Bool.or_eq_true
theorem YAb:type_of% @eq_iff_iff:= @eq_iff_iff
theorem YAa:type_of% @decide_eq_true_eq:= @decide_eq_true_eq
theorem YAY.{u,v}:type_of% @Prod.mk.injEq.{u,v}:= @Prod.mk.injEq.{u,v}
theorem YAR.{u}:type_of% @List.getElem?_eq_none.{u}:= @List.getElem?_eq_none.{u}
theorem YAZ.{u}:type_of% @beq_eq_false_iff_ne.{u}:= @beq_eq_false_iff_ne.{u}
theorem YAS.{u}:type_of% @List.getElem?_eq_some_iff.{u}:= @List.getElem?_eq_some_iff.{u}
theorem YAL:type_of% @Nat.le_of_ble_eq_true:= @Nat.le_of_ble_eq_true
theorem YAN:type_of% @True.intro:= @True.intro
theorem YAM.{u}:type_of% @Option.some.injEq.{u}:= @Option.some.injEq.{u}
theorem YAA:type_of% @Bool.and_eq_true:= @Bool.and_eq_true
theorem YAK.{u,v}:type_of% @List.length_map.{u,v}:= @List.length_map.{u,v}
theorem YAE:type_of% @Bool.or_eq_false_iff:= @Bool.or_eq_false_iff
theorem YAD:type_of% @Bool.not_eq_true':= @Bool.not_eq_true'
theorem YAC:type_of% @Bool.not_eq_false':= @Bool.not_eq_false'
theorem YAF.{u}:type_of% @List.getD_eq_getElem?_getD.{u}:= @List.getD_eq_getElem?_getD.{u}
theorem YAO.{u}:type_of% @bne_self_eq_false.{u}:= @bne_self_eq_false.{u}
theorem YAJ.{u}:type_of% @List.length_append.{u}:= @List.length_append.{u}
theorem YAG.{u}:type_of% @List.getElem?_append_left.{u}:= @List.getElem?_append_left.{u}
theorem YAH.{u}:type_of% @List.getElem?_append_right.{u}:= @List.getElem?_append_right.{u}
theorem YAI.{u}:type_of% @List.getElem?_eq_getElem.{u}:= @List.getElem?_eq_getElem.{u}
theorem YAB:type_of% @Bool.false_eq_true:= @Bool.false_eq_true
theorem cjI{a b:Prop}(x:a)(y:b):a/\b:=⟨x,y⟩
end Go.Ab
end
section
/- The executor on abstract values: new objects, append. Conditions stand ahead of each part. -/
/- The executor's operations run as the model's do: new objects, addresses, parts, literals, arithmetic. Condition: the executor's table of types is the program's. -/
set_option linter.unusedSimpArgs false
namespace Go.Ab
open Go.RowKit (Below)
section
variable {P : Program} {V : View} {w : World} {s : AState}
theorem zP8(hr:RelW V w s){cells:Array Value}{cs:List AV}(hc:RepL V cells.toList cs)(ty:TypeId):
 ∃V',V.Le V'/\V'.loc (s.b+s.L.length) 0=some (some w.heap.size,0)/\RelW V' (w.alloc (.cells cells ty)) (s.new (.box cs)):=by
 obtain⟨V',h1,h2,h3⟩:=hr.inv.newObj (s.b+s.L.length) (.inl (zQz s)) (.box cs) (.cells cells ty) 0 0 (by
  intro V' hV hb hl _ hi
  refine⟨⟨w.heap.size,0,cells,ty,hl,heap_alloc_new w _,by rw[hb];exact hr.inv.base,by simpa using hc.1,fun i hi=> ?_,hi⟩,by simp[own,hl]⟩
  have:=(hc.mono hV).2 i hi
  simpa [List.getD_eq_getElem?_getD]using this)
 exact⟨V',h1,h2,hr.new _ h3⟩
theorem zQB(hr:RelW V w s):
 ∃V',V.Le V'/\V'.loc (s.b+s.L.length) 0=some (some w.heap.size,0)/\RelW V' (w.alloc (.map #[] 0)) (s.new (.map [])):=by
 obtain⟨V',h1,h2,h3⟩:=hr.inv.newObj (s.b+s.L.length) (.inl (zQz s)) (.map []) (.map #[] 0) 0 0 (by
  intro V' hV hb hl _ hi
  exact⟨⟨w.heap.size,0, #[],0,hl,heap_alloc_new w _,by rw[hb];exact hr.inv.base,⟨rfl,fun i hi=>absurd hi (by simp)⟩,hi⟩,by simp[own,hl]⟩)
 exact⟨V',h1,h2,hr.new _ h3⟩
def RepE(V:View)(size:Nat)(cells:List Value)(es:List AV):Prop:=
 (∀i,i<es.length->(cellsOf (es.getD i .any)).length=size)/\∀i j,i<es.length->j<size->Rep V (cells.getD (i*size+j) undef) ((cellsOf (es.getD i .any)).getD j .any)
theorem RepE.mono{V V':View}(hV:V.Le V'){size:Nat}{cells:List Value}{es:List AV}(h:RepE V size cells es):RepE V' size cells es:=
 ⟨h.1,fun i j hi hj=>(h.2 i j hi hj).mono hV⟩
theorem zP6(hr:RelW V w s){cells:Array Value}{size cap:Nat}{es:List AV}(hc:RepE V size cells.toList es)(hl:es.length<=cap)(hm:cap<=maxLen)(hs:cells.size=cap*size)(ty:TypeId):
 ∃V',V.Le V'/\V'.loc (s.b+s.L.length) 0=some (some w.heap.size,cap)/\RelW V' (w.alloc (.cells cells ty)) (s.new (.arr 0 size es)):=by
 obtain⟨V',h1,h2,h3⟩:=hr.inv.newObj (s.b+s.L.length) (.inl (zQz s)) (.arr 0 size es) (.cells cells ty) cap 0 (by
  intro V' hV hb hloc hno hi
  refine⟨⟨some w.heap.size,cap,hloc,fun m hm=>hno m (by omega),hl,hm,hc.1,by rw[hb];exact hr.inv.base,cells,ty,heap_alloc_new w _,hs,fun i j hi hj=> ?_,hi⟩,by simp[own,hloc]⟩
  have:=(hc.mono hV).2 i j hi hj
  simpa [List.getD_eq_getElem?_getD]using this)
 exact⟨V',h1,h2,hr.new _ h3⟩
theorem zQF(hr:RelW V w s){cells:Array Value}{size:Nat}{es:List AV}(hc:RepE V size cells.toList es)(hs:cells.size=es.length*size)(hm:es.length<=maxLen)(ty:TypeId):
 ∃V',V.Le V'/\RelW V' (w.alloc (.cells cells ty)) s/\Rep V' (.slice (some ⟨w.heap.size,0,none⟩) es.length es.length) (.sl es .cap):=by
 obtain⟨hV,hI⟩:=hr.inv.newRow cells ty
 refine⟨_,hV,⟨hr.hb,hr.bel,hI⟩,?_⟩
 refine .sl _ es.length es.length es .cap size w.heap.size 0 (fun j=>cells.getD j undef) rfl (Nat.le_refl _) hm (fun _=>rfl) hc.1 ?_ ?_ (fun r h=>by cases h) ⟨fun h=>(by cases h),fun _=>rfl⟩
 ·intro j hj
  have:j<cells.size:=by omega
  simp[View.zay,this]
 ·intro i j hi hj
  have:=(hc.mono hV).2 i j hi hj
  simpa [List.getD_eq_getElem?_getD]using this
theorem RepE.nil(V:View)(size:Nat):RepE V size [] []:=⟨fun i hi=>absurd hi (by simp),fun i j hi=>absurd hi (by simp)⟩
theorem Rep.shift{v:Value}{x y:AV}{k:Nat}(h:Rep V v x)(hs:shift k x=some y):∃b o,v= .pointer (some ⟨b,o,none⟩)/\Rep V (.pointer (some ⟨b,o+k,none⟩)) y:=by
 cases h with
 |eptr e off b o val hi hr=>simp only[Go.Ab.shift,Option.some.injEq]at hs;subst hs;exact⟨b,o+off,rfl,by rw[Nat.add_assoc];exact .eptr _ _ _ _ _ hi hr⟩
 |bptr r off b c h=>simp only[Go.Ab.shift,Option.some.injEq]at hs;subst hs;exact⟨b,off,rfl,.bptr _ _ _ _ h⟩
 |aptr r ver size i off b cap h=>simp only[Go.Ab.shift,Option.some.injEq]at hs;subst hs;exact⟨b,_,rfl,by rw[Nat.add_assoc];exact .aptr _ _ _ _ _ _ _ h⟩
 |_=>simp[Go.Ab.shift]at hs
theorem zbR(k:IntKind)(n:Int):(k.min<=k.wrap n/\k.wrap n<=k.max)/\(k.min<=n->n<=k.max->k.wrap n=n):=by
 have h8:=Int.emod_nonneg n (show(256:Int)≠0 by decide);have h8':=Int.emod_lt_of_pos n (show(0:Int)<256 by decide)
 have h16:=Int.emod_nonneg n (show(65536:Int)≠0 by decide);have h16':=Int.emod_lt_of_pos n (show(0:Int)<65536 by decide)
 cases k<;>simp only[IntKind.min,IntKind.max,IntKind.wrap,IntKind.signed,IntKind.bits,Bool.true_and,Bool.false_and,if_true,Bool.false_eq_true,if_false,ge_iff_le,decide_eq_true_eq,Nat.reduceSub,Nat.reducePow,Int.reducePow,Int.reduceNeg,Int.reduceSub]<;>
  (try split)<;>(constructor<;>(try constructor)<;>omega)
theorem zbW(k:IntKind)(n:Int):k.min<=k.wrap n/\k.wrap n<=k.max:=(zbR k n).1
theorem zbU(k:IntKind)(n:Int)(h1:k.min<=n)(h2:n<=k.max):k.wrap n=n:=(zbR k n).2 h1 h2
theorem zTd(k:IntKind)(n:Int):Rep V (.int k (k.wrap n)) (.int k (k.wrap n)):= .int _ _ (zbW k n).1 (zbW k n).2
theorem zTb{n:Nat}(h:n<=maxLen):Rep V (.int .i64 n) (.int .i64 n):=by
 refine .int _ _ ?_ ?_
 ·simp only[IntKind.min,IntKind.signed,IntKind.bits,if_true];omega
 ·simp only[IntKind.max,IntKind.signed,IntKind.bits,if_true];simp only[maxLen]at h;omega
theorem zYT(k:IntKind){a b:Int}(ha1:k.min<=a)(ha2:a<=k.max)(_hb:b≠0):k.min<=a.tmod b/\a.tmod b<=k.max:=by
 have h0:k.min<=0:=by cases k<;>simp[IntKind.min,IntKind.signed,IntKind.bits]
 have h1:0<=k.max:=by cases k<;>simp[IntKind.max,IntKind.signed,IntKind.bits]
 rcases Int.le_total 0 a with h|h
 ·have h2:=Int.tmod_nonneg b h
  have h3:a.tmod b<=a:=by
   rw[Int.tmod_eq_emod_of_nonneg h]
   rcases Int.lt_or_gt_of_ne _hb with hb|hb
   ·have:=Int.emod_nonneg a _hb
    rw[<-Int.emod_neg]
    have h5:=Int.emod_def a (-b)
    have h6:0<=a/(-b):=Int.ediv_nonneg h (by omega)
    have h7:0<= -b*(a/ -b):=Int.mul_nonneg (by omega) h6
    omega
   ·have h5:=Int.emod_def a b
    have h6:0<=a/b:=Int.ediv_nonneg h (by omega)
    have h7:0<=b*(a/b):=Int.mul_nonneg (by omega) h6
    omega
  omega
 ·have h2:(-a).tmod b= -a.tmod b:=Int.neg_tmod a b
  have hna:0<= -a:=by omega
  have h3:=Int.tmod_nonneg b hna
  have h4:(-a).tmod b<= -a:=by
   rw[Int.tmod_eq_emod_of_nonneg hna]
   rcases Int.lt_or_gt_of_ne _hb with hb|hb
   ·rw[<-Int.emod_neg]
    have h5:=Int.emod_def (-a) (-b)
    have h6:0<=(-a)/(-b):=Int.ediv_nonneg hna (by omega)
    have h7:0<= -b*(-a/ -b):=Int.mul_nonneg (by omega) h6
    omega
   ·have h5:=Int.emod_def (-a) b
    have h6:0<=(-a)/b:=Int.ediv_nonneg hna (by omega)
    have h7:0<=b*(-a/b):=Int.mul_nonneg (by omega) h6
    omega
  omega
theorem zU7{k:IntKind}{t:TypeId}{a b:Int}(hb:b≠0):(binOp .quo t (.int k a) (.int k b)).run P w= .ok (.int k (k.wrap (a.tdiv b))) w:=by
 have:Op.intDiv .quo k a b=pure (.int k (k.wrap (a.tdiv b))):=by unfold Op.intDiv;rw[if_neg hb]
 simp[binOp,this]
theorem zU8{k:IntKind}{t:TypeId}{a b:Int}(hb:b≠0):(binOp .rem t (.int k a) (.int k b)).run P w= .ok (.int k (a.tmod b)) w:=by
 have:Op.intDiv .rem k a b=pure (.int k (a.tmod b)):=by unfold Op.intDiv;rw[if_neg hb]
 simp[binOp,this]
theorem zUo(op:BinOp){k:IntKind}{t:TypeId}{a b:Int}(ha:k.min<=a/\a<=k.max){c:Prop}{v:AV}(h:zBL op k a b=some (c,v))(hc:c):
 ∃u,(binOp op t (.int k a) (.int k b)).run P w= .ok u w/\Rep V u v:=by
 cases op<;>simp only[zBL,Option.some.injEq,Prod.mk.injEq]at h<;>first
  |(obtain⟨hcc,rfl⟩:=h;rw[<-hcc]at hc;exact⟨_,zU7 hc,zTd _ _⟩)
  |(obtain⟨hcc,rfl⟩:=h;rw[<-hcc]at hc;exact⟨_,zU8 hc,.int _ _ (zYT k ha.1 ha.2 hc).1 (zYT k ha.1 ha.2 hc).2⟩)
  |(obtain⟨_,rfl⟩:=h;exact⟨_,by simp[binOp,Op.intArith,Op.intCmp],zTd _ _⟩)
  |(obtain⟨_,rfl⟩:=h;exact⟨_,by simp[binOp,Op.intArith,Op.intCmp],.bool _⟩)
  |(cases h)
theorem zHH{t:TypeId}(hu:P.underlying t=some .bool)(a b:Bool)(d:Nat):(Op.equalIn (d+1) t (.bool a) (.bool b)).run P w= .ok (a==b) w:=by
 simp only[Op.equalIn,Sem.run_bind,Go.run_underlying hu,Result.andThen_ok,Sem.run_pure]
theorem zHJ{t e:TypeId}(hu:P.underlying t=some (.pointer e))(a:Addr)(d:Nat):(Op.equalIn (d+1) t (.pointer (some a)) (.pointer none)).run P w= .ok false w:=by
 simp only[Op.equalIn,Sem.run_bind,Go.run_underlying hu,Result.andThen_ok,Sem.run_pure]
theorem zHL{t:TypeId}(hu:P.underlying t=some .bool)(a b:Bool):(Op.equal t (.bool a) (.bool b)).run P w= .ok (a==b) w:=zHH hu a b 9999
theorem zHM{t e:TypeId}(hu:P.underlying t=some (.pointer e))(a:Addr):(Op.equal t (.pointer (some a)) (.pointer none)).run P w= .ok false w:=zHJ hu a 9999
theorem zUt{t:TypeId}{a b:ByteArray}(h:a.size+b.size<=maxLen):(binOp .add t (.string a) (.string b)).run P w= .ok (.string (a++b)) w:=by
 have e:IntKind.i64.max=9223372036854775807:=by decide
 have e2:maxLen<=9223372036854775807:=by decide
 have:¬(((a.size+b.size:Nat):Int)>IntKind.i64.max):=by rw[e];omega
 simp only[binOp,Op.stringOp,if_neg this,Sem.run_pure]
theorem zR7{t:TypeId}(hu:P.underlying t=some (.int .i64)){cs:Array Value}{off:Nat}{v:Value}(h:cs[off]?=some v):(part t cs off).run P w= .ok v w:=by
 simp only[part,isAgg,Sem.run_bind,Go.run_underlying hu,Result.andThen_ok,Sem.run_pure,Bool.false_eq_true,if_false,h]
theorem zHI{t:TypeId}(hu:P.underlying t=some (.int .i64))(k:IntKind)(a b:Int)(d:Nat):(Op.equalIn (d+1) t (.int k a) (.int k b)).run P w= .ok (a==b) w:=by
 simp only[Op.equalIn,Sem.run_bind,Go.run_underlying hu,Result.andThen_ok,if_true,Sem.run_pure]
theorem zlz{t:TypeId}(h:zBD P t)(k k':IntKind)(a b a' b':Int)(d:Nat):(Op.equalIn (d+2) t (.agg #[.int k a,.int k' b]) (.agg #[.int k a',.int k' b'])).run P w= .ok (a==a'&&b==b') w:=by
 obtain⟨f,g,hu,fo,go,fn,gn,ft,gt,hs⟩:=h
 have p1:∀x y:Value,(part f.type #[x,y] f.offset).run P w= .ok x w:=fun x y=>zR7 ft (by rw[fo];rfl)
 have p2:∀x y:Value,(part g.type #[x,y] g.offset).run P w= .ok y w:=fun x y=>zR7 gt (by rw[go];rfl)
 have q1:(Op.equalIn (d+1) f.type (.int k a) (.int k a')).run P w= .ok (a==a') w:=zHI ft k a a' d
 have q2:(Op.equalIn (d+1) g.type (.int k' b) (.int k' b')).run P w= .ok (b==b') w:=zHI gt k' b b' d
 rw[Op.equalIn]
 simp only[Sem.run_bind,Go.run_underlying hu,Result.andThen_ok]
 generalize (a==a')=r1 at q1⊢
 generalize (b==b')=r2 at q2⊢
 cases r1<;>cases r2<;>simp[Sem.run_bind,p1,p2,q1,q2,fn,gn,hs]
theorem zHO{t:TypeId}(h:zBD P t)(k k':IntKind)(a b a' b':Int):(Op.equal t (.agg #[.int k a,.int k' b]) (.agg #[.int k a',.int k' b'])).run P w= .ok (a==a'&&b==b') w:=zlz h k k' a b a' b' 9998
theorem zly{t:TypeId}(hu:P.underlying t=some .string)(a b:ByteArray)(d:Nat):(Op.equalIn (d+1) t (.string a) (.string b)).run P w= .ok (a==b) w:=by
 simp only[Op.equalIn,Sem.run_bind,Go.run_underlying hu,Result.andThen_ok,Sem.run_pure]
theorem zmj{t:TypeId}(hu:P.underlying t=some .string){cs:Array Value}{off:Nat}{v:Value}(h:cs[off]?=some v):(part t cs off).run P w= .ok v w:=by
 simp only[part,isAgg,Sem.run_bind,Go.run_underlying hu,Result.andThen_ok,Sem.run_pure,Bool.false_eq_true,if_false,h]
theorem zmk{t:TypeId}(h:zBD P t){i:TypeInfo}(hi:P.info? t=some i)(hz:i.size=2)(cs:Array Value):(part t cs 0).run P w= .ok (.agg (cs.extract 0 2)) w:=by
 obtain⟨f,g,hu,_⟩:=h
 simp[part,isAgg,Sem.run_bind,Go.run_underlying hu,sizeOf,typeInfo,hi,hz]
theorem zl0{t:TypeId}(h:SixC P t)(k0 k1 k2 k3 k4:IntKind)(a b c d e a' b' c' d' e':Int)(s s':ByteArray):
 (Op.equal t (.agg #[.int k0 a,.int k1 b,.int k2 c,.int k3 d,.int k4 e,.string s]) (.agg #[.int k0 a',.int k1 b',.int k2 c',.int k3 d',.int k4 e',.string s'])).run P w= .ok (((((a==a'&&b==b')&&c==c')&&d==d')&&e==e')&&s==s') w:=by
 obtain⟨f0,f1,f2,f3,f4,hu,⟨o0,o1,o2,o3,o4⟩,⟨n0,n1,n2,n3,n4⟩,ht,⟨i,hi,hz⟩,⟨t1,t2,t3,t4⟩,hs⟩:=h
 show(Op.equalIn (9999+1) t _ _).run P w=_
 have p0:∀x0 x1 x2 x3 x4 x5:Value,(part f0.type #[x0,x1,x2,x3,x4,x5] f0.offset).run P w= .ok (.agg #[x0,x1]) w:=fun x0 x1 x2 x3 x4 x5=>by rw[o0,zmk ht hi hz];rfl
 have p1:∀x0 x1 x2 x3 x4 x5:Value,(part f1.type #[x0,x1,x2,x3,x4,x5] f1.offset).run P w= .ok x2 w:=fun _ _ _ _ _ _=>zR7 t1 (by rw[o1];rfl)
 have p2:∀x0 x1 x2 x3 x4 x5:Value,(part f2.type #[x0,x1,x2,x3,x4,x5] f2.offset).run P w= .ok x3 w:=fun _ _ _ _ _ _=>zR7 t2 (by rw[o2];rfl)
 have p3:∀x0 x1 x2 x3 x4 x5:Value,(part f3.type #[x0,x1,x2,x3,x4,x5] f3.offset).run P w= .ok x4 w:=fun _ _ _ _ _ _=>zR7 t3 (by rw[o3];rfl)
 have p4:∀x0 x1 x2 x3 x4 x5:Value,(part f4.type #[x0,x1,x2,x3,x4,x5] f4.offset).run P w= .ok x5 w:=fun _ _ _ _ _ _=>zmj t4 (by rw[o4];rfl)
 have q0:(Op.equalIn 9999 f0.type (.agg #[.int k0 a,.int k1 b]) (.agg #[.int k0 a',.int k1 b'])).run P w= .ok (a==a'&&b==b') w:=zlz ht k0 k1 a b a' b' 9997
 have q1:(Op.equalIn 9999 f1.type (.int k2 c) (.int k2 c')).run P w= .ok (c==c') w:=zHI t1 k2 c c' 9998
 have q2:(Op.equalIn 9999 f2.type (.int k3 d) (.int k3 d')).run P w= .ok (d==d') w:=zHI t2 k3 d d' 9998
 have q3:(Op.equalIn 9999 f3.type (.int k4 e) (.int k4 e')).run P w= .ok (e==e') w:=zHI t3 k4 e e' 9998
 have q4:(Op.equalIn 9999 f4.type (.string s) (.string s')).run P w= .ok (s==s') w:=zly t4 s s' 9998
 rw[Op.equalIn]
 simp only[Sem.run_bind,Go.run_underlying hu,Result.andThen_ok]
 generalize (a==a'&&b==b')=r0 at q0⊢
 generalize (c==c')=r1 at q1⊢
 generalize (d==d')=r2 at q2⊢
 generalize (e==e')=r3 at q3⊢
 generalize (s==s')=r4 at q4⊢
 cases r0<;>cases r1<;>cases r2<;>cases r3<;>cases r4<;>simp[Sem.run_bind,p0,p1,p2,p3,p4,q0,q1,q2,q3,q4,n0,n1,n2,n3,n4,hs]
theorem zKx{t:TypeId}(hu:P.underlying t=some (.int .i64))(d:Nat):P.eqGuardType (d+1) t=false:=by
 rw[Program.eqGuardType];simp[hu]
theorem zK1{t:TypeId}(h:zBD P t)(d:Nat):P.eqGuardType (d+2) t=false:=by
 obtain⟨f,g,hu,fo,go,fn,gn,ft,gt,hs⟩:=h
 rw[Program.eqGuardType];simp[hu,zKx ft,zKx gt]
theorem zmC{t:TypeId}(hu:P.underlying t=some .string)(d:Nat):P.eqGuardType (d+1) t=false:=by
 rw[Program.eqGuardType];simp[hu]
theorem zmE{t:TypeId}(h:SixC P t)(d:Nat):P.eqGuardType (d+3) t=false:=by
 obtain⟨f0,f1,f2,f3,f4,hu,_,_,ht,_,⟨t1,t2,t3,t4⟩,hs⟩:=h
 rw[Program.eqGuardType];simp[hu,zK1 ht,zKx t1,zKx t2,zKx t3,zmC t4]
theorem zmD{t:TypeId}(h:SixC P t)(op:BinOp)(x y:Operand)(a b:Array Value):(eqGuard op t x y (.agg a) (.agg b)).run P w= .ok () w:=by
 have hg:P.eqGuardType P.depth t=false:=zmE h _
 cases op<;>first|rfl|simp[eqGuard,Sem.run_bind,hg]
theorem zK0{t:TypeId}(h:zBD P t)(op:BinOp)(x y:Operand)(a b:Array Value):(eqGuard op t x y (.agg a) (.agg b)).run P w= .ok () w:=by
 have hg:P.eqGuardType P.depth t=false:=zK1 h _
 cases op<;>first|rfl|simp[eqGuard,Sem.run_bind,hg]
theorem zTa{V:View}{v:Value}{k:IntKind}{n:Int}(h:Rep V v (.int k n)):v= .int k n:=by cases h;rfl
theorem zHK{t e:TypeId}(hu:P.underlying t=some (.slice e))(a:Addr)(m n m' n' d:Nat):(Op.equalIn (d+1) t (.slice (some a) m n) (.slice none m' n')).run P w= .ok false w:=by
 simp only[Op.equalIn,Sem.run_bind,Go.run_underlying hu,Result.andThen_ok,Sem.run_pure]
theorem zHN{t e:TypeId}(hu:P.underlying t=some (.slice e))(a:Addr)(m n m' n':Nat):(Op.equal t (.slice (some a) m n) (.slice none m' n')).run P w= .ok false w:=by
 exact zHK hu a m n m' n' 9999
theorem zYv{V:View}{cs:Array Value}{k k':IntKind}{a b:Int}(hl:cs.size=[AV.int k a,.int k' b].length)(h:∀i,i< [AV.int k a,.int k' b].length->Rep V (cs.getD i undef) ([AV.int k a,.int k' b].getD i .any)):cs= #[.int k a,.int k' b]:=by
 have h0:=zTa (h 0 (by simp))
 have h1:=zTa (h 1 (by simp))
 have g:cs.size=2:=hl
 have g0:0<cs.size:=by omega
 have g1:1<cs.size:=by omega
 apply Array.ext
 ·exact hl
 ·intro i hi hi'
  have:i=0\/i=1:=by omega
  rcases this with rfl|rfl
  ·simpa [Array.getD,g0]using h0
  ·simpa [Array.getD,g1]using h1
theorem znC{V:View}{v:Value}{n:ByteArray}(h:Rep V v (.str n)):v= .string n:=by cases h;rfl
theorem znM{V:View}{cs:Array Value}{k0 k1 k2 k3 k4:IntKind}{a b c d e:Int}{s:ByteArray}(hl:cs.size=[AV.int k0 a,.int k1 b,.int k2 c,.int k3 d,.int k4 e,.str s].length)
 (h:∀i,i< [AV.int k0 a,.int k1 b,.int k2 c,.int k3 d,.int k4 e,.str s].length->Rep V (cs.getD i undef) ([AV.int k0 a,.int k1 b,.int k2 c,.int k3 d,.int k4 e,.str s].getD i .any)):cs= #[.int k0 a,.int k1 b,.int k2 c,.int k3 d,.int k4 e,.string s]:=by
 have h0:=zTa (h 0 (by simp))
 have h1:=zTa (h 1 (by simp))
 have h2:=zTa (h 2 (by simp))
 have h3:=zTa (h 3 (by simp))
 have h4:=zTa (h 4 (by simp))
 have h5:=znC (h 5 (by simp))
 have g:cs.size=6:=hl
 apply Array.ext
 ·exact hl
 ·intro i hi hi'
  have gi:∀j,j<6->j<cs.size:=fun j hj=>by omega
  have:i=0\/i=1\/i=2\/i=3\/i=4\/i=5:=by omega
  rcases this with rfl|rfl|rfl|rfl|rfl|rfl
  ·simpa [Array.getD,gi]using h0
  ·simpa [Array.getD,gi]using h1
  ·simpa [Array.getD,gi]using h2
  ·simpa [Array.getD,gi]using h3
  ·simpa [Array.getD,gi]using h4
  ·simpa [Array.getD,gi]using h5
theorem zUn(op:BinOp){t:TypeId}{l:TL}(hT:TyOK P t l){x y:Value}{ax ay:AV}(hx:Rep V x ax)(hy:Rep V y ay){c:Prop}{v:AV}(h:abin l.d l.two op ax ay=some (c,v))(hc:c):
 ∃u,(binOp op t x y).run P w= .ok u w/\Rep V u v:=by
 cases hx with
 |int k n h1 h2=>
  cases hy with
  |int k' m h3 h4=>
   simp only[abin]at h
   split at h
   ·rename_i hk;subst hk;exact zUo op ⟨h1,h2⟩ h hc
   ·cases h
  |_=>simp[abin]at h
 |bool b=>
  obtain⟨d,hrd,hdd⟩:=hT.desc
  cases hy with
  |bool b'=>
   simp only[abin]at h
   split at h
   ·rename_i hd
    rw[hd]at hdd;simp only[zAe]at hdd;subst hdd
    simp only[Option.some.injEq,Prod.mk.injEq]at h;obtain⟨_,rfl⟩:=h
    exact⟨_,by simp only[binOp,Sem.run_bind,zHL hrd,Result.andThen_ok,Sem.run_pure],.bool _⟩
   ·rename_i hd
    rw[hd]at hdd;simp only[zAe]at hdd;subst hdd
    simp only[Option.some.injEq,Prod.mk.injEq]at h;obtain⟨_,rfl⟩:=h
    exact⟨_,by simp only[binOp,Sem.run_bind,zHL hrd,Result.andThen_ok,Sem.run_pure],.bool _⟩
   ·cases h
  |_=>simp[abin]at h
 |str b hb=>
  cases hy with
  |str b' hb'=>
   cases op<;>simp only[abin,Option.some.injEq,Prod.mk.injEq]at h<;>first
    |(obtain⟨_,rfl⟩:=h;exact⟨_,by simp only[binOp,Op.stringOp,Sem.run_pure],.bool _⟩)
    |(obtain⟨hcc,rfl⟩:=h;rw[<-hcc]at hc;exact⟨_,zUt hc,.str _ (by rw[ByteArray.size_append];exact hc)⟩)
    |(cases h)
  |_=>simp[abin]at h
 |bptr r off b c' hl=>
  obtain⟨d,hrd,hdd⟩:=hT.desc
  cases hy with
  |nilp=>
   simp only[abin]at h
   split at h
   ·rename_i hd
    rw[hd]at hdd;obtain⟨e,rfl⟩:=hdd
    simp only[Option.some.injEq,Prod.mk.injEq]at h;obtain⟨_,rfl⟩:=h
    exact⟨_,by simp only[binOp,Sem.run_bind,zHM hrd,Result.andThen_ok,Sem.run_pure],.bool _⟩
   ·rename_i hd
    rw[hd]at hdd;obtain⟨e,rfl⟩:=hdd
    simp only[Option.some.injEq,Prod.mk.injEq]at h;obtain⟨_,rfl⟩:=h
    exact⟨_,by simp only[binOp,Sem.run_bind,zHM hrd,Result.andThen_ok,Sem.run_pure,Bool.not_false],.bool _⟩
   ·cases h
  |_=>simp[abin]at h
 |agg cs as hl hcs=>
  cases hy with
  |agg cs' as' hl' hcs'=>
   simp only[abin]at h
   by_cases htwo:l.two=1
   ·rw[if_pos htwo]at h
    unfold zBM at h
    split at h
    case h_2=>cases h
    simp only[Option.some.injEq,Prod.mk.injEq]at h;obtain⟨_,rfl⟩:=h
    obtain rfl:=zYv hl hcs
    obtain rfl:=zYv hl' hcs'
    exact⟨_,by simp only[binOp,Sem.run_bind,zHO (hT.two htwo),Result.andThen_ok,Sem.run_pure],.bool _⟩
   ·rw[if_neg htwo]at h
    split at h
    case isFalse=>cases h
    rename_i hsix
    unfold zln at h
    split at h
    case h_2=>cases h
    simp only[Option.some.injEq,Prod.mk.injEq]at h;obtain⟨_,rfl⟩:=h
    obtain rfl:=znM hl hcs
    obtain rfl:=znM hl' hcs'
    exact⟨_,by simp only[binOp,Sem.run_bind,zl0 (hT.six hsix),Result.andThen_ok,Sem.run_pure],.bool _⟩
  |_=>simp[abin]at h
 |sl bse len cap es tok size b o val hl hcap hm hb hs himm hrr ht hf=>
  obtain⟨d,hrd,hdd⟩:=hT.desc
  cases hy with
  |sl bse' len' cap' es' tok' size' b' o' val' hl' hcap' hm' hb' hs' himm' hrr' ht' hf'=>
   unfold abin at h
   split at h<;>try contradiction
   rename_i heq1 heq2
   cases heq1
   cases heq2
   obtain⟨hf1,_⟩:=hf'
   obtain⟨_,hnone⟩:=hf1 rfl
   have h0:len'=0:=by simpa using hl'.symm
   have hbn:=hnone h0
   subst hbn
   have hpos:0<len:=by rw[<-hl];simp
   rw[hb hpos]
   split at h
   ·rename_i hd
    rw[hd]at hdd;simp only[zAe]at hdd;subst hdd
    simp only[Option.some.injEq,Prod.mk.injEq]at h;obtain⟨_,rfl⟩:=h
    exact⟨_,by simp only[binOp,Sem.run_bind,zHN hrd,Result.andThen_ok,Sem.run_pure],.bool _⟩
   ·rename_i hd
    rw[hd]at hdd;simp only[zAe]at hdd;subst hdd
    simp only[Option.some.injEq,Prod.mk.injEq]at h;obtain⟨_,rfl⟩:=h
    exact⟨_,by simp only[binOp,Sem.run_bind,zHN hrd,Result.andThen_ok,Sem.run_pure,Bool.not_false],.bool _⟩
   ·cases h
  |_=>simp[abin]at h
 |_=>simp[abin]at h
theorem zUw{V:View}(op:BinOp){t:TypeId}{x y:Operand}{u v:Value}{ax ay:AV}{l:TL}(hT:TyOK P t l)(hx:Rep V u ax)(hy:Rep V v ay){c:Prop×AV}(h:abin l.d l.two op ax ay=some c):(eqGuard op t x y u v).run P w= .ok () w:=by
 have:∀u v:Value,(∀a b,¬(u= .agg a/\v= .agg b))->¬(u= .nilIface/\v= .nilIface)->(eqGuard op t x y u v).run P w= .ok () w:=by
  intro u v h1 h2
  cases op<;>first
   |rfl
   | (simp only[eqGuard,Bool.not_true,Bool.false_eq_true,if_false,pure_bind]
      split
      ·exact absurd ⟨rfl,rfl⟩ h2
      ·exact absurd ⟨rfl,rfl⟩ (h1 _ _)
      ·rfl)
 by_cases hag:∃a b,u= .agg a/\v= .agg b
 ·obtain⟨a,b,rfl,rfl⟩:=hag
  cases hx with
  |agg=>cases hy with
   |agg=>
    simp only[abin]at h
    by_cases htwo:l.two=1
    ·exact zK0 (hT.two htwo) op x y a b
    ·rw[if_neg htwo]at h
     split at h
     case isFalse=>cases h
     rename_i hsix
     exact zmD (hT.six hsix) op x y a b
   |_=>simp[abin]at h
  |_=>simp[abin]at h
 ·refine this u v (fun a b hab=>hag ⟨a,b,hab⟩) (fun hab=> ?_)
  obtain⟨rfl,rfl⟩:=hab
  cases hx<;>simp[abin]at h
end
end Go.Ab
/- The executor's append runs as the model's does, whatever room there is. Condition: the executor's table of types is the program's. -/
set_option linter.unusedSimpArgs false
namespace Go.Ab
open Go.RowKit (Below)
section
variable {P : Program} {V : View} {w : World} {s : AState}
theorem RepE.append{size:Nat}{c1 c2 c3:List Value}{es xs:List AV}(h:RepE V size c1 es)(k:RepE V size c2 xs)(hl:c1.length=es.length*size)(hl2:c2.length=xs.length*size):
 RepE V size (c1++c2++c3) (es++xs):=by
 refine⟨fun i hi=> ?_,fun i j hi hj=> ?_⟩
 ·by_cases h1:i<es.length
  ·rw[zIX _ _ _ h1];exact h.1 i h1
  ·rw[zIY _ _ _ (by omega)];exact k.1 _ (by simp at hi;omega)
 ·have hmul:∀ {p q:Nat},p<q->p*size+j<q*size:=fun {p q} hpq=>by
   have:(p+1)*size<=q*size:=Nat.mul_le_mul_right _ hpq
   rw[Nat.succ_mul]at this;omega
  by_cases h1:i<es.length
  ·have h2:=hmul h1
   rw[zIX _ _ _ h1,List.append_assoc,zIX _ _ _ (by omega)]
   exact h.2 i j h1 hj
  ·have h3:i-es.length<xs.length:=by simp at hi;omega
   have h2:=hmul h3
   have h4:i*size=es.length*size+(i-es.length)*size:=by rw[<-Nat.add_mul];congr 1;omega
   rw[List.append_assoc,zIY c1 _ _ (by omega),zIX _ _ _ (by omega),zIY es _ _ (by omega),show i*size+j-c1.length=(i-es.length)*size+j by omega]
   exact k.2 _ j h3 hj
theorem RepE.zRC{size:Nat}{es:List AV}{cells:List Value}(h1:∀y∈es,(cellsOf y).length=size)
 (h2:∀i j,i<es.length->j<size->Rep V (cells.getD (i*size+j) undef) ((cellsOf (es.getD i .any)).getD j .any)):RepE V size cells es:=
 ⟨fun i hi=>by rw[getD_lt _ hi];exact h1 _ (List.getElem_mem hi),h2⟩
theorem RepE.zRX{size:Nat}{cells:List Value}{es:List AV}(h:RepE V size cells es)(hs:∀y∈es,y.solid=true)(hl:cells.length=es.length*size):∀u∈cells,u.oneCell'=true:=by
 intro u hu
 obtain⟨q,hq,rfl⟩:=List.mem_iff_getElem.1 hu
 have hpos:0<size:=by
  rcases Nat.eq_zero_or_pos size with h0|h0
  ·subst h0;simp at hl;subst hl;simp at hq
  ·exact h0
 have hi:q/size<es.length:=by rw[Nat.div_lt_iff_lt_mul hpos,<-hl];exact hq
 have hj:q % size<size:=Nat.mod_lt _ hpos
 have h1:=h.2 _ _ hi hj
 have h2:q/size*size+q % size=q:=by rw[Nat.mul_comm];exact Nat.div_add_mod q size
 rw[h2,getD_lt _ hq]at h1
 have hm:es.getD (q/size) .any∈es:=by rw[getD_lt _ hi];exact List.getElem_mem hi
 exact h1.oneCell (AV.zWz (hs _ hm) _ (by rw[h.1 _ hi];exact hj))
theorem zWG{V:View}{w:World}(himm:∀b o v,V.imm b o=some v->w.cell? ⟨b,o,none⟩=some v){u:Value}{es:List AV}{tk:Tk}(h:Rep V u (.sl es tk)){size:Nat}(hsz:∀y∈es,(cellsOf y).length=size):
 ∃base cap b o,∃news:List Value,u= .slice base es.length cap/\es.length<=cap/\cap<=maxLen/\(0<es.length->base=some ⟨b,o,none⟩)/\
  news.length=es.length*size/\(∀j v,news[j]?=some v->w.cell? ⟨b,o+j,none⟩=some v)/\(∀j v,news[j]?=some v->V.imm b (o+j)=some v)/\RepE V size news es/\
  (∀r,tk= .own r->∃blk,V.loc r es.length=some (blk,cap)/\base=zDB blk)/\(tk= .full\/tk= .cap->cap=es.length):=by
 cases h with
 |sl bse len cap _ _ size' b o val hl hc hm hb hs hi hr ht hf=>
  subst hl
  have hsize:0<es.length->size'=size:=fun h0=>by
   have h1:=hs 0 h0
   have h2:=hsz (es.getD 0 .any) (by rw[getD_lt _ h0];exact List.getElem_mem h0)
   omega
  have key:∀j,j<es.length*size->j<es.length*size':=fun j hj=>by
   rcases Nat.eq_zero_or_pos es.length with h0|h0
   ·rw[h0]at hj;simp at hj
   ·rw[hsize h0];exact hj
  have getVal:∀ {j:Nat} {v:Value},((List.range (es.length*size)).map val)[j]?=some v->j<es.length*size/\val j=v:=fun {j v} hv=>by
   obtain⟨h1,h2⟩:=List.getElem?_eq_some_iff.1 hv
   simp at h1 h2
   exact⟨h1,h2⟩
  refine⟨bse,cap,b,o,(List.range (es.length*size)).map val,rfl,hc,hm,hb,by simp,?_,?_,?_,ht,fun h=>h.elim (fun h=>(hf.1 h).1) hf.2⟩
  ·intro j v hv
   obtain⟨hj,rfl⟩:=getVal hv
   exact himm _ _ _ (hi _ (key _ hj))
  ·intro j v hv
   obtain⟨hj,rfl⟩:=getVal hv
   exact hi _ (key _ hj)
  ·refine RepE.zRC hsz fun i j hi' hj=> ?_
   have h0:0<es.length:=by omega
   have hlt:i*size+j<es.length*size:=by
    have:(i+1)*size<=es.length*size:=Nat.mul_le_mul_right _ hi'
    rw[Nat.succ_mul]at this;omega
   have:=hr i j hi' (by rw[hsize h0];exact hj)
   rw[hsize h0]at this
   simpa [List.getD_eq_getElem?_getD,hlt]using this
theorem zUz(w:World)(size m cap:Nat)(base:Option Addr)(ad:Addr)(news:List Value)(hb:0<m->base=some ad)(hl:news.length=m*size)
 (hc:∀j v,news[j]?=some v->w.cell? (ad.add j)=some v):(Builtin.firstCells size m (.slice base m cap)).run P w= .ok news.toArray w:=by
 rcases Nat.eq_zero_or_pos m with h0|h0
 ·subst h0
  have:news=[]:=List.eq_nil_of_length_eq_zero (by simpa using hl)
  subst this
  cases base with
  |none=>simp[Builtin.firstCells]
  |some a=>simp[Builtin.firstCells,loadCells,loadCellsFrom]
 ·rw[hb h0]
  exact run_firstCells_some w size m ad m cap news hl hc
theorem zUk(w:World){t ty e:TypeId}{i:TypeInfo}(ht:P.underlying t=some (.slice e))(hi:P.info? e=some i)
 {b n cap:Nat} {cur:Array Value} {et:TypeId} (hg:w.heap[b]?=some (.cells cur et (0,0))) {base:Option Addr} {ad:Addr} {m c:Nat} {news:List Value}
 (hb:0<m->base=some ad) (hl:news.length=m*i.size) (hc:∀j v,news[j]?=some v->w.cell? (ad.add j)=some v) (h1:∀u∈news,u.oneCell'=true)
 (hroom:n+m<=cap) (hfit:n*i.size+news.length<=cur.size):
 (Builtin.append_ #[t,t] ty #[.slice (some ⟨b,0,none⟩) n cap,.slice base m c]).run P w=
  .ok (.slice (some ⟨b,0,none⟩) (n+m) cap) (w.setRow b (cur.toList.take (n*i.size)++news++cur.toList.drop (n*i.size+news.length)).toArray):=by
 have hf:=zUz (P:=P) w i.size m c base ad news hb hl hc
 have hst:=run_storeCells_at P b (n*i.size) et news 0 cur w hg (by simpa using hfit) h1
 simp only[Nat.add_zero]at hst
 simp[Builtin.append_,Go.run_underlying ht,sizeOf,typeInfo,hi,Builtin.lenOf,hroom,hf,addr_add,hst]
theorem zUl(w:World){t ty e:TypeId}{i:TypeInfo}(ht:P.underlying t=some (.slice e))(hi:P.info? e=some i){base:Option Addr}{ad:Addr}{c:Nat}{news:List Value}
 (hb:0<0->base=some ad) (hl:news.length=0*i.size) (hc:∀j v,news[j]?=some v->w.cell? (ad.add j)=some v):
 (Builtin.append_ #[t,t] ty #[.slice none 0 0,.slice base 0 c]).run P w= .ok (.slice none 0 0) w:=by
 have hf:=zUz (P:=P) w i.size 0 c base ad news hb hl hc
 simp[Builtin.append_,Go.run_underlying ht,sizeOf,typeInfo,hi,Builtin.lenOf,hf]
theorem zUm(w:World){t ty e:TypeId}{i:TypeInfo}{z:Value}(ht:P.underlying t=some (.slice e))(hi:P.info? e=some i)(hz:i.zero=some z)
 {base0:Option Addr} {ad0:Addr} {n cap:Nat} {olds:List Value} (hb0:0<n->base0=some ad0) (hl0:olds.length=n*i.size) (hc0:∀j v,olds[j]?=some v->w.cell? (ad0.add j)=some v)
 {base:Option Addr} {ad:Addr} {m c:Nat} {news:List Value} (hb:0<m->base=some ad) (hl:news.length=m*i.size) (hc:∀j v,news[j]?=some v->w.cell? (ad.add j)=some v)
 (hg:cap<n+m) (hby:(n+m)*i.bytes<=zD4) (hmax:n+m<=maxLen):
 ∃nc,n+m<=nc/\nc<=maxLen/\(Builtin.append_ #[t,t] ty #[.slice base0 n cap,.slice base m c]).run P w=
  .ok (.slice (some ⟨w.heap.size,0,none⟩) (n+m) nc) (w.drew.alloc (.cells (olds++news++(Builtin.zeroCells z.cells (nc-(n+m))).toList).toArray e)):=by
 have hn:¬(n+m<=cap):=by omega
 have h63':¬(9223372036854775807<((n:Int)+(m:Int))):=by simp only[maxLen]at hmax;omega
 have h48':¬(281474976710656<Builtin.nextslicecap (n+m) cap*i.bytes):=by have:=growslice_fits hg hby;omega
 have hf:=zUz (P:=P) w.drew i.size m c base ad news hb hl (by simpa using hc)
 have hfo:(Builtin.firstCells i.size n (.slice base0 n cap)).run P w.drew= .ok olds.toArray w.drew:=zUz (P:=P) w.drew i.size n cap base0 ad0 olds hb0 hl0 (by simpa using hc0)
 refine⟨grownCap w (n+m) cap e,grownCap_ge w _ _ _,grownCap_le_maxLen w _ _ _ hmax,?_⟩
 simp[Builtin.append_,Go.run_underlying ht,sizeOf,typeInfo,zeroValue,hi,hz,Builtin.lenOf,hn,h63',h48',Question.forced,hf,hfo,newRow,grownCap]
 congr 2
 apply Array.ext'
 simp[List.append_assoc]
end
end Go.Ab
/- The executor's append, on its states. Condition: the executor's table of types is the program's. -/
set_option linter.unusedSimpArgs false
namespace Go.Ab
open Go.RowKit (Below)
section
variable {P : Program} {V : View} {w : World} {s : AState}
theorem RepE.take{size:Nat}{cells:List Value}{es:List AV}(h:RepE V size cells es)(n:Nat):RepE V size (cells.take (n*size)) (es.take n):=by
 refine⟨fun i hi=> ?_,fun i j hi hj=> ?_⟩
 ·simp only[List.length_take]at hi
  have:=h.1 i (by omega)
  simpa [List.getD_eq_getElem?_getD,List.getElem?_take,show i<n by omega]using this
 ·simp only[List.length_take]at hi
  have h1:=h.2 i j (by omega) hj
  have hlt:i*size+j<n*size:=by
   have:(i+1)*size<=n*size:=Nat.mul_le_mul_right _ (by omega)
   rw[Nat.succ_mul]at this;omega
  simpa [List.getD_eq_getElem?_getD,List.getElem?_take,show i<n by omega,hlt]using h1
theorem RepE.resize{size size':Nat}{cells:List Value}{es:List AV}(h:RepE V size cells es)(hs:∀y∈es,(cellsOf y).length=size'):RepE V size' cells es:=by
 rcases Nat.eq_zero_or_pos es.length with h0|h0
 ·exact⟨fun i hi=>absurd hi (by omega),fun i j hi=>absurd hi (by omega)⟩
 ·have h1:=h.1 0 h0
  have h2:=hs (es.getD 0 .any) (by rw[getD_lt _ h0];exact List.getElem_mem h0)
  have:size=size':=by omega
  subst this;exact h
theorem zCo(hr:RelW V w s){r ver size:Nat}{es:List AV}(ho:s.obj r=some (.arr ver size es)):
 ∃blk cap,V.loc r ver=some (blk,cap)/\(∀m,ver<m->V.loc r m=none)/\es.length<=cap/\cap<=maxLen/\(blk=none->cap=0)/\(∀i,i<es.length->(cellsOf (es.getD i .any)).length=size)/\
  ∀b,blk=some b->V.base<=b/\∃cells ty,w.heap[b]?=some (.cells cells ty (0,0))/\cells.size=cap*size/\RepE V size cells.toList es/\∀o,V.imm b o=none:=by
 obtain⟨blk,cap,h1,h2,h3,h4,h5,h6⟩:=hr.inv.objs r _ ho
 refine⟨blk,cap,h1,h2,h3,h4,?_,h5,?_⟩
 ·intro hb;subst hb;exact h6
 ·intro b hb;subst hb
  obtain⟨h7,cells,ty,h8,h9,h10,h11⟩:=h6
  exact⟨h7,cells,ty,h8,h9,⟨h5,fun i j hi hj=>by have:=h10 i j hi hj;simpa [List.getD_eq_getElem?_getD]using this⟩,h11⟩
theorem zW8(hr:RelW V w s){u:Value}{ax:AV}(hu:Rep V u ax){xs:List AV}{cx:Prop}(he:zGG s ax=some (xs,cx))(hcx:cx){size:Nat}(hsz:∀y∈xs,(cellsOf y).length=size):
 ∃base ad cap,∃news:List Value,u= .slice base xs.length cap/\(0<xs.length->base=some ad)/\news.length=xs.length*size/\(∀j v,news[j]?=some v->w.cell? (ad.add j)=some v)/\RepE V size news xs:=by
 cases ax with
 |sl es tk=>
  simp only[zGG,Option.some.injEq,Prod.mk.injEq]at he
  obtain⟨rfl,_⟩:=he
  obtain⟨base,cap,b,o,news,h1,_,_,h4,h5,h6,_,h8,_⟩:=zWG hr.inv.imm hu hsz
  exact⟨base,⟨b,o,none⟩,cap,news,h1,h4,h5,fun j v hv=>by rw[addr_add];exact h6 j v hv,h8⟩
 |ms r ver len=>
  simp only[zGG]at he
  split at he
  ·rename_i v' sz es ho
   simp only[Option.some.injEq,Prod.mk.injEq]at he
   obtain⟨rfl,hce⟩:=he
   rw[<-hce]at hcx
   obtain⟨rfl,hlen⟩:=hcx
   cases hu with
   |ms _ _ _ blk cap hl hcap hm _=>
    obtain⟨blk',cap',h1,_,h3,h4,h5,h6,h7⟩:=zCo hr ho
    rw[hl]at h1
    simp only[Option.some.injEq,Prod.mk.injEq]at h1
    obtain⟨rfl,rfl⟩:=h1
    have hlt:(es.take len).length=len:=by simp;omega
    cases blk with
    |none=>
     have:cap=0:=h5 rfl
     subst this
     have hl0:len=0:=by omega
     subst hl0
     exact⟨none,⟨0,0,none⟩,0,[],by simp[zDB],fun h=>absurd h (by simp),by simp,fun j v hv=>by simp at hv,⟨fun i hi=>absurd hi (by simp),fun i j hi=>absurd hi (by simp)⟩⟩
    |some b=>
     obtain⟨h8,cells,ty,h9,h10,h11,_⟩:=h7 b rfl
     have hE:RepE V size (cells.toList.take (len*sz)) (es.take len):=(h11.take len).resize hsz
     have hszeq:len*sz=len*size:=by
      rcases Nat.eq_zero_or_pos len with h0|h0
      ·simp[h0]
      ·have e1:=h6 0 (by omega)
       have e2:=hsz (es.getD 0 .any) (by
        rw[getD_lt _ (by omega)]
        exact List.mem_of_getElem? (show(es.take len)[0]?=some es[0]by simp[List.getElem?_take,h0,show 0<es.length by omega]))
       rw[<-e1,e2]
     refine⟨some ⟨b,0,none⟩,⟨b,0,none⟩,cap,cells.toList.take (len*sz),by rw[hlt];rfl,fun _=>rfl,?_,?_,hE⟩
     ·have:len*sz<=cap*sz:=Nat.mul_le_mul_right _ hcap
      have h0:len*sz<=cells.toList.length:=by rw[Array.length_toList,h10];exact this
      rw[List.length_take,Nat.min_eq_left h0,hlt,hszeq]
     ·intro j v hv
      rw[List.getElem?_take]at hv
      split at hv
      ·rw[addr_add];simp only[Nat.zero_add,World.cell?,h9];simpa using hv
      ·cases hv
  ·cases he
 |_=>simp[zGG]at he
theorem zWH{V':View}{size b n cap r:Nat}{cells:List Value}{es:List AV}{tk:Tk}(hn:es.length=n)(hc:n<=cap)(hm:cap<=maxLen)(hE:RepE V' size cells es)
 (hi:∀j,j<n*size->V'.imm b j=some (cells.getD j undef)) (ht:tk= .own r/\V'.loc r n=some (some b,cap)):Rep V' (.slice (some ⟨b,0,none⟩) n cap) (.sl es tk):=by
 subst hn
 refine .sl _ _ cap es tk size b 0 (fun j=>cells.getD j undef) rfl hc hm (fun _=>rfl) hE.1 (fun j hj=>by rw[Nat.zero_add];exact hi j hj) hE.2 ?_ ?_
 ·intro r' hr'
  obtain⟨rfl,h2⟩:=ht
  cases hr'
  exact⟨some b,h2,rfl⟩
 ·obtain⟨rfl,_⟩:=ht;exact⟨fun h=>(by cases h),fun h=>(by cases h)⟩
theorem zRq(hr:RelW V w s){r n size:Nat}(ho:s.obj r=some (.tok n size)){b cap:Nat}(hl:V.loc r n=some (some b,cap)){es xs:List AV}{olds news:List Value}
 (hn:es.length=n) (hE:RepE V size olds es) (hol:olds.length=n*size) (hoi:∀j v,olds[j]?=some v->V.imm b j=some v)
 (hX:RepE V size news xs) (hnl:news.length=xs.length*size) (hroom:n+xs.length<=cap):
 ∃cur et,w.heap[b]?=some (.cells cur et (0,0))/\n*size+news.length<=cur.size/\∃V',V.Le V'/\V.base<=b/\
  RelW V' (w.setRow b (cur.toList.take (n*size)++news++cur.toList.drop (n*size+news.length)).toArray) (s.setObj r (.tok (n+xs.length) size))/\
  Rep V' (.slice (some ⟨b,0,none⟩) (n+xs.length) cap) (.sl (es++xs) (.own r)):=by
 obtain⟨blk,cap',h1,h2,h3,h4,h5⟩:=hr.inv.objs r _ ho
 rw[hl]at h1
 simp only[Option.some.injEq,Prod.mk.injEq]at h1
 obtain⟨rfl,rfl⟩:=h1
 obtain⟨h6,cur,et,h7,h8,h9⟩:=h5
 have hfit:n*size+news.length<=cur.size:=by
  rw[hnl,h8,<-Nat.add_mul];exact Nat.mul_le_mul_right _ hroom
 refine⟨cur,et,h7,hfit,?_⟩
 let f:Nat->Option Value:=fun o=>if o<n*size then V.imm b o else if o<(n+xs.length)*size then news[o-n*size]? else none
 let V':View:= {base:=V.base,imm:=fun b' o=>if b'=b then f o else V.imm b' o,loc:=fun q m=>if q=r/\m=n+xs.length then some (some b,cap)else V.loc q m}
 have hle:V.Le V':=by
  refine⟨rfl,fun b' o v hv=> ?_,fun q m y hy=> ?_⟩
  ·by_cases hb':b'=b
   ·subst hb'
    have:o<n*size:=by
     rcases Nat.lt_or_ge o (n*size)with h|h
     ·exact h
     ·rw[h9 o h]at hv;cases hv
    simp[V',f,this,hv]
   ·simp[V',hb',hv]
  ·by_cases hq:q=r/\m=n+xs.length
   ·obtain⟨rfl,rfl⟩:=hq
    rcases Nat.eq_zero_or_pos xs.length with h0|h0
    ·rw[h0,Nat.add_zero,hl]at hy;simp[V',hy]
    ·rw[h2 _ (by omega)]at hy;cases hy
   ·simp[V',hq,hy]
 have hcells:∀o v,f o=some v->(cur.toList.take (n*size)++news++cur.toList.drop (n*size+news.length))[o]?=some v:=by
  intro o v hv
  have ht:(cur.toList.take (n*size)).length=n*size:=by simp;omega
  simp only[f]at hv
  split at hv
  ·rename_i hlt
   have:=hr.inv.imm _ _ _ hv
   rw[List.append_assoc,List.getElem?_append_left (by omega),List.getElem?_take,if_pos hlt]
   simpa [World.cell?,h7]using this
  ·split at hv
   ·rename_i h10 h11
    rw[Nat.add_mul]at h11
    rw[List.append_assoc,List.getElem?_append_right (by omega),ht,List.getElem?_append_left (by omega)]
    exact hv
   ·cases hv
 have hlocn:V'.loc r (n+xs.length)=some (some b,cap):=by simp[V']
 refine⟨V',hle,h6,?_,?_⟩
 ·refine hr.setObj ho (hr.inv.write r _ (.tok (n+xs.length) size) ho b (by simp[own,hl]) (by simp[World.setRow]) (fun k hk=>setRow_other w b k _ hk) V' hle ?_ ?_ ?_ ?_ ?_) (fun _=>rfl)
  ·intro b1 o hb1;simp[V',hb1]
  ·intro o v hv
   simp only[V',if_true]at hv
   have h12:=hcells o v hv
   simp only[World.cell?,setRow_heap w b cur _ et _ h7]
   simpa using h12
  ·intro q m hq;simp[V',hq]
  ·refine⟨some b,cap,hlocn,fun m hm'=> ?_,hroom,h4,h6,_,et,setRow_heap w b cur _ et _ h7,?_,fun o ho'=> ?_⟩
   ·have:¬(m=n+xs.length):=by omega
    simp[V',this,h2 m (by omega)]
   ·simp[List.length_append];omega
   ·have h10:¬o<n*size:=by rw[Nat.add_mul]at ho';omega
    have h11:¬o<(n+xs.length)*size:=by omega
    simp[V',f,h10,h11]
  ·simp[own,hlocn]
 ·have hE':RepE V' size (olds++news++ []) (es++xs):=(hE.mono hle).append (hX.mono hle) (by rw[hn];exact hol) hnl
  rw[List.append_nil]at hE'
  refine zWH (by simp[hn]) hroom h4 hE' ?_ ⟨rfl,hlocn⟩
  intro j hj
  have hj':j<n*size+xs.length*size:=by rw[<-Nat.add_mul];exact hj
  by_cases h10:j<n*size
  ·rw[zIX _ _ _ (by omega)]
   have h11:=hoi j _ (List.getElem?_eq_getElem (show j<olds.length by omega))
   simp[V',f,h10,h11,List.getD_eq_getElem?_getD,show j<olds.length by omega]
  ·rw[zIY _ _ _ (by omega),hol]
   have h12:j-n*size<news.length:=by omega
   simp[V',f,h10,show j<(n+xs.length)*size from hj,List.getD_eq_getElem?_getD,h12]
theorem zRs(hr:RelW V w s){r:Nat}{n size:Nat}{s':AState}(hs':(∀V' w',Inv V' (fun q=>if q=r then some (.tok n size)else s.obj q) w'->RelW V' w' s'))
 (hloc:∀m,n<=m->V.loc r m=none) {es:List AV} {cells:Array Value} (hn:es.length=n) (hE:RepE V size cells.toList es) {cap:Nat} (hc:n<=cap) (hm:cap<=maxLen) (hsz:cells.size=cap*size) (et:TypeId):
 ∃V',V.Le V'/\RelW V' (w.alloc (.cells cells et)) s'/\Rep V' (.slice (some ⟨w.heap.size,0,none⟩) n cap) (.sl es (.own r)):=by
 let V' : View := { base:=V.base,imm:=fun b' o=>if b'=w.heap.size then(if o<n*size then cells[o]? else none)else V.imm b' o,
                    loc:=fun q m=>if q=r/\m=n then some (some w.heap.size,cap)else V.loc q m}
 have hle:V.Le V':=by
  refine⟨rfl,fun b' o v hv=> ?_,fun q m y hy=> ?_⟩
  ·have:=hr.inv.zLZ hv
   have:¬b'=w.heap.size:=by omega
   simp[V',this,hv]
  ·by_cases hq:q=r/\m=n
   ·obtain⟨rfl,rfl⟩:=hq;rw[hloc m (Nat.le_refl _)]at hy;cases hy
   ·simp[V',hq,hy]
 have hlocn:V'.loc r n=some (some w.heap.size,cap):=by simp[V']
 refine⟨V',hle,hs' _ _ (hr.inv.upd hle r _ (by simp) ?_ ?_ ?_ ?_ ?_),?_⟩
 ·intro b o v hv
  by_cases hb:b=w.heap.size
  ·subst hb
   simp only[V',if_true]at hv
   split at hv
   ·rw[World.cell?_alloc_new];exact hv
   ·cases hv
  ·simp only[V',hb,if_false]at hv
   rw[World.cell?_alloc_old w _ ⟨b,o,none⟩ hb]
   exact hr.inv.imm b o v hv
 ·intro r1 x1 hne ho b hb
  have hlt:=((hr.inv.objs r1 x1 ho).zRr hb).2
  refine⟨zLF w _ hlt,fun o hn=> ?_⟩
  have:¬b=w.heap.size:=by omega
  simp[V',this,hn]
 ·intro r1 m hne;simp[V',hne]
 ·refine⟨some w.heap.size,cap,hlocn,fun m hm'=> ?_,hc,hm,hr.inv.base,cells,et,heap_alloc_new w _,hsz,fun o ho=> ?_⟩
  ·have:¬m=n:=by omega
   simp[V',this,hloc m (by omega)]
  ·have:¬o<n*size:=by omega
   simp[V',this]
 ·intro b hb r1 x1 hne ho hb1
  simp only[own,hlocn,Option.bind_some,Option.some.injEq]at hb
  subst hb
  exact absurd ((hr.inv.objs r1 x1 ho).zRr hb1).2 (by omega)
 ·refine zWH hn hc hm (hE.mono hle) ?_ ⟨rfl,hlocn⟩
  intro j hj
  have h1:j<cells.size:=by
   have:n*size<=cap*size:=Nat.mul_le_mul_right _ hc
   omega
  simp[V',hj,List.getD_eq_getElem?_getD,h1]
theorem zCp(hr:RelW V w s){r ver size len:Nat}{es xs:List AV}(ho:s.obj r=some (.arr ver size es))(hlen:len<=es.length){b cap:Nat}(hl:V.loc r ver=some (some b,cap))
 {news:List Value} (hX:RepE V size news xs) (hnl:news.length=xs.length*size) (hroom:len+xs.length<=cap) (hbel:r<s.b->AV.belL s.b xs=true):
 ∃cur et,w.heap[b]?=some (.cells cur et (0,0))/\len*size+news.length<=cur.size/\∃V',V.Le V'/\V.base<=b/\
  RelW V' (w.setRow b (cur.toList.take (len*size)++news++cur.toList.drop (len*size+news.length)).toArray) (s.setObj r (.arr (ver+1) size (es.take len++xs)))/\
  Rep V' (.slice (some ⟨b,0,none⟩) (len+xs.length) cap) (.ms r (ver+1) (len+xs.length)):=by
 obtain⟨blk,cap',h1,h2,h3,h4,_,hszs,h5⟩:=zCo hr ho
 rw[hl]at h1
 simp only[Option.some.injEq,Prod.mk.injEq]at h1
 obtain⟨rfl,rfl⟩:=h1
 obtain⟨h6,cur,et,h7,h8,h9,h10⟩:=h5 b rfl
 have hfit:len*size+news.length<=cur.size:=by
  rw[hnl,h8,<-Nat.add_mul];exact Nat.mul_le_mul_right _ hroom
 refine⟨cur,et,h7,hfit,?_⟩
 let V':View:= {V with loc:=fun q m=>if q=r/\m=ver+1 then some (some b,cap)else V.loc q m}
 have hle:V.Le V':=⟨rfl,fun _ _ _ h=>h,fun q m y hy=>by
  by_cases hq:q=r/\m=ver+1
  ·obtain⟨rfl,rfl⟩:=hq;rw[h2 _ (Nat.lt_succ_self _)]at hy;cases hy
  ·simp[V',hq,hy]⟩
 have hlocn:V'.loc r (ver+1)=some (some b,cap):=by simp[V']
 have htl:(es.take len).length=len:=by simp;omega
 have hlt:(cur.toList.take (len*size)).length=len*size:=by simp;omega
 have hE:RepE V' size (cur.toList.take (len*size)++news++cur.toList.drop (len*size+news.length)) (es.take len++xs):=
  ((h9.take len).mono hle).append (hX.mono hle) (by rw[htl,hlt]) hnl
 refine⟨V',hle,h6,?_,.ms r (ver+1) (len+xs.length) (some b) cap hlocn hroom h4 (fun h=>by cases h)⟩
 refine hr.setObj ho (hr.inv.write r _ (.arr (ver+1) size (es.take len++xs)) ho b (by simp[own,hl]) (by simp[World.setRow]) (fun k hk=>setRow_other w b k _ hk) V' hle
  (fun _ _ _=>rfl) (fun o v hv=>by rw[h10 o]at hv;cases hv) (fun q m hq=>by simp[V',hq]) ?_ (by simp[own,hlocn])) ?_
 ·refine⟨some b,cap,hlocn,fun m hm'=> ?_,by simp only[List.length_append,htl];exact hroom,h4,hE.1,h6,_,et,setRow_heap w b cur _ et _ h7,?_,fun i j hi hj=> ?_,h10⟩
  ·have:¬m=ver+1:=by omega
   simp[V',this,h2 m (by omega)]
  ·simp[List.length_append];omega
  ·have:=hE.2 i j hi hj
   simpa [List.getD_eq_getElem?_getD]using this
 ·intro hlt'
  have hb0:AV.belL s.b es=true:=by
   have:=hr.bel (.arr ver size es) (by unfold AState.obj at ho;rw[if_pos hlt']at ho;exact List.mem_of_getElem? ho)
   exact this
  have hb1:=hbel hlt'
  simp only[AObj.bel]
  rw[zDV]at*
  intro x hx
  rcases List.mem_append.1 hx with h|h
  ·exact hb0 x (List.mem_of_mem_take h)
  ·exact hb1 x h
theorem zCr(hr:RelW V w s){r ver size:Nat}{es':List AV}{x:AObj}(ho:s.obj r=some x){s':AState}(hs':(∀V' w',Inv V' (fun q=>if q=r then some (.arr ver size es')else s.obj q) w'->RelW V' w' s'))
 (hloc:∀m,ver<=m->V.loc r m=none) {cells:Array Value} (hE:RepE V size cells.toList es') {cap:Nat} (hc:es'.length<=cap) (hm:cap<=maxLen) (hsz:cells.size=cap*size) (et:TypeId):
 ∃V',V.Le V'/\RelW V' (w.alloc (.cells cells et)) s'/\Rep V' (.slice (some ⟨w.heap.size,0,none⟩) es'.length cap) (.ms r ver es'.length):=by
 let V':View:= {V with loc:=fun q m=>if q=r/\m=ver then some (some w.heap.size,cap)else V.loc q m}
 have hle:V.Le V':=⟨rfl,fun _ _ _ h=>h,fun q m y hy=>by
  by_cases hq:q=r/\m=ver
  ·obtain⟨rfl,rfl⟩:=hq;rw[hloc _ (Nat.le_refl _)]at hy;cases hy
  ·simp[V',hq,hy]⟩
 have hlocn:V'.loc r ver=some (some w.heap.size,cap):=by simp[V']
 refine⟨V',hle,hs' _ _ (hr.inv.upd hle r _ (by simp) ?_ ?_ ?_ ?_ ?_),.ms r ver es'.length (some w.heap.size) cap hlocn hc hm (fun h=>by cases h)⟩
 ·intro b o v hv
  have hlt:=hr.inv.zLZ (show V.imm b o=some v from hv)
  rw[World.cell?_alloc_old w _ ⟨b,o,none⟩ (by simp;omega)]
  exact hr.inv.imm b o v hv
 ·intro r1 x1 hne ho1 b hb
  exact⟨zLF w _ ((hr.inv.objs r1 x1 ho1).zRr hb).2,fun _ h=>h⟩
 ·intro r1 m hne;simp[V',hne]
 ·refine⟨some w.heap.size,cap,hlocn,fun m hm'=> ?_,hc,hm,hE.1,hr.inv.base,cells,et,heap_alloc_new w _,hsz,fun i j hi hj=> ?_,fun o=>hr.inv.zLa (Nat.le_refl _) o⟩
  ·have:¬m=ver:=by omega
   simp[V',this,hloc m (by omega)]
  ·have:=(hE.mono hle).2 i j hi hj
   simpa [List.getD_eq_getElem?_getD]using this
 ·intro b hb r1 x1 hne ho1 hb1
  simp only[own,hlocn,Option.bind_some,Option.some.injEq]at hb
  subst hb
  exact absurd ((hr.inv.objs r1 x1 ho1).zRr hb1).2 (by omega)
end
end Go.Ab
/- The executor's append, on its states: joined. Condition: the executor's table of types is the program's. -/
set_option linter.unusedSimpArgs false
namespace Go.Ab
open Go.RowKit (Below)
section
variable {P : Program} {C : Cfg} {V : View} {w : World} {s : AState}
theorem zDf{B:Nat}(w:World)(o:Obj)(h:B<=w.heap.size):Below B w (w.drew.alloc o):=((Below.refl B w).drew).alloc h o
theorem zCZ(hC:zAb P C)(hr:RelW V w s){inpl:Bool}{t ty:Nat}{a x:AV}{va vx:Value}(ha:Rep V va a)(hx:Rep V vx x){out:Out}
 (h:zF2 C inpl t s a x=some out) (hc:out.c):
 ∃u w' V',(Builtin.append_ #[t,t] ty #[va,vx]).run P w= .ok u w'/\V.Le V'/\Below V.base w w'/\RelW V' w' out.s/\out.s.env=s.env/\out.s.n=s.n/\out.s.b=s.b/\Rep V' u out.v:=by
 unfold zF2 at h
 split at h
 case h_2=>cases h
 rename_i e sz by_ ze hty
 split at h
 case h_2=>cases h
 rename_i le xs cx hle hxs
 obtain⟨d,hd1,hd2⟩:=(hC _ _ hty).desc
 simp only[zAe]at hd2
 subst hd2
 obtain⟨i,z,hi1,hi2,hi3,hi4,_,_⟩:=(hC _ _ hle).info
 have hz:∀n,(Builtin.zeroCells z.cells n).size=n*i.size:=fun n=>by
  obtain⟨i',z',g1,g2,g3,g4,g5,g6⟩:=(hC _ _ hle).info
  have hTs:=(hC _ _ hle).size
  have hTo:=(hC _ _ hle).solid
  rw[hi1]at g1;cases g1
  rw[hi4]at g4;cases g4
  have hrep:=zQ7 V g5
  rw[g6]at hrep
  have h1:=(hrep.cells hTo).1
  rw[size_zeroCells,h1,hTs,hi2]
 split at h
 ·
  rename_i es tk
  split at h
  ·
   rename_i r
   split at h
   case h_2=>cases h
   rename_i n size ho
   simp only[Option.some.injEq]at h
   subst h
   obtain⟨hcx,hn,hsz,hmax,hby,hes,hxss⟩:=hc
   subst hsz
   subst hn
   obtain⟨base,cap,b,o,olds,rfl,hle1,hcm,hb,hol,hoc,hoi,hE,hown,_⟩:=zWG hr.inv.imm ha hes
   obtain⟨blk,hl,hbase⟩:=hown r rfl
   obtain⟨xbase,ad,xcap,news,rfl,hxb,hnl,hnc,hX⟩:=zW8 hr hx hxs hcx (fun y hy=>(hxss y hy).2)
   have hone:∀u∈news,u.oneCell'=true:=hX.zRX (fun y hy=>(hxss y hy).1) hnl
   by_cases hroom:es.length+xs.length<=cap
   ·cases blk with
    |none=>
     obtain⟨blk',cap',h1,_,h3,h4,h5⟩:=hr.inv.objs r _ ho
     rw[hl]at h1
     simp only[Option.some.injEq,Prod.mk.injEq]at h1
     obtain⟨rfl,rfl⟩:=h1
     simp only at h5
     subst h5
     have h0:es=[]:=List.eq_nil_of_length_eq_zero (by omega)
     have h00:xs=[]:=List.eq_nil_of_length_eq_zero (by omega)
     subst h0;subst h00
     subst hbase
     refine⟨_,w,V,zUl w hd1 hi1 hxb (by simpa using hnl) hnc,.refl V,.refl _ _,?_,zVZ _ _ _,zVe _ _ _,zVX _ _ _,ha⟩
     have hsame:s.setObj r (.tok (0+0) le.size)=s:=by
      unfold AState.setObj
      unfold AState.obj at ho
      split
      ·rename_i hlt
       rw[if_pos hlt]at ho
       have h9:s.H.set r (.tok (0+0) le.size)=s.H:=by
        apply List.ext_getElem?;intro k
        rw[List.getElem?_set]
        split
        ·rename_i hk;subst hk;rw[if_pos (List.getElem?_eq_some_iff.1 ho).1,ho];rfl
        ·rfl
       rw[h9]
      ·rename_i hlt
       rw[if_neg hlt]at ho
       have h9:s.L.set (r-s.b) (.tok (0+0) le.size)=s.L:=by
        apply List.ext_getElem?;intro k
        rw[List.getElem?_set]
        split
        ·rename_i hk;subst hk;rw[if_pos (List.getElem?_eq_some_iff.1 ho).1,ho];rfl
        ·rfl
       rw[h9]
     show RelW V w (s.setObj r (.tok (0+0) le.size))
     rw[hsame];exact hr
    |some b'=>
     subst hbase
     have hoi':∀j v,olds[j]?=some v->V.imm b' j=some v:=fun j v hv=>by
      have h0:0<es.length:=by
       rcases Nat.eq_zero_or_pos es.length with h0|h0
       ·rw[h0]at hol;simp at hol;subst hol;simp at hv
       ·exact h0
      have h1:=hb h0
      simp only[zDB,Option.map_some,Option.some.injEq,Addr.mk.injEq]at h1
      obtain⟨rfl,rfl,_⟩:=h1
      simpa using hoi j v hv
     obtain⟨cur,et,hg,hfit,V',hV',hbb,hrel,hrep⟩:=zRq hr ho hl rfl hE hol hoi' hX hnl hroom
     have hrun:=zUk (P:=P) w (ty:=ty) hd1 hi1 hg (n:=es.length) (cap:=cap) hxb (c:=xcap) (by rw[hi2];exact hnl) hnc hone hroom (by rw[hi2];exact hfit)
     rw[hi2]at hrun
     exact⟨_,_,V',hrun,hV',below_setRow w b' _ hbb,hrel,zVZ _ _ _,zVe _ _ _,zVX _ _ _,hrep⟩
   ·obtain⟨blk',cap',h1,h2,h3,h4,h5⟩:=hr.inv.objs r _ ho
    rw[hl]at h1
    simp only[Option.some.injEq,Prod.mk.injEq]at h1
    obtain⟨rfl,rfl⟩:=h1
    obtain⟨nc,hnc1,hnc2,hrun⟩:=zUm (P:=P) w (ty:=ty) hd1 hi1 hi4 (ad0:=⟨b,o,none⟩) (n:=es.length) (cap:=cap) hb (by rw[hi2];exact hol) (fun j v hv=>by rw[addr_add];exact hoc j v hv)
     hxb (c:=xcap) (by rw[hi2];exact hnl) hnc (by omega) (by rw[hi3];exact hby) hmax
    have hE2:=hE.append (c3:=(Builtin.zeroCells z.cells (nc-(es.length+xs.length))).toList) hX hol hnl
    obtain⟨V',hV',hrel,hrep⟩:=zRs hr.drew (r:=r) (n:=es.length+xs.length) (size:=le.size) (s':=s.setObj r (.tok (es.length+xs.length) le.size))
     (fun V' w' hI=>RelW.setObj hr.drew ho hI (fun _=>rfl)) (fun m hm=>h2 m (by omega)) (es:=es++xs)
     (cells:=(olds++news++(Builtin.zeroCells z.cells (nc-(es.length+xs.length))).toList).toArray) (by simp) hE2 hnc1 hnc2
     (by simp only[List.size_toArray,List.length_append,Array.length_toList,hz,hol,hnl,hi2,<-Nat.add_mul];congr 1;omega) e
    exact⟨_,_,V',hrun,hV',zDf w _ hr.inv.base,hrel,zVZ _ _ _,zVe _ _ _,zVX _ _ _,hrep⟩
  ·
   split at h
   ·simp only[Option.some.injEq]at h
    subst h
    have hcx:=hc
    obtain⟨xbase,ad,xcap,news,rfl,hxb,hnl,hnc,hX⟩:=zW8 (size:=0) hr hx hxs hcx (fun y hy=>by simp at hy)
    cases ha with
    |sl bse len cap _ _ size b o val hl hcap hm hb hs hi hrr ht hf=>
     refine⟨.slice bse len cap,w,V,?_,.refl V,.refl _ _,hr,rfl,rfl,rfl,.sl bse len cap es .full size b o val hl hcap hm hb hs hi hrr ht hf⟩
     have hf0:(Builtin.firstCells i.size 0 (.slice xbase 0 xcap)).run P w= .ok #[] w:=by
      have:=zUz (P:=P) w i.size 0 xcap xbase ad [] (fun h=>absurd h (by omega)) (by simp) (fun j v hv=>by simp at hv)
      simpa using this
     cases bse with
     |none=>simp[Builtin.append_,Go.run_underlying hd1,sizeOf,typeInfo,hi1,Builtin.lenOf,hf0,hcap]
     |some a0=>simp[Builtin.append_,Go.run_underlying hd1,sizeOf,typeInfo,hi1,Builtin.lenOf,hf0,hcap,storeCells]
   ·rename_i x0 xs0
    split at h
    ·
     simp only[Option.some.injEq]at h
     subst h
     obtain⟨hcx,hmax,hby,hes,hxss⟩:=hc
     obtain⟨base,cap,b,o,olds,rfl,hle1,hcm,hb,hol,hoc,hoi,hE,_,hfull⟩:=zWG hr.inv.imm ha hes
     obtain⟨xbase,ad,xcap,news,rfl,hxb,hnl,hnc,hX⟩:=zW8 hr hx hxs hcx (fun y hy=>(hxss y hy).2)
     have hcapn:=hfull (.inl rfl)
     have hpos:0<(x0::xs0).length:=by simp
     obtain⟨nc,hnc1,hnc2,hrun⟩:=zUm (P:=P) w (ty:=ty) hd1 hi1 hi4 (ad0:=⟨b,o,none⟩) (n:=es.length) (cap:=cap) hb (by rw[hi2];exact hol) (fun j v hv=>by rw[addr_add];exact hoc j v hv)
      hxb (c:=xcap) (by rw[hi2];exact hnl) hnc (by omega) (by rw[hi3];exact hby) hmax
     have hE2:=hE.append (c3:=(Builtin.zeroCells z.cells (nc-(es.length+(x0::xs0).length))).toList) hX hol hnl
     obtain⟨V',hV',hlocn,hrel⟩:=zP6 hr.drew (cells:=(olds++news++(Builtin.zeroCells z.cells (nc-(es.length+(x0::xs0).length))).toList).toArray) (cap:=nc) hE2 (by simp only[List.length_append];exact hnc1) hnc2
      (by simp only[List.size_toArray,List.length_append,Array.length_toList,hz,hol,hnl,hi2,<-Nat.add_mul];congr 1;omega) e
     exact⟨_,_,V',hrun,hV',zDf w _ hr.inv.base,hrel,rfl,rfl,rfl,.ms _ _ _ (some w.heap.size) nc hlocn hnc1 hnc2 (fun h=>by cases h)⟩
    ·simp only[Option.some.injEq]at h
     subst h
     obtain⟨hcx,hmax,hby,hes,hxss⟩:=hc
     obtain⟨base,cap,b,o,olds,rfl,hle1,hcm,hb,hol,hoc,hoi,hE,_,hfull⟩:=zWG hr.inv.imm ha hes
     obtain⟨xbase,ad,xcap,news,rfl,hxb,hnl,hnc,hX⟩:=zW8 hr hx hxs hcx (fun y hy=>(hxss y hy).2)
     have hcapn:=hfull (.inl rfl)
     have hpos:0<(x0::xs0).length:=by simp
     obtain⟨nc,hnc1,hnc2,hrun⟩:=zUm (P:=P) w (ty:=ty) hd1 hi1 hi4 (ad0:=⟨b,o,none⟩) (n:=es.length) (cap:=cap) hb (by rw[hi2];exact hol) (fun j v hv=>by rw[addr_add];exact hoc j v hv)
      hxb (c:=xcap) (by rw[hi2];exact hnl) hnc (by omega) (by rw[hi3];exact hby) hmax
     have hE2:=hE.append (c3:=(Builtin.zeroCells z.cells (nc-(es.length+(x0::xs0).length))).toList) hX hol hnl
     have hnone:∀m,V.loc (s.b+s.L.length) m=none:=fun m=>by
      cases hm:V.loc (s.b+s.L.length) m with
      |none=>rfl
      |some y=>have:=hr.inv.dom _ m y hm;rw[zQz]at this;simp at this
     obtain⟨V',hV',hrel,hrep⟩:=zRs hr.drew (r:=s.b+s.L.length) (n:=es.length+(x0::xs0).length) (size:=le.size) (s':=s.new (.tok (es.length+(x0::xs0).length) le.size))
      (fun V' w' hI=>RelW.new hr.drew _ hI) (fun m _=>hnone m) (es:=es++x0::xs0)
      (cells:=(olds++news++(Builtin.zeroCells z.cells (nc-(es.length+(x0::xs0).length))).toList).toArray) (by simp) hE2 hnc1 hnc2
      (by simp only[List.size_toArray,List.length_append,Array.length_toList,hz,hol,hnl,hi2,<-Nat.add_mul];congr 1;omega) e
     exact⟨_,_,V',hrun,hV',zDf w _ hr.inv.base,hrel,rfl,rfl,rfl,hrep⟩
  ·
   split at h
   ·simp only[Option.some.injEq]at h
    subst h
    have hcx:=hc
    obtain⟨xbase,ad,xcap,news,rfl,hxb,hnl,hnc,hX⟩:=zW8 (size:=0) hr hx hxs hcx (fun y hy=>by simp at hy)
    cases ha with
    |sl bse len cap _ _ size b o val hl hcap hm hb hs hi hrr ht hf=>
     refine⟨.slice bse len cap,w,V,?_,.refl V,.refl _ _,hr,rfl,rfl,rfl,.sl bse len cap es .cap size b o val hl hcap hm hb hs hi hrr ht hf⟩
     have hf0:(Builtin.firstCells i.size 0 (.slice xbase 0 xcap)).run P w= .ok #[] w:=by
      have:=zUz (P:=P) w i.size 0 xcap xbase ad [] (fun h=>absurd h (by omega)) (by simp) (fun j v hv=>by simp at hv)
      simpa using this
     cases bse with
     |none=>simp[Builtin.append_,Go.run_underlying hd1,sizeOf,typeInfo,hi1,Builtin.lenOf,hf0,hcap]
     |some a0=>simp[Builtin.append_,Go.run_underlying hd1,sizeOf,typeInfo,hi1,Builtin.lenOf,hf0,hcap,storeCells]
   ·rename_i x0 xs0
    split at h
    ·
     simp only[Option.some.injEq]at h
     subst h
     obtain⟨hcx,hmax,hby,hes,hxss⟩:=hc
     obtain⟨base,cap,b,o,olds,rfl,hle1,hcm,hb,hol,hoc,hoi,hE,_,hfull⟩:=zWG hr.inv.imm ha hes
     obtain⟨xbase,ad,xcap,news,rfl,hxb,hnl,hnc,hX⟩:=zW8 hr hx hxs hcx (fun y hy=>(hxss y hy).2)
     have hcapn:=hfull (.inr rfl)
     have hpos:0<(x0::xs0).length:=by simp
     obtain⟨nc,hnc1,hnc2,hrun⟩:=zUm (P:=P) w (ty:=ty) hd1 hi1 hi4 (ad0:=⟨b,o,none⟩) (n:=es.length) (cap:=cap) hb (by rw[hi2];exact hol) (fun j v hv=>by rw[addr_add];exact hoc j v hv)
      hxb (c:=xcap) (by rw[hi2];exact hnl) hnc (by omega) (by rw[hi3];exact hby) hmax
     have hE2:=hE.append (c3:=(Builtin.zeroCells z.cells (nc-(es.length+(x0::xs0).length))).toList) hX hol hnl
     obtain⟨V',hV',hlocn,hrel⟩:=zP6 hr.drew (cells:=(olds++news++(Builtin.zeroCells z.cells (nc-(es.length+(x0::xs0).length))).toList).toArray) (cap:=nc) hE2 (by simp only[List.length_append];exact hnc1) hnc2
      (by simp only[List.size_toArray,List.length_append,Array.length_toList,hz,hol,hnl,hi2,<-Nat.add_mul];congr 1;omega) e
     exact⟨_,_,V',hrun,hV',zDf w _ hr.inv.base,hrel,rfl,rfl,rfl,.ms _ _ _ (some w.heap.size) nc hlocn hnc1 hnc2 (fun h=>by cases h)⟩
    ·simp only[Option.some.injEq]at h
     subst h
     obtain⟨hcx,hmax,hby,hes,hxss⟩:=hc
     obtain⟨base,cap,b,o,olds,rfl,hle1,hcm,hb,hol,hoc,hoi,hE,_,hfull⟩:=zWG hr.inv.imm ha hes
     obtain⟨xbase,ad,xcap,news,rfl,hxb,hnl,hnc,hX⟩:=zW8 hr hx hxs hcx (fun y hy=>(hxss y hy).2)
     have hcapn:=hfull (.inr rfl)
     have hpos:0<(x0::xs0).length:=by simp
     obtain⟨nc,hnc1,hnc2,hrun⟩:=zUm (P:=P) w (ty:=ty) hd1 hi1 hi4 (ad0:=⟨b,o,none⟩) (n:=es.length) (cap:=cap) hb (by rw[hi2];exact hol) (fun j v hv=>by rw[addr_add];exact hoc j v hv)
      hxb (c:=xcap) (by rw[hi2];exact hnl) hnc (by omega) (by rw[hi3];exact hby) hmax
     have hE2:=hE.append (c3:=(Builtin.zeroCells z.cells (nc-(es.length+(x0::xs0).length))).toList) hX hol hnl
     have hnone:∀m,V.loc (s.b+s.L.length) m=none:=fun m=>by
      cases hm:V.loc (s.b+s.L.length) m with
      |none=>rfl
      |some y=>have:=hr.inv.dom _ m y hm;rw[zQz]at this;simp at this
     obtain⟨V',hV',hrel,hrep⟩:=zRs hr.drew (r:=s.b+s.L.length) (n:=es.length+(x0::xs0).length) (size:=le.size) (s':=s.new (.tok (es.length+(x0::xs0).length) le.size))
      (fun V' w' hI=>RelW.new hr.drew _ hI) (fun m _=>hnone m) (es:=es++x0::xs0)
      (cells:=(olds++news++(Builtin.zeroCells z.cells (nc-(es.length+(x0::xs0).length))).toList).toArray) (by simp) hE2 hnc1 hnc2
      (by simp only[List.size_toArray,List.length_append,Array.length_toList,hz,hol,hnl,hi2,<-Nat.add_mul];congr 1;omega) e
     exact⟨_,_,V',hrun,hV',zDf w _ hr.inv.base,hrel,rfl,rfl,rfl,hrep⟩
  ·cases h
 ·
  rename_i r ver len
  split at h
  case h_2=>cases h
  rename_i v' size es ho
  simp only[Option.some.injEq]at h
  subst h
  obtain⟨hcx,rfl,hlen,rfl,hmax,hby,hxss,hbel⟩:=hc
  obtain⟨xbase,ad,xcap,news,rfl,hxb,hnl,hnc,hX⟩:=zW8 hr hx hxs hcx (fun y hy=>(hxss y hy).2)
  have hone:∀u∈news,u.oneCell'=true:=hX.zRX (fun y hy=>(hxss y hy).1) hnl
  cases ha with
  |ms _ _ _ blk cap hl hcap hm _=>
   obtain⟨blk',cap',h1,h2,h3,h4,h5,h6,h7⟩:=zCo hr ho
   rw[hl]at h1
   simp only[Option.some.injEq,Prod.mk.injEq]at h1
   obtain⟨rfl,rfl⟩:=h1
   have htl:(es.take len).length=len:=by simp;omega
   by_cases hroom:len+xs.length<=cap
   ·cases blk with
    |none=>
     have h8:=h5 rfl
     subst h8
     have h0:len=0:=by omega
     subst h0
     have h00:xs=[]:=List.eq_nil_of_length_eq_zero (by omega)
     subst h00
     have h9:es=[]:=List.eq_nil_of_length_eq_zero (by omega)
     subst h9
     let V':View:= {V with loc:=fun q m=>if q=r/\m=v'+1 then some (none,0)else V.loc q m}
     have hle:V.Le V':=⟨rfl,fun _ _ _ h=>h,fun q m y hy=>by
      by_cases hq:q=r/\m=v'+1
      ·obtain⟨rfl,rfl⟩:=hq;rw[h2 _ (Nat.lt_succ_self _)]at hy;cases hy
      ·simp[V',hq,hy]⟩
     have hlocn:V'.loc r (v'+1)=some (none,0):=by simp[V']
     refine⟨_,w,V',zUl w hd1 hi1 hxb (by simpa using hnl) hnc,hle,.refl _ _,?_,zVZ _ _ _,zVe _ _ _,zVX _ _ _,.ms r (v'+1) 0 none 0 hlocn (Nat.le_refl _) (Nat.zero_le _) (fun _=>rfl)⟩
     refine hr.setObj ho (hr.inv.upd hle r _ (Nat.le_refl _) hr.inv.imm (fun _ _ _ _ _ _=>⟨rfl,fun _ h=>h⟩) (fun q m hq=>by simp[V',hq]) ?_ (fun b hb=>by simp[own,hlocn]at hb)) (fun _=>by simp[AObj.bel,AV.belL])
     refine⟨none,0,hlocn,fun m hm'=> ?_,by simp,Nat.zero_le _,fun i hi=>absurd hi (by simp),rfl⟩
     have:¬m=v'+1:=by omega
     simp[V',this,h2 m (by omega)]
    |some b=>
     obtain⟨cur,et,hg,hfit,V',hV',hbb,hrel,hrep⟩:=zCp hr ho hlen hl hX hnl hroom hbel
     have hrun:=zUk (P:=P) w (ty:=ty) hd1 hi1 hg (n:=len) (cap:=cap) hxb (c:=xcap) (by rw[hi2];exact hnl) hnc hone hroom (by rw[hi2];exact hfit)
     rw[hi2]at hrun
     exact⟨_,_,V',hrun,hV',below_setRow w b _ hbb,hrel,zVZ _ _ _,zVe _ _ _,zVX _ _ _,hrep⟩
   ·
    obtain⟨olds,hol,hoc,hE⟩:∃olds:List Value,olds.length=len*le.size/\(0<len->∃b,blk=some b/\∀j v,olds[j]?=some v->w.cell? ⟨b,j,none⟩=some v)/\RepE V le.size olds (es.take len):=by
     cases blk with
     |none=>
      have h8:=h5 rfl
      have h0:len=0:=by omega
      subst h0
      exact⟨[],by simp,fun h=>absurd h (by omega),⟨fun i hi=>absurd hi (by simp),fun i j hi=>absurd hi (by simp)⟩⟩
     |some b=>
      obtain⟨h8,cells,et,h9,h10,h11,_⟩:=h7 b rfl
      have hle2:len*le.size<=cap*le.size:=Nat.mul_le_mul_right _ hcap
      refine⟨cells.toList.take (len*le.size),by simp;omega,fun _=>⟨b,rfl,fun j v hv=> ?_⟩,h11.take len⟩
      rw[List.getElem?_take]at hv
      split at hv
      ·simp only[World.cell?,h9];simpa using hv
      ·cases hv
    obtain⟨nc,hnc1,hnc2,hrun⟩:=zUm (P:=P) w (ty:=ty) hd1 hi1 hi4 (base0:=zDB blk) (ad0:=⟨blk.getD 0,0,none⟩) (n:=len) (cap:=cap)
     (fun h0=>by obtain⟨b,hb,_⟩:=hoc h0;subst hb;rfl) (by rw[hi2];exact hol) (fun j v hv=>by
      have h0:0<len:=by
       rcases Nat.eq_zero_or_pos len with h0|h0
       ·rw[h0]at hol;simp at hol;subst hol;simp at hv
       ·exact h0
      obtain⟨b,hb,hbc⟩:=hoc h0
      subst hb
      rw[addr_add];simpa using hbc j v hv)
     hxb (c:=xcap) (by rw[hi2];exact hnl) hnc (by omega) (by rw[hi3];exact hby) hmax
    have hE2:=hE.append (c3:=(Builtin.zeroCells z.cells (nc-(len+xs.length))).toList) hX (by rw[htl];exact hol) hnl
    have hlen2:(es.take len++xs).length=len+xs.length:=by rw[List.length_append,htl]
    obtain⟨V',hV',hrel,hrep⟩:=zCr hr.drew (r:=r) (ver:=v'+1) (size:=le.size) (es':=es.take len++xs) ho (s':=s.setObj r (.arr (v'+1) le.size (es.take len++xs)))
     (fun V' w' hI=>RelW.setObj hr.drew ho hI (fun hlt=>by
      have hb0:AV.belL s.b es=true:=by
       have:=hr.bel (.arr v' le.size es) (by unfold AState.obj at ho;rw[if_pos hlt]at ho;exact List.mem_of_getElem? ho)
       exact this
      have hb1:=hbel hlt
      simp only[AObj.bel]
      rw[zDV]at*
      intro x hx
      rcases List.mem_append.1 hx with h|h
      ·exact hb0 x (List.mem_of_mem_take h)
      ·exact hb1 x h)) (fun m hm'=>h2 m (by omega))
     (cells:=(olds++news++(Builtin.zeroCells z.cells (nc-(len+xs.length))).toList).toArray) hE2 (by rw[hlen2];exact hnc1) hnc2
     (by simp only[List.size_toArray,List.length_append,Array.length_toList,hz,hol,hnl,hi2,<-Nat.add_mul];congr 1;omega) e
    rw[hlen2]at hrep
    exact⟨_,_,V',hrun,hV',zDf w _ hr.inv.base,hrel,zVZ _ _ _,zVe _ _ _,zVX _ _ _,hrep⟩
 ·cases h
end
end Go.Ab
/- The executor's operations run as the model's do: one theorem an operation. Condition: the executor's table of types is the program's. -/
set_option linter.unusedSimpArgs false
namespace Go.Ab
open Go.RowKit (Below)
/- Filling a row. -/
theorem zHs(l:List Value):∀(k off:Nat) (cells:Array Value),off+k+l.length<=cells.size->
 ((l.zipIdx k).foldl (fun cs (x:Value×Nat)=>cs.setIfInBounds (off+x.2) x.1) cells).size=cells.size/\
 ∀q,((l.zipIdx k).foldl (fun cs (x:Value×Nat)=>cs.setIfInBounds (off+x.2) x.1) cells)[q]?=if off+k<=q/\q<off+k+l.length then l[q-(off+k)]? else cells[q]?:=by
 induction l with
 |nil=>intro k off cells _;exact⟨rfl,fun q=>by rw[if_neg (by simp only[List.length_nil];omega)];rfl⟩
 |cons v l ih=>
  intro k off cells h
  simp only[List.length_cons]at h
  obtain⟨h1,h2⟩:=ih (k+1) off (cells.setIfInBounds (off+k) v) (by simp;omega)
  refine⟨by simp only[List.zipIdx_cons,List.foldl_cons];rw[h1];simp,fun q=> ?_⟩
  simp only[List.zipIdx_cons,List.foldl_cons]
  rw[h2 q]
  simp only[List.length_cons]
  by_cases e1:q=off+k
  ·subst e1
   rw[if_neg (by omega),if_pos (by omega),Array.getElem?_setIfInBounds_self,if_pos (by omega)]
   simp
  ·by_cases e2:off+(k+1)<=q/\q<off+(k+1)+l.length
   ·rw[if_pos e2,if_pos (by omega),show q-(off+k)=(q-(off+(k+1)))+1 by omega]
    simp
   ·rw[if_neg e2,if_neg (by omega),Array.getElem?_setIfInBounds_ne (Ne.symm e1)]
theorem zby(v:Value)(off:Nat)(cells:Array Value):
 v.cells.zipIdx.foldl (fun cs (x:Value×Nat)=>cs.setIfInBounds (off+x.2) x.1) cells=(v.cells.toList.zipIdx 0).foldl (fun cs (x:Value×Nat)=>cs.setIfInBounds (off+x.2) x.1) cells:=by
 rw[<-Array.foldl_toList]
 congr 1
 simp
section
variable {P : Program} {C : Cfg} {V : View} {w : World} {s : AState} {a : Act} {o : Oper}
theorem zHa{place:Nat->Option (Nat×Nat)}:∀(ps:List (Nat×AV)) (vs:List (Nat×Value)) (cells:Array Value) (as:List AV) {c:Prop} {out:List AV},
 vs.length=ps.length->(∀(k:Nat) p v,ps[k]?=some p->vs[k]?=some v->v.1=p.1/\Rep V v.2 p.2)->RepL V cells.toList as->zHU place ps as=some (c,out)->c->
 ∃r,Instr.fill place cells vs=some r/\RepL V r.toList out
 | [],vs,cells,as,c,out,hl,_,hr,h,_=>by
  have:vs=[]:=List.eq_nil_of_length_eq_zero (by simpa using hl)
  subst this
  simp only[zHU,Option.some.injEq,Prod.mk.injEq]at h
  obtain⟨_,rfl⟩:=h
  exact⟨cells,rfl,hr⟩
 |(i,x)::ps,vs,cells,as,c,out,hl,hp,hr,h,hc=>by
  cases vs with
  |nil=>simp at hl
  |cons v vs=>
   obtain⟨i',v⟩:=v
   obtain⟨hi,hv⟩:=hp 0 _ _ rfl rfl
   simp only at hi hv
   subst hi
   simp only[zHU]at h
   cases hpl:place i' with
   |none=>rw[hpl]at h;simp at h
   |some z=>
    obtain⟨off,size⟩:=z
    simp only[hpl]at h
    cases hrest:zHU place ps (zVf as off (cellsOf x))with
    |none=>rw[hrest]at h;simp at h
    |some y=>
     obtain⟨c',out'⟩:=y
     simp only[hrest,Option.some.injEq,Prod.mk.injEq]at h
     obtain⟨hce,rfl⟩:=h
     rw[<-hce]at hc
     obtain⟨⟨h1,h2,h3⟩,h4⟩:=hc
     have hvc:=hv.zEQ h1
     have hlen:cells.size=as.length:=by simpa using hr.1
     have hvl:v.cells.size=size:=by rw[<-h2,<-hvc.1];simp
     obtain⟨g1,g2⟩:=zHs v.cells.toList 0 off cells (by simp;omega)
     have hnew:RepL V ((v.cells.toList.zipIdx 0).foldl (fun cs (x:Value×Nat)=>cs.setIfInBounds (off+x.2) x.1) cells).toList (zVf as off (cellsOf x)):=by
      refine RepL.zQ9 (by rw[zVi];simp only[Array.length_toList];rw[g1];exact hlen) fun k u b hu hb=> ?_
      rw[Array.getElem?_toList,g2 k]at hu
      rw[zVh _ _ _ _ (by omega)]at hb
      simp only[Nat.add_zero,Array.length_toList]at hu
      by_cases e1:off<=k/\k<off+v.cells.size
      ·rw[if_pos e1]at hu
       rw[if_neg (by omega),if_pos (by omega)]at hb
       exact hvc.get hu hb
      ·rw[if_neg e1]at hu
       have hb':as[k]?=some b:=by
        by_cases e2:k<off
        ·rw[if_pos e2]at hb;exact hb
        ·rw[if_neg e2,if_neg (by omega)]at hb;exact hb
       exact hr.get (by rw[Array.getElem?_toList];exact hu) hb'
     obtain⟨r,hr1,hr2⟩:=zHa ps vs _ _ (by simpa using hl) (fun k p v hp1 hv1=>hp (k+1) p v (by simpa using hp1) (by simpa using hv1)) hnew hrest h4
     refine⟨r,?_,hr2⟩
     simp only[Instr.fill,hpl]
     rw[if_neg (by simp;omega)]
     rw[zby]
     exact hr1
theorem zHW{size:Nat}:∀(ps:List (Nat×AV)) (es:List AV),(zHV size ps es).2.length=es.length
 | [],es=>rfl
 |(i,v)::ps,es=>by simp only[zHV];rw[zHW ps];simp
theorem zHX{size:Nat}:∀(ps:List (Nat×AV)) (vs:List (Nat×Value)) (cells:Array Value) (es:List AV),
 vs.length=ps.length->(∀(k:Nat) p v,ps[k]?=some p->vs[k]?=some v->v.1=p.1/\Rep V v.2 p.2)->RepE V size cells.toList es->cells.size=es.length*size->(zHV size ps es).1->
 ∃r,Instr.fill (fun i=>some (i*size,size)) cells vs=some r/\RepE V size r.toList (zHV size ps es).2/\r.size=cells.size
 | [],vs,cells,es,hl,_,hr,_,_=>by
  have:vs=[]:=List.eq_nil_of_length_eq_zero (by simpa using hl)
  subst this
  exact⟨cells,rfl,hr,rfl⟩
 |(i,x)::ps,vs,cells,es,hl,hp,hr,hsz,hc=>by
  cases vs with
  |nil=>simp at hl
  |cons v vs=>
   obtain⟨i',v⟩:=v
   obtain⟨hi,hv⟩:=hp 0 _ _ rfl rfl
   simp only at hi hv
   subst hi
   simp only[zHV]at hc⊢
   obtain⟨⟨h1,h2,h3⟩,h4⟩:=hc
   have hvc:=hv.zEQ h1
   have hvl:v.cells.size=size:=by rw[<-h2,<-hvc.1];simp
   have hfit:i'*size+size<=cells.size:=by
    rw[hsz]
    have:(i'+1)*size<=es.length*size:=Nat.mul_le_mul_right _ h3
    rwa[Nat.succ_mul]at this
   obtain⟨g1,g2⟩:=zHs v.cells.toList 0 (i'*size) cells (by simp;omega)
   have hnew:RepE V size ((v.cells.toList.zipIdx 0).foldl (fun cs (x:Value×Nat)=>cs.setIfInBounds (i'*size+x.2) x.1) cells).toList (es.set i' x):=by
    refine⟨fun q hq=> ?_,fun q j hq hj=> ?_⟩
    ·simp only[List.length_set]at hq
     by_cases e:q=i'
     ·subst e;simp[List.getD_eq_getElem?_getD,hq,h2]
     ·have:=hr.1 q hq
      simpa [List.getD_eq_getElem?_getD,List.getElem?_set,Ne.symm e]using this
    ·simp only[List.length_set]at hq
     have hg:=g2 (q*size+j)
     simp only[Nat.add_zero,Array.length_toList]at hg
     rw[List.getD_eq_getElem?_getD,Array.getElem?_toList,hg]
     by_cases e:q=i'
     ·subst e
      rw[if_pos (by omega),show q*size+j-q*size=j by omega]
      have:=hvc.2 j (by omega)
      simpa [List.getD_eq_getElem?_getD,hq]using this
     ·have hne:¬(i'*size<=q*size+j/\q*size+j<i'*size+v.cells.size):=by
       rw[hvl]
       rcases Nat.lt_or_gt_of_ne e with hlt|hgt
       ·have:(q+1)*size<=i'*size:=Nat.mul_le_mul_right _ hlt
        rw[Nat.succ_mul]at this;omega
       ·have:(i'+1)*size<=q*size:=Nat.mul_le_mul_right _ hgt
        rw[Nat.succ_mul]at this;omega
      rw[if_neg hne]
      have:=hr.2 q j hq hj
      simpa [List.getD_eq_getElem?_getD,List.getElem?_set,Ne.symm e]using this
   obtain⟨r,hr1,hr2,hr3⟩:=zHX ps vs _ _ (by simpa using hl) (fun k p v hp1 hv1=>hp (k+1) p v (by simpa using hp1) (by simpa using hv1)) hnew (by rw[g1,hsz];simp) h4
   refine⟨r,?_,hr2,by rw[hr3,g1]⟩
   simp only[Instr.fill]
   rw[if_neg (by simp;omega)]
   rw[zby]
   exact hr1
theorem zR8(hr:Rel V a w s){parts:Array (Nat×Operand)}(ho:∀p∈parts.toList,zRn p.2=true):
 (parts.map fun(i,x)=>(i,a.eval x)).toList.length=(parts.toList.map fun p=>(p.1,s.ev p.2)).length/\
 ∀(k:Nat) p v,(parts.toList.map fun p=>(p.1,s.ev p.2))[k]?=some p->(parts.map fun(i,x)=>(i,a.eval x)).toList[k]?=some v->v.1=p.1/\Rep V v.2 p.2:=by
 refine⟨by simp,fun k p v hp hv=> ?_⟩
 simp only[List.getElem?_map,Array.toList_map,Option.map_eq_some_iff]at hp hv
 obtain⟨q,hq,rfl⟩:=hp
 obtain⟨q',hq',rfl⟩:=hv
 rw[hq]at hq'
 cases hq'
 exact⟨rfl,zHQ hr _ (ho q (List.mem_of_getElem? hq))⟩
end
end Go.Ab
end
