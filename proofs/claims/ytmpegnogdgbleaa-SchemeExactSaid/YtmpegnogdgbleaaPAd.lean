/- Lemmas: the steps of the executor. No condition. -/
import Derived.Test.YtmpegnogdgbleaaPAa
import Derived.LoopN
import Derived.KernelRfl
import Derived.Orders
section
/- The executor on abstract values: operations. Conditions stand ahead of each part. -/
/- The executor's operations run as the model's do: joined. Condition: the executor's table of types is the program's. -/
set_option linter.unusedSimpArgs false
namespace Go.Ab
open Go.RowKit (Below)
def zRm(o:Oper):Bool:=o.op.operands.toList.all zRn
theorem zIb{l:List AV}{q:Nat}(x:AV)(hq:q<l.length):(l.set q x).getD q .any=x:=by
 rw[YAF,List.getElem?_set_self hq,Option.getD_some]
section
variable {P : Program} {C : Cfg} {V : View} {w : World} {s : AState} {a : Act} {o : Oper}
theorem zWR(hC:zAb P C)(hr:Rel V a w s){t:Nat}{l:TL}(hT:C.ty t=some l)(hop:o.op= .alloc t):
 zAz P V a w s o ⟨True,.bptr (s.b+s.L.length) 0,s.new (.box (cellsOf l.zero))⟩:=by
 have hTy:=hC _ _ hT
 obtain⟨z,hz,hzr⟩:=hTy.zVD w
 obtain⟨V',h1,h2,h3⟩:=zP8 hr.toW ((hzr V).zEQ hTy.solid) t
 refine⟨_,_,V',?_,h1,zDe w _ hr.inv.base,h3,rfl,rfl,rfl,.inl ⟨_,rfl,.bptr _ 0 _ _ h2⟩⟩
 simp only[execOp,hop,Instr.alloc,newVar,Go.newRow,Sem.run_bind,hz,Result.andThen_ok,run_newObj,Sem.run_pure,World.alloc_eq]
theorem zWT(hr:Rel V a w s){t:Nat}{x:Operand}(hx:zRn x=true)(hc:(s.ev x).solid=true)(hop:o.op= .box t x):
 zAz P V a w s o ⟨(s.ev x).solid=true,.bptr (s.b+s.L.length) 0,s.new (.box (cellsOf (s.ev x)))⟩:=by
 obtain⟨V',h1,h2,h3⟩:=zP8 hr.toW ((zHQ hr x hx).zEQ hc) t
 refine⟨_,_,V',?_,h1,zDe w _ hr.inv.base,h3,rfl,rfl,rfl,.inl ⟨_,rfl,.bptr _ 0 _ _ h2⟩⟩
 simp only[execOp,hop,Instr.box,newVar,Go.newRow,Sem.run_bind,Result.andThen_ok,run_newObj,Sem.run_pure,World.alloc_eq]
theorem zWh(hC:zAb P C)(hr:Rel V a w s){t:Nat}{x:Operand}{l:TL}{cs:List AV}{off:Nat}{c:Prop}(hx:zRn x=true)(hT:C.ty t=some l)(hcs:zEN s (s.ev x)=some (cs,off,c))
 (hc:c/\(zRw l cs off).1) (hop:o.op= .load t x):zAz P V a w s o ⟨c/\(zRw l cs off).1,(zRw l cs off).2,s⟩:=by
 obtain⟨b,k,hu,hcell⟩:=zEP hr.toW (zHQ hr x hx) hcs hc.1
 obtain⟨v,hv,hrep⟩:=zU3 (P:=P) (hC _ _ hT) hcell hc.2
 refine .val hr (u:=v) ?_ hrep
 simp only[execOp,hop,Sem.run_bind,hu,hv,Result.andThen_ok,Sem.run_pure]
theorem zVC{t:Nat}{l:TL}(hT:TyOK P t l){b off:Nat}{cur:Array Value}{et:TypeId}(hg:w.heap[b]?=some (.cells cur et (0,0))){v:Value}{x:AV}(hv:Rep V v x)(hs:x.solid=true)
 (hl:(cellsOf x).length=l.size) (hfit:off+l.size<=cur.size):
 (Instr.storeAt t (.pointer (some ⟨b,off,none⟩)) v).run P w= .ok () (w.setRow b (cur.toList.take off++v.cells.toList++cur.toList.drop (off+v.cells.toList.length)).toArray):=by
 have hvc:=hv.zEQ hs
 have hsz:v.cells.size=l.size:=by rw[<-hl,<-hvc.1];simp
 have hst:=run_storeCells_at P b off et v.cells.toList 0 cur w hg (by simp;omega) (RepL.zRX hv hs)
 have hso:=hT.run_sizeOf w
 simp only[Nat.add_zero]at hst
 simp only[Instr.storeAt,Instr.sureAddr,storeVar,Sem.run_bind,Sem.run_pure,Result.andThen_ok,hso]
 rw[if_neg (by omega)]
 exact hst
theorem zWo(hC:zAb P C)(hr:Rel V a w s){t:Nat}{p x:Operand}{l:TL}{r off:Nat}{cs:List AV}(hp:zRn p=true)(hx:zRn x=true)(hT:C.ty t=some l)(hev:s.ev p= .bptr r off)
 (ho:s.obj r=some (.box cs)) (hc:(s.ev x).solid=true/\(cellsOf (s.ev x)).length=l.size/\off+l.size<=cs.length/\(r<s.b->(s.ev x).bel s.b=true)) (hop:o.op= .store t p x):
 zAz P V a w s o ⟨(s.ev x).solid=true/\(cellsOf (s.ev x)).length=l.size/\off+l.size<=cs.length/\(r<s.b->(s.ev x).bel s.b=true),.any,s.setObj r (.box (zVf cs off (cellsOf (s.ev x))))⟩:=by
 obtain⟨h1,h2,h3,h4⟩:=hc
 have hrp:=zHQ hr p hp
 rw[hev]at hrp
 have hrx:=zHQ hr x hx
 generalize hpv:a.eval p=pv at hrp
 cases hrp with
 |bptr _ _ b c hl=>
  obtain⟨cells,ty,hg,hsz,hrel,hbase⟩:=zVj hr.toW ho hl (hrx.zEQ h1) (by rw[h2];exact h3) (fun h=>zET (h4 h))
  have hrun:=zVC (P:=P) (hC _ _ hT) hg hrx h1 h2 (off:=off) (by omega)
  refine⟨.skip,_,V,?_,.refl V,below_setRow w b _ hbase,hrel,zVZ _ _ _,zVe _ _ _,zVX _ _ _,.inr ⟨rfl,rfl⟩⟩
  simp only[execOp,hop,hpv,Sem.run_bind,hrun,Result.andThen_ok,Sem.run_pure]
theorem zTU{x:AV}{cs:List AV}(hl:cs.length=(cellsOf x).length):cellsOf (zTS x cs)=cs\/(∃y,cs=[y]/\zTS x cs=y/\∀z,x≠ .agg z):=by
 cases x with
 |agg z=>exact .inl rfl
 |_=>
  right
  simp only[cellsOf,List.length_cons,List.length_nil,Nat.zero_add]at hl
  obtain⟨y,rfl⟩:=List.length_eq_one_iff.1 hl
  exact⟨y,rfl,rfl,fun z h=>by cases h⟩
theorem zTT{m:Nat}{x:AV}{cs:List AV}(h:AV.belL m cs=true)(hl:cs.length=(cellsOf x).length):(zTS x cs).bel m=true:=by
 cases x with
 |agg z=>exact h
 |_=>
  simp only[cellsOf,List.length_cons,List.length_nil,Nat.zero_add]at hl
  obtain⟨y,rfl⟩:=List.length_eq_one_iff.1 hl
  simp only[AV.belL,Bool.and_true]at h
  exact h
theorem zWn(hC:zAb P C)(hr:Rel V a w s){t:Nat}{p x:Operand}{l:TL}{r ver size i off:Nat}{v' sz:Nat}{es:List AV}(hp:zRn p=true)(hx:zRn x=true)(hT:C.ty t=some l)(hev:s.ev p= .aptr r ver size i off)
 (ho:s.obj r=some (.arr v' sz es)) {cnd:Prop} (hc:(s.ev x).solid=true/\(cellsOf (s.ev x)).length=l.size/\off+l.size<=size/\v'=ver/\sz=size/\i<es.length/\(r<s.b->(s.ev x).bel s.b=true)) (hop:o.op= .store t p x):
 zAz P V a w s o ⟨cnd,.any,s.setObj r (.arr v' sz (es.set i (zTS (es.getD i .any) (zVf (cellsOf (es.getD i .any)) off (cellsOf (s.ev x))))))⟩:=by
 obtain⟨h1,h2,h3,rfl,rfl,hi,h4⟩:=hc
 have hrp:=zHQ hr p hp
 rw[hev]at hrp
 have hrx:=zHQ hr x hx
 have hxc:=hrx.zEQ h1
 generalize hpv:a.eval p=pv at hrp
 cases hrp with
 |aptr _ _ _ _ _ b cap hl=>
  obtain⟨blk,cap',g1,g2,g3,g4,_,g5,g6⟩:=zCo hr.toW ho
  rw[hl]at g1
  simp only[YAM,YAY]at g1
  obtain⟨rfl,rfl⟩:=g1
  obtain⟨g7,cells,ty,g8,g9,g10,g11⟩:=g6 b rfl
  have hfit:i*sz+off+l.size<=cells.size:=by
   have:(i+1)*sz<=cap*sz:=Nat.mul_le_mul_right _ (by omega)
   rw[Nat.succ_mul]at this;omega
  have hrun:=zVC (P:=P) (hC _ _ hT) g8 hrx h1 h2 (off:=i*sz+off) hfit
  have hxl:(a.eval x).cells.toList.length=l.size:=by rw[hxc.1,h2]
  have hcl:(zVf (cellsOf (es.getD i .any)) off (cellsOf (s.ev x))).length=(cellsOf (es.getD i .any)).length:=zVi _ _ _
  have hfit2:off+(cellsOf (s.ev x)).length<=(cellsOf (es.getD i .any)).length:=by rw[h2,g5 i hi];exact h3
  have hsame:(cellsOf (zTS (es.getD i .any) (zVf (cellsOf (es.getD i .any)) off (cellsOf (s.ev x))))).length=sz/\
   ∀j,j<sz->(cellsOf (zTS (es.getD i .any) (zVf (cellsOf (es.getD i .any)) off (cellsOf (s.ev x))))).getD j .any=(zVf (cellsOf (es.getD i .any)) off (cellsOf (s.ev x))).getD j .any:=by
   have hE1:=g5 i hi
   rcases zTU hcl with hh|⟨y,hy1,hy2,hy3⟩
   ·rw[hh,hcl,hE1];exact⟨rfl,fun _ _=>rfl⟩
   ·have hone:sz=1:=by rw[hy1]at hcl;simp only[List.length_cons,List.length_nil]at hcl;omega
    rw[hy2,hy1]
    have ho0:off=0:=by have:=(hC _ _ hT).pos;omega
    have hl1:l.size=1:=by have:=(hC _ _ hT).pos;omega
    have hyo:y.one=true:=by
     have hg:=zVh (cellsOf (s.ev x)) (cellsOf (es.getD i .any)) off 0 hfit2
     rw[hy1,if_neg (by omega),if_pos (by omega),ho0]at hg
     have:=AV.zWz h1 0 (by omega)
     rw[YAF,<-hg]at this
     exact this
    have hyc:cellsOf y=[y]:=by
     cases y<;>first|rfl|(simp[AV.one]at hyo)
    rw[hyc]
    exact⟨by simp[hone],fun j hj=>rfl⟩
  have hnew:RepE V sz (cells.toList.take (i*sz+off)++(a.eval x).cells.toList++cells.toList.drop (i*sz+off+(a.eval x).cells.toList.length))
   (es.set i (zTS (es.getD i .any) (zVf (cellsOf (es.getD i .any)) off (cellsOf (s.ev x))))):=by
   have hget:∀k,(cells.toList.take (i*sz+off)++(a.eval x).cells.toList++cells.toList.drop (i*sz+off+(a.eval x).cells.toList.length)).getD k undef=
    if i*sz+off<=k/\k<i*sz+off+l.size then(a.eval x).cells.toList.getD (k-(i*sz+off)) undef else cells.toList.getD k undef:=by
    intro k
    have hlt:(cells.toList.take (i*sz+off)).length=i*sz+off:=by simp;omega
    by_cases e1:k<i*sz+off
    ·rw[if_neg (by omega),List.append_assoc,zIX _ _ _ (by omega)]
     simp[YAF,List.getElem?_take,e1]
    ·by_cases e2:k<i*sz+off+l.size
     ·rw[if_pos ⟨by omega,e2⟩,List.append_assoc,zIY _ _ _ (by omega),hlt,zIX _ _ _ (by omega)]
     ·rw[if_neg (by omega),zIY _ _ _ (by simp only[YAJ,hlt,hxl];omega)]
      simp only[YAJ,hlt,hxl,YAF,List.getElem?_drop]
      congr 2;omega
   refine⟨fun q hq=> ?_,fun q j hq hj=> ?_⟩
   ·simp only[List.length_set]at hq
    by_cases e:q=i
    ·subst e
     rw[zIb _ hq]
     exact hsame.1
    ·have:=g5 q hq
     simpa [YAF,List.getElem?_set,Ne.symm e]using this
   ·simp only[List.length_set]at hq
    rw[hget]
    by_cases e:q=i
    ·subst e
     rw[zIb _ hq]
     rw[hsame.2 j hj,YAF (l:=zVf _ _ _),zVh _ _ _ _ (by rw[g5 q hq,h2];exact h3)]
     by_cases e1:off<=j/\j<off+l.size
     ·rw[if_pos (by omega),if_neg (by omega),if_pos (by omega),show q*sz+j-(q*sz+off)=j-off by omega]
      have:=hxc.2 (j-off) (by omega)
      simpa [YAF]using this
     ·rw[if_neg (by omega)]
      have hold:(if j<off then(cellsOf (es.getD q .any))[j]? else if j<off+(cellsOf (s.ev x)).length then(cellsOf (s.ev x))[j-off]? else(cellsOf (es.getD q .any))[j]?)=(cellsOf (es.getD q .any))[j]?:=by
       by_cases e2:j<off
       ·rw[if_pos e2]
       ·rw[if_neg e2,if_neg (by omega)]
      rw[hold]
      have:=g10.2 q j hq hj
      simpa [YAF]using this
    ·have hne:¬(i*sz+off<=q*sz+j/\q*sz+j<i*sz+off+l.size):=by
      rcases Nat.lt_or_gt_of_ne e with hlt|hgt
      ·have:(q+1)*sz<=i*sz:=Nat.mul_le_mul_right _ hlt
       rw[Nat.succ_mul]at this;omega
      ·have:(i+1)*sz<=q*sz:=Nat.mul_le_mul_right _ hgt
       rw[Nat.succ_mul]at this;omega
     rw[if_neg hne]
     have:=g10.2 q j hq hj
     simpa [YAF,List.getElem?_set,Ne.symm e]using this
  refine⟨.skip,w.setRow b (cells.toList.take (i*sz+off)++(a.eval x).cells.toList++cells.toList.drop (i*sz+off+(a.eval x).cells.toList.length)).toArray,V,?_,.refl V,below_setRow w b _ g7,?_,zVZ _ _ _,zVe _ _ _,zVX _ _ _,.inr ⟨rfl,rfl⟩⟩
  ·simp only[execOp,hop,hpv,Sem.run_bind,hrun,Result.andThen_ok,Sem.run_pure]
  ·refine hr.toW.setObj ho (hr.inv.write r _ _ ho b (by simp[own,hl]) (by simp[World.setRow]) (fun k hk=>setRow_other w b k _ hk) V (.refl V) (fun _ _ _=>rfl) (fun o v hv=>by rw[g11 o]at hv;cases hv) (fun _ _ _=>rfl) ?_ (by simp[own,hl])) ?_
   ·refine⟨some b,cap,hl,g2,by simpa using g3,g4,hnew.1,g7,_,ty,setRow_heap w b cells _ ty _ g8,?_,fun q j hq hj=> ?_,g11⟩
    ·simp[YAJ]at hxl⊢;omega
    ·have:=hnew.2 q j hq hj
     simpa [YAF]using this
   ·intro hlt
    have hb0:AV.belL s.b es=true:=by
     have:=hr.bel (.arr v' sz es) (by unfold AState.obj at ho;rw[if_pos hlt]at ho;exact List.mem_of_getElem? ho)
     exact this
    have hxb:=zET (h4 hlt)
    have hib:(es.getD i .any).bel s.b=true:=by
     rw[getD_lt _ hi];exact(zDV _ _).1 hb0 _ (List.getElem_mem hi)
    have hsr:=zDX off (zET hib) hxb
    have hre:(zTS (es.getD i .any) (zVf (cellsOf (es.getD i .any)) off (cellsOf (s.ev x)))).bel s.b=true:=by
     exact zTT hsr hcl
    simp only[AObj.bel]
    rw[zDV]at hb0⊢
    intro y hy
    rcases List.mem_or_eq_of_mem_set hy with h|h
    ·exact hb0 y h
    ·rw[h];exact hre
end
end Go.Ab
/- The executor's operations run as the model's do: slices, maps, builtins. Condition: the executor's table of types is the program's. -/
set_option linter.unusedSimpArgs false
namespace Go.Ab
open Go.RowKit (Below)
section
variable {P : Program} {C : Cfg} {V : View} {w : World} {s : AState} {a : Act} {o : Oper}
theorem zWS(hC:zAb P C)(hr:Rel V a w s){op:BinOp}{t yt:Nat}{x y:Operand}{l:TL}{c:Prop}{v:AV}(hx:zRn x=true)(hy:zRn y=true)(hT:C.ty t=some l)(h:abin l.d l.two op (s.ev x) (s.ev y)=some (c,v))(hc:c)
 (hop:o.op= .binOp op t x y yt):zAz P V a w s o ⟨c,v,s⟩:=by
 obtain⟨u,hu,hrep⟩:=zUn (P:=P) (w:=w) op (hC _ _ hT) (zHQ hr x hx) (zHQ hr y hy) h hc
 have hg:=zUw (P:=P) (w:=w) op (t:=t) (x:=x) (y:=y) (hC _ _ hT) (zHQ hr x hx) (zHQ hr y hy) h
 refine .val hr (u:=u) ?_ hrep
 simp only[execOp,hop,Sem.run_bind,hg,Result.andThen_ok,hu,Sem.run_pure]
theorem zWq(hr:Rel V a w s){op:UnOp}{t:Nat}{x:Operand}{v:AV}(hx:zRn x=true)(h:(∃b,op= .not/\s.ev x= .bool b/\v= .bool (!b))\/(∃k n,op= .neg/\s.ev x= .int k n/\v= .int k (k.wrap (0-n))))
 (hop:o.op= .unOp op t x):zAz P V a w s o ⟨True,v,s⟩:=by
 have hrx:=zHQ hr x hx
 rcases h with ⟨b,rfl,hb,rfl⟩|⟨k,n,rfl,hn,rfl⟩
 ·rw[hb]at hrx
  generalize hv:a.eval x=u at hrx
  cases hrx
  exact .val hr (u:= .bool (!b)) (by simp only[execOp,hop,hv,Op.unary,Sem.run_bind,Sem.run_pure,Result.andThen_ok]) (.bool _)
 ·rw[hn]at hrx
  generalize hv:a.eval x=u at hrx
  cases hrx
  exact .val hr (u:= .int k (k.wrap (0-n))) (by simp only[execOp,hop,hv,Op.unary,Op.intArith,Sem.run_bind,Sem.run_pure,Result.andThen_ok]) (zTd _ _)
theorem zWY(hC:zAb P C)(hr:Rel V a w s){src dst:Nat}{x:Operand}{ls ld:TL}{k k':IntKind}{n:Int}(hx:zRn x=true)(h1:C.ty src=some ls)(h2:C.ty dst=some ld)(hd:ld.d= .int k)(hn:s.ev x= .int k' n)
 (hop:o.op= .convert src dst x):zAz P V a w s o ⟨True,.int k (k.wrap n),s⟩:=by
 obtain⟨d1,hd1,_⟩:=(hC _ _ h1).run_underlying w
 obtain⟨d2,hd2,hdd⟩:=(hC _ _ h2).run_underlying w
 rw[hd]at hdd;simp only[zAe]at hdd;subst hdd
 have hrx:=zHQ hr x hx
 rw[hn]at hrx
 generalize hv:a.eval x=u at hrx
 cases hrx
 refine .val hr (u:= .int k (k.wrap n)) ?_ (zTd _ _)
 simp only[execOp,hop,hv,convert,Sem.run_bind,hd1,hd2,Result.andThen_ok]
 cases d1<;>simp[Conv.intToInt]
theorem zWb(hC:zAb P C)(hr:Rel V a w s){t f:Nat}{x:Operand}{l lf:TL}{fs:List (Nat×Nat)}{k ft:Nat}{v:AV}(hx:zRn x=true)(hT:C.ty t=some l)(hd:l.d= .st fs)(hf:fs[f]?=some (k,ft))(hlf:C.ty ft=some lf)
 (hs:shift k (s.ev x)=some v) (hop:o.op= .fieldAddr t x f):zAz P V a w s o ⟨True,v,s⟩:=by
 obtain⟨d,hrd,hdd⟩:=(hC _ _ hT).run_underlying w
 rw[hd]at hdd
 obtain⟨fa,rfl,rfl⟩:=hdd
 obtain⟨b,q,hv,hrep⟩:=(zHQ hr x hx).shift hs
 rw[List.getElem?_map,Option.map_eq_some_iff]at hf
 obtain⟨fld,hfl,hfe⟩:=hf
 simp only[YAY]at hfe
 obtain⟨rfl,rfl⟩:=hfe
 have hfl':fa[f]?=some fld:=by simpa using hfl
 have hsz:=(hC _ _ hlf).run_sizeOf w
 have hpos:=(hC _ _ hlf).pos
 refine .val hr (u:= .pointer (some ⟨b,q+fld.offset,none⟩)) ?_ hrep
 have hne:¬lf.size=0:=by omega
 simp only[execOp,hop,hv,Instr.fieldAt,Sem.run_bind,hrd,Result.andThen_ok,hfl',Instr.sureAddr,Sem.run_pure,fieldPlace,hsz]
 simp[hne,addr_add]
theorem zWa(hC:zAb P C)(hr:Rel V a w s){t f:Nat}{x:Operand}{l lf:TL}{fs:List (Nat×Nat)}{k ft:Nat}{cs:List AV}(hx:zRn x=true)(hT:C.ty t=some l)(hd:l.d= .st fs)(hf:fs[f]?=some (k,ft))(hlf:C.ty ft=some lf)
 (hs:s.ev x= .agg cs) (hc:(zRw lf cs k).1) (hop:o.op= .field t x f):zAz P V a w s o ⟨(zRw lf cs k).1,(zRw lf cs k).2,s⟩:=by
 obtain⟨d,hrd,hdd⟩:=(hC _ _ hT).run_underlying w
 rw[hd]at hdd
 obtain⟨fa,rfl,rfl⟩:=hdd
 have hrx:=zHQ hr x hx
 rw[hs]at hrx
 obtain⟨cells,hv,hcs⟩:=RepL.zQ8 hrx
 rw[List.getElem?_map,Option.map_eq_some_iff]at hf
 obtain⟨fld,hfl,hfe⟩:=hf
 simp only[YAY]at hfe
 obtain⟨rfl,rfl⟩:=hfe
 have hfl':fa[f]?=some fld:=by simpa using hfl
 obtain⟨u,hu,hrep⟩:=zU6 (P:=P) (w:=w) (hC _ _ hlf) hcs hc
 refine .val hr (u:=u) ?_ hrep
 simp only[execOp,hop,hv,Instr.field,Sem.run_bind,hrd,Result.andThen_ok,hfl',asAgg,Sem.run_pure,hu]
theorem zWe(hC:zAb P C)(hr:Rel V a w s){t e:Nat}{x i:Operand}{l le:TL}{es:List AV}{tk:Tk}{k:IntKind}{n:Int}(hx:zRn x=true)(hi:zRn i=true)(hT:C.ty t=some l)(hd:l.d= .sl e)(hle:C.ty e=some le)
 (hev:s.ev x= .sl es tk) (hev2:s.ev i= .int k n) {cnd:Prop} (hc:0<=n/\n<es.length/\(cellsOf (es.getD n.toNat .any)).length=le.size) (hop:o.op= .indexAddr t x i):
 zAz P V a w s o ⟨cnd,.eptr (cellsOf (es.getD n.toNat .any)) 0,s⟩:=by
 obtain⟨h1,h2,h3⟩:=hc
 obtain⟨d,hrd,hdd⟩:=(hC _ _ hT).run_underlying w
 rw[hd]at hdd;simp only[zAe]at hdd;subst hdd
 have hsz:=(hC _ _ hle).run_sizeOf w
 have hrx:=zHQ hr x hx
 have hri:=zHQ hr i hi
 rw[hev]at hrx
 rw[hev2]at hri
 generalize hv:a.eval x=u at hrx
 generalize hv2:a.eval i=u2 at hri
 cases hri
 cases hrx with
 |sl bse len cap _ _ size b q val hl hcap hm hb hs himm hrr ht hf=>
  have hlt:n.toNat<len:=by omega
  have hbs:=hb (by omega)
  subst hbs
  have hse:size=le.size:=by rw[<-h3];exact(hs _ hlt).symm
  subst hse
  refine .val hr (u:= .pointer (some ⟨b,q+n.toNat*le.size+0,none⟩)) ?_ (.eptr _ 0 b (q+n.toNat*le.size) (fun j=>val (n.toNat*le.size+j)) (fun j hj=> ?_) (fun j hj=> ?_))
  ·have hcond:0<=n/\n<(len:Int):=by omega
   simp only[execOp,hop,hv,hv2,Instr.indexAt,asIntOf,Sem.run_bind,Sem.run_pure,Result.andThen_ok,hrd]
   simp[hcond,hsz,addr_add]
  ·rw[Nat.add_assoc]
   refine himm _ ?_
   rw[h3]at hj
   have:(n.toNat+1)*le.size<=len*le.size:=Nat.mul_le_mul_right _ hlt
   rw[Nat.succ_mul]at this;omega
  ·rw[h3]at hj
   exact hrr _ _ hlt hj
theorem zWd(hC:zAb P C)(hr:Rel V a w s){t e:Nat}{x i:Operand}{l le:TL}{r ver len:Nat}{k:IntKind}{n:Int}(hx:zRn x=true)(hi:zRn i=true)(hT:C.ty t=some l)(hd:l.d= .sl e)(hle:C.ty e=some le)
 (hev:s.ev x= .ms r ver len) (hev2:s.ev i= .int k n) {cnd:Prop} (hc:0<=n/\n<len) (hop:o.op= .indexAddr t x i):
 zAz P V a w s o ⟨cnd,.aptr r ver le.size n.toNat 0,s⟩:=by
 obtain⟨h1,h2⟩:=hc
 obtain⟨d,hrd,hdd⟩:=(hC _ _ hT).run_underlying w
 rw[hd]at hdd;simp only[zAe]at hdd;subst hdd
 have hsz:=(hC _ _ hle).run_sizeOf w
 have hrx:=zHQ hr x hx
 have hri:=zHQ hr i hi
 rw[hev]at hrx
 rw[hev2]at hri
 generalize hv:a.eval x=u at hrx
 generalize hv2:a.eval i=u2 at hri
 cases hri
 cases hrx with
 |ms _ _ _ blk cap hl hcap hm hn=>
  cases blk with
  |none=>
   have:=hn rfl
   omega
  |some b=>
   refine .val hr (u:= .pointer (some ⟨b,n.toNat*le.size+0,none⟩)) ?_ (.aptr _ _ _ _ _ b cap hl)
   have hcond:0<=n/\n<(len:Int):=by omega
   simp only[execOp,hop,hv,hv2,Instr.indexAt,asIntOf,Sem.run_bind,Sem.run_pure,Result.andThen_ok,hrd]
   simp[hcond,hsz,addr_add,zDB]
end
end Go.Ab
/- The executor's operations run as the model's do: arrays, literals, slices, maps. Condition: the executor's table of types is the program's. -/
set_option linter.unusedSimpArgs false
namespace Go.Ab
open Go.RowKit (Below)
section
variable {P : Program} {C : Cfg} {V : View} {w : World} {s : AState} {a : Act} {o : Oper}
theorem zWc(hC:zAb P C)(hr:Rel V a w s){t e m:Nat}{x i:Operand}{l le:TL}{k:IntKind}{n:Int}{v:AV}(hx:zRn x=true)(hi:zRn i=true)(hT:C.ty t=some l)(hd:l.d= .arr m e)(hle:C.ty e=some le)
 (hev2:s.ev i= .int k n) (hs:shift (n.toNat*le.size) (s.ev x)=some v) {cnd:Prop} (hc:0<=n/\n<m) (hop:o.op= .indexAddr t x i):zAz P V a w s o ⟨cnd,v,s⟩:=by
 obtain⟨h1,h2⟩:=hc
 obtain⟨d,hrd,hdd⟩:=(hC _ _ hT).run_underlying w
 rw[hd]at hdd;simp only[zAe]at hdd;subst hdd
 have hsz:=(hC _ _ hle).run_sizeOf w
 have hri:=zHQ hr i hi
 rw[hev2]at hri
 generalize hv2:a.eval i=u2 at hri
 cases hri
 obtain⟨b,q,hv,hrep⟩:=(zHQ hr x hx).shift hs
 refine .val hr (u:= .pointer (some ⟨b,q+n.toNat*le.size,none⟩)) ?_ hrep
 have hcond:0<=n/\n<(m:Int):=by omega
 simp only[execOp,hop,hv,hv2,Instr.indexAt,asIntOf,Sem.run_bind,Sem.run_pure,Result.andThen_ok,hrd,Instr.sureAddr]
 simp[hcond,hsz,addr_add]
theorem zWf(hC:zAb P C)(hr:Rel V a w s){t e m:Nat}{x i:Operand}{l le:TL}{k:IntKind}{n:Int}{cs:List AV}(hx:zRn x=true)(hi:zRn i=true)(hT:C.ty t=some l)(hd:l.d= .arr m e)(hle:C.ty e=some le)
 (hev:s.ev x= .agg cs) (hev2:s.ev i= .int k n) {cnd:Prop} (hc:0<=n/\n<m/\(zRw le cs (n.toNat*le.size)).1) (hop:o.op= .index t x i):zAz P V a w s o ⟨cnd,(zRw le cs (n.toNat*le.size)).2,s⟩:=by
 obtain⟨h1,h2,h3⟩:=hc
 obtain⟨d,hrd,hdd⟩:=(hC _ _ hT).run_underlying w
 rw[hd]at hdd;simp only[zAe]at hdd;subst hdd
 have hsz:=(hC _ _ hle).run_sizeOf w
 have hri:=zHQ hr i hi
 rw[hev2]at hri
 generalize hv2:a.eval i=u2 at hri
 cases hri
 have hrx:=zHQ hr x hx
 rw[hev]at hrx
 obtain⟨cells,hv,hcs⟩:=RepL.zQ8 hrx
 obtain⟨u,hu,hrep⟩:=zU6 (P:=P) (w:=w) (hC _ _ hle) hcs h3
 refine .val hr (u:=u) ?_ hrep
 have hcond:0<=n/\n<(m:Int):=by omega
 simp only[execOp,hop,hv,hv2,Instr.index,asIntOf,Sem.run_bind,Sem.run_pure,Result.andThen_ok,hrd]
 simp[hcond,hsz,hu]
theorem zWg(hC:zAb P C)(hr:Rel V a w s){t:Nat}{x i:Operand}{l:TL}{k:IntKind}{n:Int}{b:ByteArray}(hx:zRn x=true)(hi:zRn i=true)(hT:C.ty t=some l)(hd:l.d= .str)
 (hev:s.ev x= .str b) (hev2:s.ev i= .int k n) {cnd:Prop} (hc:0<=n/\n<b.size) (hop:o.op= .index t x i):zAz P V a w s o ⟨cnd,.int .u8 (zD2 b n.toNat),s⟩:=by
 obtain⟨h1,h2⟩:=hc
 obtain⟨d,hrd,hdd⟩:=(hC _ _ hT).run_underlying w
 rw[hd]at hdd;simp only[zAe]at hdd;subst hdd
 have hri:=zHQ hr i hi
 rw[hev2]at hri
 generalize hv2:a.eval i=u2 at hri
 cases hri
 have hrx:=zHQ hr x hx
 rw[hev]at hrx
 generalize hv:a.eval x=u at hrx
 cases hrx
 have hlt:n.toNat<b.size:=by omega
 have hb:b[n.toNat]?=some b[n.toNat]:=getElem?_pos b n.toNat hlt
 have hby:zD2 b n.toNat=(b[n.toNat]).toNat:=by simp only[zD2,hb]
 have hu8:=UInt8.toNat_lt (b[n.toNat])
 refine .val hr (u:= .int .u8 (b[n.toNat]).toNat) ?_ ?_
 ·simp only[execOp,hop,hv,hv2,Instr.index,asIntOf,Sem.run_bind,Sem.run_pure,Result.andThen_ok,hrd]
  simp[h1,hb]
 ·rw[hby]
  refine .int _ _ ?_ ?_
  ·simp[IntKind.min,IntKind.signed]
  ·simp[IntKind.max,IntKind.signed,IntKind.bits];omega
theorem zOd(hC:zAb P C):∀(fs:List Field) (w:World),(∀p∈fs,(C.ty p.type).isSome=true)->
 ∃ps:List (Nat×Nat),(List.mapM (fun f:Field=>(do pure (f.offset,<-sizeOf f.type):Sem (Nat×Nat))) fs).run P w= .ok ps w/\
  ps=fs.map fun f=>(f.offset,((C.ty f.type).map (·.size)).getD 0):=by
 intro fs
 induction fs with
 |nil=>intro w _;exact⟨[],rfl,rfl⟩
 |cons f fs ih=>
  intro w h
  obtain⟨ps,h1,h2⟩:=ih w (fun p hp=>h p (by simp[hp]))
  have h3:=h f (by simp)
  cases hf:C.ty f.type with
  |none=>rw[hf]at h3;simp at h3
  |some lf=>
   have hsz:=(hC _ _ hf).run_sizeOf w
   refine⟨(f.offset,lf.size)::ps,?_,by simp[h2,hf]⟩
   rw[List.mapM_cons]
   simp only[Sem.run_bind,hsz,Result.andThen_ok,Sem.run_pure,h1]
theorem zWW(hC:zAb P C)(hr:Rel V a w s){t:Nat}{l:TL}{fs:List (Nat×Nat)}{parts:Array (Nat×Operand)}{c:Prop}{cs:List AV}(ho:∀p∈parts.toList,zRn p.2=true)(hT:C.ty t=some l)(hd:l.d= .st fs)
 (hf:zHU (zSb C fs) (parts.toList.map fun p=>(p.1,s.ev p.2)) (cellsOf l.zero)=some (c,cs)) {cnd:Prop} (hc:c/\(∀p∈fs,(C.ty p.2).isSome=true)) (hop:o.op= .build t parts):zAz P V a w s o ⟨cnd,.agg cs,s⟩:=by
 obtain⟨hc,hall⟩:=hc
 have hTy:=hC _ _ hT
 obtain⟨d,hrd,hdd⟩:=hTy.run_underlying w
 rw[hd]at hdd
 obtain⟨fa,rfl,rfl⟩:=hdd
 obtain⟨z,hz,hzr⟩:=hTy.zVD w
 obtain⟨ps,hps,hpe⟩:=zOd hC fa.toList w (fun p hp=>hall (p.offset,p.type) (List.mem_map.2 ⟨p,hp,rfl⟩))
 obtain⟨hp1,hp2⟩:=zR8 (s:=s) hr ho
 obtain⟨r,hr1,hr2⟩:=zHa _ _ z.cells (cellsOf l.zero) hp1 hp2 ((hzr V).zEQ hTy.solid) hf hc
 refine .val hr (u:= .agg r) ?_ (RepL.agg hr2)
 have hpl:(fun i=>ps.toArray[i]?)=zSb C (fa.toList.map fun x=>(x.offset,x.type)):=by
  funext i
  rw[hpe]
  simp only[zSb,List.getElem?_toArray,List.getElem?_map]
  cases hfi:fa.toList[i]? with
  |none=>simp
  |some f=>
   have h3:=hall (f.offset,f.type) (List.mem_map.2 ⟨f,List.mem_of_getElem? hfi,rfl⟩)
   cases hf:C.ty f.type with
   |none=>rw[hf]at h3;simp at h3
   |some lf=>simp[hf]
 have hm:(Array.mapM (fun f:Field=>(do pure (f.offset,<-sizeOf f.type):Sem (Nat×Nat))) fa).run P w= .ok ps.toArray w:=by
  rw[Array.mapM_eq_mapM_toList]
  simp only[Sem.run_map,hps,Result.andThen_ok]
 simp only[execOp,hop,Instr.build,Sem.run_bind,hz,Result.andThen_ok,hrd,hm,hpl,hr1,Sem.run_pure]
theorem zWV(hC:zAb P C)(hr:Rel V a w s){t m e:Nat}{l le:TL}{parts:Array (Nat×Operand)}{c:Prop}{cs:List AV}(ho:∀p∈parts.toList,zRn p.2=true)(hT:C.ty t=some l)(hd:l.d= .arr m e)(hle:C.ty e=some le)
 (hf:zHU (fun i=>some (i*le.size,le.size)) (parts.toList.map fun p=>(p.1,s.ev p.2)) (cellsOf l.zero)=some (c,cs)) (hc:c) (hop:o.op= .build t parts):zAz P V a w s o ⟨c,.agg cs,s⟩:=by
 have hTy:=hC _ _ hT
 obtain⟨d,hrd,hdd⟩:=hTy.run_underlying w
 rw[hd]at hdd;simp only[zAe]at hdd;subst hdd
 obtain⟨z,hz,hzr⟩:=hTy.zVD w
 obtain⟨hp1,hp2⟩:=zR8 (s:=s) hr ho
 obtain⟨r,hr1,hr2⟩:=zHa _ _ z.cells (cellsOf l.zero) hp1 hp2 ((hzr V).zEQ hTy.solid) hf hc
 have hsz:=(hC _ _ hle).run_sizeOf w
 refine .val hr (u:= .agg r) ?_ (RepL.agg hr2)
 simp only[execOp,hop,Instr.build,Sem.run_bind,hz,Result.andThen_ok,hrd,hsz,hr1,Sem.run_pure]
theorem zbx{V:View}{z:Value}{l:TL}(hz:Rep V z l.zero)(hs:l.zero.solid=true)(hl:(cellsOf l.zero).length=l.size)(n:Nat):
 RepE V l.size ((Array.range (n*l.size)).map (fun i=>z.cells[i % z.cells.size]!)).toList (List.replicate n l.zero):=by
 have hc:=hz.zEQ hs
 have hzs:z.cells.size=l.size:=by rw[<-hl,<-hc.1];simp
 refine⟨fun i hi=> ?_,fun i j hi hj=> ?_⟩
 ·simp at hi;simp[YAF,hi,hl]
 ·simp at hi
  have hlt:i*l.size+j<n*l.size:=by
   have:(i+1)*l.size<=n*l.size:=Nat.mul_le_mul_right _ hi
   rw[Nat.succ_mul]at this;omega
  have hmod:(i*l.size+j) % l.size=j:=by rw[Nat.add_comm,Nat.add_mul_mod_self_right];exact Nat.mod_eq_of_lt hj
  have h1:=hc.2 j (by omega)
  have hjz:j<z.cells.size:=by omega
  rw[show(List.replicate n l.zero).getD i .any=l.zero by simp[YAF,hi]]
  have:((Array.range (n*l.size)).map (fun i=>z.cells[i % z.cells.size]!)).toList.getD (i*l.size+j) undef=z.cells.toList.getD j undef:=by
   simp[YAF,hlt,hzs,hmod]
   rw[getElem!_pos z.cells j hjz,Array.getElem?_eq_getElem hjz];rfl
  rw[this]
  exact h1
theorem zbv(hC:zAb P C){e:Nat}{le:TL}(hle:C.ty e=some le)(n:Nat)(w:World):∃zc:Array Value,
 (n*le.size=0->zc= #[])/\(¬n*le.size=0->∃z,(zeroValue e).run P w= .ok z w/\zc=z.cells)/\
 ∀V,RepE V le.size ((Array.range (n*le.size)).map (fun i=>zc[i % zc.size]!)).toList (List.replicate n le.zero):=by
 obtain⟨z,hz,hzr⟩:=(hC _ _ hle).zVD w
 by_cases h0:n*le.size=0
 ·refine⟨#[],fun _=>rfl,fun h=>absurd h0 h,fun V=> ?_⟩
  have hn:n=0:=by
   rcases Nat.mul_eq_zero.1 h0 with h|h
   ·exact h
   ·have:=(hC _ _ hle).pos;omega
  subst hn
  exact⟨fun i hi=>absurd hi (by simp),fun i j hi=>absurd hi (by simp)⟩
 ·exact⟨z.cells,fun h=>absurd h h0,fun _=>⟨z,hz,rfl⟩,fun V=>zbx (hzr V) (hC _ _ hle).solid (hC _ _ hle).size n⟩
theorem run_buildSlice(hC:zAb P C)(hr:Rel V a w s){t e len:Nat}{l le:TL}{parts:Array (Nat×Operand)}(ho:∀p∈parts.toList,zRn p.2=true)(hT:C.ty t=some l)(hd:l.d= .sl e)(hle:C.ty e=some le)
 (hc:(zHV le.size (parts.toList.map fun p=>(p.1,s.ev p.2)) (List.replicate len le.zero)).1/\len*le.size<=2 ^ 24) (hop:o.op= .buildSlice t len parts):
 ∃cells:Array Value,RepE V le.size cells.toList (zHV le.size (parts.toList.map fun p=>(p.1,s.ev p.2)) (List.replicate len le.zero)).2/\cells.size=len*le.size/\
  (execOp a.eval o).run P w= .ok (.value (.slice (some ⟨w.heap.size,0,none⟩) len len)) (w.alloc (.cells cells e)):=by
 obtain⟨d,hrd,hdd⟩:=(hC _ _ hT).run_underlying w
 rw[hd]at hdd;simp only[zAe]at hdd;subst hdd
 have hsz:=(hC _ _ hle).run_sizeOf w
 obtain⟨zc,hz0,hz1,hzr⟩:=zbv hC hle len w
 obtain⟨hp1,hp2⟩:=zR8 (s:=s) hr ho
 obtain⟨r,hr1,hr2,hr3⟩:=zHX _ _ _ _ hp1 hp2 (hzr V) (by simp) hc.1
 refine⟨r,hr2,by rw[hr3];simp,?_⟩
 have hnot:¬(16777216<len*le.size):=by have:=hc.2;simp at this;omega
 simp only[execOp,hop,Instr.buildSlice,Sem.run_bind,hrd,Result.andThen_ok,hsz]
 rw[if_neg (by omega)]
 by_cases h0:len*le.size=0
 ·have:=hz0 h0
  subst this
  simp only[h0,if_true,Sem.run_bind,Result.andThen_ok,Sem.run_pure,Go.newRow,run_newObj,World.alloc_eq]
  rw[h0]at hr1
  simp only[hr1,Sem.run_bind,Result.andThen_ok,Sem.run_pure,run_newObj,World.alloc_eq]
 ·obtain⟨z,hz,rfl⟩:=hz1 h0
  simp only[h0,if_false,Sem.run_bind,Result.andThen_ok,Sem.run_pure,Go.newRow,run_newObj,World.alloc_eq,hz,hr1]
theorem zWU(hC:zAb P C)(hr:Rel V a w s){t e len:Nat}{l le:TL}{parts:Array (Nat×Operand)}(ho:∀p∈parts.toList,zRn p.2=true)(hT:C.ty t=some l)(hd:l.d= .sl e)(hle:C.ty e=some le){cnd:Prop}
 (hc:(zHV le.size (parts.toList.map fun p=>(p.1,s.ev p.2)) (List.replicate len le.zero)).1/\len*le.size<=2 ^ 24) (hop:o.op= .buildSlice t len parts):
 zAz P V a w s o ⟨cnd,.sl (zHV le.size (parts.toList.map fun p=>(p.1,s.ev p.2)) (List.replicate len le.zero)).2 .cap,s⟩/\
 zAz P V a w s o ⟨cnd,.ms (s.b+s.L.length) 0 len,s.new (.arr 0 le.size (zHV le.size (parts.toList.map fun p=>(p.1,s.ev p.2)) (List.replicate len le.zero)).2)⟩:=by
 obtain⟨cells,hE,hsz,hrun⟩:=run_buildSlice hC hr ho hT hd hle hc hop
 have hlen:(zHV le.size (parts.toList.map fun p=>(p.1,s.ev p.2)) (List.replicate len le.zero)).2.length=len:=by rw[zHW];simp
 have hlm:len<=maxLen:=by
  have h1:=hc.2
  have h2:=(hC _ _ hle).pos
  have:len*1<=len*le.size:=Nat.mul_le_mul_left _ h2
  simp only[maxLen];omega
 refine⟨?_,?_⟩
 ·obtain⟨V',hV,hrel,hrep⟩:=zQF hr.toW hE (by rw[hlen];exact hsz) (by rw[hlen];exact hlm) e
  rw[hlen]at hrep
  exact⟨_,_,V',hrun,hV,zDe w _ hr.inv.base,hrel,rfl,rfl,rfl,.inl ⟨_,rfl,hrep⟩⟩
 ·obtain⟨V',hV,hloc,hrel⟩:=zP6 hr.toW hE (cap:=len) (by rw[hlen];exact YAV _) hlm hsz e
  exact⟨_,_,V',hrun,hV,zDe w _ hr.inv.base,hrel,rfl,rfl,rfl,.inl ⟨_,rfl,.ms _ _ _ (some w.heap.size) len hloc (YAV _) hlm (fun h=>by cases h)⟩⟩
theorem zWk(hC:zAb P C)(hr:Rel V a w s){t e:Nat}{l le:TL}{x y:Operand}{n c:Int}(hx:zRn x=true)(hy:zRn y=true)(hT:C.ty t=some l)(hd:l.d= .sl e)(hle:C.ty e=some le)
 (hev:s.ev x= .int .i64 n) (hev2:s.ev y= .int .i64 c) {cnd:Prop} (hc:0<=n/\n=c/\n*le.bytes<=zD4) (hop:o.op= .makeSlice t x y):
 zAz P V a w s o ⟨cnd,.sl (List.replicate n.toNat le.zero) .cap,s⟩/\zAz P V a w s o ⟨cnd,.ms (s.b+s.L.length) 0 n.toNat,s.new (.arr 0 le.size (List.replicate n.toNat le.zero))⟩:=by
 obtain⟨h1,rfl,h3⟩:=hc
 obtain⟨d,hrd,hdd⟩:=(hC _ _ hT).run_underlying w
 rw[hd]at hdd;simp only[zAe]at hdd;subst hdd
 obtain⟨i,z,hi1,hi2,hi3,_⟩:=(hC _ _ hle).info
 have hsz:=(hC _ _ hle).run_sizeOf w
 have hrx:=zHQ hr x hx
 have hry:=zHQ hr y hy
 rw[hev]at hrx
 rw[hev2]at hry
 generalize hv:a.eval x=u at hrx
 generalize hv2:a.eval y=u2 at hry
 cases hrx with
 |int _ _ hr1 hr2=>
 cases hry
 have hwr:IntKind.wrap .i64 n=n:=zbU _ _ hr1 hr2
 obtain⟨zc,hz0,hz1,hzr⟩:=zbv hC hle n.toNat w
 have hnm:n.toNat<=maxLen:=by simp only[IntKind.max,IntKind.signed,IntKind.bits,if_true]at hr2;simp only[maxLen];omega
 have hrun:(execOp a.eval o).run P w= .ok (.value (.slice (some ⟨w.heap.size,0,none⟩) n.toNat n.toNat)) (w.alloc (.cells ((Array.range (n.toNat*le.size)).map (fun i=>zc[i % zc.size]!)) e)):=by
  have hbig:¬(281474976710656<(i.bytes:Int)*n):=by
   rw[hi3,Int.mul_comm];simp only[zD4]at h3;omega
  simp only[execOp,hop,hv,hv2,Instr.makeSlice,Sem.run_bind,hrd,Result.andThen_ok,asInt,asIntOf,Sem.run_pure,typeInfo,run_program,hi1,hwr]
  have hcond:((decide (n<0)||decide ((i.bytes:Int)*n>2 ^ 48))||decide (n<0)||decide (n>n))=false:=by
   have e1:¬n<0:=by omega
   have e2:¬((i.bytes:Int)*n>2 ^ 48):=by simpa using hbig
   simp[e1,hbig]
  rw[if_neg (by rw[hcond];simp)]
  simp only[Sem.run_bind,Sem.run_pure,Result.andThen_ok,run_askRoom,hsz,Go.newRow]
  by_cases h0:n.toNat*le.size=0
  ·have:=hz0 h0
   subst this
   simp only[h0,if_true,Sem.run_bind,Result.andThen_ok,Sem.run_pure,run_newObj,World.alloc_eq]
  ·obtain⟨z,hz,rfl⟩:=hz1 h0
   simp only[h0,if_false,Sem.run_bind,Result.andThen_ok,Sem.run_pure,run_newObj,World.alloc_eq,hz]
 refine⟨?_,?_⟩
 ·obtain⟨V',hV,hrel,hrep⟩:=zQF hr.toW (hzr V) (by simp) (by simpa using hnm) e
  simp only[List.length_replicate]at hrep
  exact⟨_,_,V',hrun,hV,zDe w _ hr.inv.base,hrel,rfl,rfl,rfl,.inl ⟨_,rfl,hrep⟩⟩
 ·obtain⟨V',hV,hloc,hrel⟩:=zP6 hr.toW (hzr V) (cap:=n.toNat) (by simp) hnm (by simp) e
  exact⟨_,_,V',hrun,hV,zDe w _ hr.inv.base,hrel,rfl,rfl,rfl,.inl ⟨_,rfl,.ms _ _ _ (some w.heap.size) n.toNat hloc (YAV _) hnm (fun h=>by cases h)⟩⟩
theorem zWZ(hr:Rel V a w s){x:Operand}{i:Nat}{vs:List AV}(hx:zRn x=true)(hev:s.ev x= .tup vs)(hc:i<vs.length)(hop:o.op= .extract x i):zAz P V a w s o ⟨i<vs.length,vs.getD i .any,s⟩:=by
 have hrx:=zHQ hr x hx
 rw[hev]at hrx
 obtain⟨cs,hv,hcs⟩:=RepL.zRD hrx
 have hlt:i<cs.size:=by have:=hcs.1;simp at this;omega
 refine .val hr (u:=cs[i]) ?_ ?_
 ·simp only[execOp,hop,hv,Instr.extract,Sem.run_bind]
  simp[hlt]
 ·have:=hcs.2 i hc
  simpa [YAF,hlt]using this
theorem zWj(hr:Rel V a w s){t:Nat}(hop:o.op= .makeMap t none):zAz P V a w s o ⟨True,.mp (s.b+s.L.length),s.new (.map [])⟩:=by
 obtain⟨V',h1,h2,h3⟩:=zQB hr.toW
 refine⟨_,_,V',?_,h1,zDe w _ hr.inv.base,h3,rfl,rfl,rfl,.inl ⟨_,rfl,.mp _ _ _ h2⟩⟩
 simp only[execOp,hop,Instr.makeMap,Option.map_none,Sem.run_bind,run_newObj,Result.andThen_ok,Sem.run_pure,World.alloc_eq]
end
end Go.Ab
/- The executor's operations run as the model's do: slices of slices, maps, builtins; all joined. Condition: the executor's table of types is the program's. -/
set_option linter.unusedSimpArgs false
namespace Go.Ab
open Go.RowKit (Below)
theorem zD6{a b:ByteArray}(h:(a==b)=true):a=b:=by
 cases a with|mk x=>cases b with|mk y=>
 have h':(x==y)=true:=h
 rw[beq_iff_eq]at h'
 rw[h']
section
variable {P : Program} {C : Cfg} {V : View} {w : World} {s : AState} {a : Act} {o : Oper}
theorem zRp{V:View}{x:Option AV}{u:Option Value}{d n:Int}(h:zRo x d=some n)(hu:(x=none/\u=none)\/∃y v,x=some y/\u=some v/\Rep V v y):
 (u=none/\x=none/\n=d)\/∃k,u=some (.int k n)/\x=some (.int k n):=by
 rcases hu with ⟨rfl,rfl⟩|⟨y,v,rfl,rfl,hr⟩
 ·simp only[zRo,YAM]at h;exact .inl ⟨rfl,rfl,h.symm⟩
 ·cases hr<;>simp[zRo]at h
  subst h
  exact .inr ⟨_,rfl,rfl⟩
theorem zOs(hr:Rel V a w s){x:Option Operand}(hx:∀y,x=some y->zRn y=true):(x.map s.ev=none/\x.map a.eval=none)\/∃y v,x.map s.ev=some y/\x.map a.eval=some v/\Rep V v y:=by
 cases x with
 |none=>exact .inl ⟨rfl,rfl⟩
 |some y=>exact .inr ⟨_,_,rfl,rfl,zHQ hr y (hx y rfl)⟩
theorem zUp{k:IntKind}{n:Int}{y:Nat}{code:BoundsCode}(h:0<=n/\n<=y):(Instr.sliceBound (.int k n) y code).run P w= .ok n.toNat w:=by
 simp only[Instr.sliceBound,asIntOf,Sem.run_bind,Sem.run_pure,Result.andThen_ok]
 rw[if_pos h]
 rfl
theorem zWI{V:View}{base:Option Addr}{len cap:Nat}{es:List AV}{tk:Tk}{size:Nat}(h:Rep V (.slice base len cap) (.sl es tk))(hsz:∀y∈es,(cellsOf y).length=size){l h':Nat}(hl:l<=h')(hh:h'<=len):
 Rep V (.slice (if cap=l then base else base.map (·.add (l*size))) (h'-l) (cap-l)) (.sl ((es.take h').drop l) .no):=by
 cases h with
 |sl _ _ _ _ _ size' b q val hlen hcap hm hb hs hi hr ht hf=>
  rcases Nat.eq_or_lt_of_le hl with he|hlt
  ·subst he
   have h0:((es.take l).drop l)=[]:=List.drop_eq_nil_of_le (by simp;omega)
   rw[h0,Nat.sub_self]
   exact .sl _ 0 (cap-l) [] .no 0 0 0 (fun _=>undef) rfl (YAX _) (by omega) (fun h=>absurd h (by omega)) (fun i h=>absurd h (by omega)) (fun j h=>absurd h (by omega)) (fun i j h=>absurd h (by omega)) (fun r h=>by cases h) ⟨fun h=>(by cases h),fun h=>(by cases h)⟩
  ·have hse:size'=size:=by
    have h1:=hs 0 (by omega)
    have h2:=hsz (es.getD 0 .any) (by rw[getD_lt _ (by omega)];exact List.getElem_mem _)
    omega
   subst hse
   rw[if_neg (by omega)]
   have hget:∀i,i<h'-l->((es.take h').drop l).getD i .any=es.getD (l+i) .any:=fun i hi=>by
    simp[YAF,List.getElem?_drop,List.getElem?_take,show l+i<h' by omega]
   refine .sl _ (h'-l) (cap-l) _ .no size' b (q+l*size') (fun j=>val (l*size'+j)) (by simp;omega) (by omega) (by omega) (fun _=> ?_) (fun i hi'=> ?_) (fun j hj=> ?_) (fun i j hi' hj=> ?_) (fun r h=>by cases h) ⟨fun h=>(by cases h),fun h=>(by cases h)⟩
   ·rw[hb (by omega)];simp[addr_add]
   ·rw[hget i hi'];exact hs _ (by omega)
   ·rw[Nat.add_assoc]
    refine hi _ ?_
    have:(l+(h'-l))*size'<=len*size':=Nat.mul_le_mul_right _ (by omega)
    rw[Nat.add_mul]at this;omega
   ·rw[hget i hi',show l*size'+(i*size'+j)=(l+i)*size'+j by rw[Nat.add_mul];omega]
    exact hr _ _ (by omega) hj
theorem zWm(hC:zAb P C)(hr:Rel V a w s){t e:Nat}{l le:TL}{x:Operand}{lo hi mx:Option Operand}{out:Out}(hx:zRn x=true)(h1:∀y,lo=some y->zRn y=true)(h2:∀y,hi=some y->zRn y=true)(h3:∀y,mx=some y->zRn y=true)
 (hT:C.ty t=some l) (hd:l.d= .sl e) (hle:C.ty e=some le) (h:zF9 le.size (s.ev x) (lo.map s.ev) (hi.map s.ev) (mx.map s.ev) s=some out) (hc:out.c) (hop:o.op= .slice t x lo hi mx):zAz P V a w s o out:=by
 obtain⟨d,hrd,hdd⟩:=(hC _ _ hT).run_underlying w
 rw[hd]at hdd;simp only[zAe]at hdd;subst hdd
 have hsz:=(hC _ _ hle).run_sizeOf w
 have hrx:=zHQ hr x hx
 have e1:=zOs hr h1
 have e2:=zOs hr h2
 have e3:=zOs hr h3
 generalize hvx:a.eval x=vx at hrx
 generalize hax:s.ev x=ax at h hrx
 generalize hvl:lo.map a.eval=vl at e1
 generalize hal:lo.map s.ev=al at h e1
 generalize hvh:hi.map a.eval=vh at e2
 generalize hah:hi.map s.ev=ah at h e2
 generalize hvm:mx.map a.eval=vm at e3
 generalize ham:mx.map s.ev=am at h e3
 have hexec:(execOp a.eval o).run P w=((Instr.sliceAt t vx vl vh vm).run P w).andThen fun u w'=> .ok (.value u) w':=by
  simp only[execOp,hop,hvx,hvl,hvh,hvm,Sem.run_bind,Sem.run_pure]
 have hsa:(Instr.sliceAt t vx vl vh vm).run P w=(Instr.slice t vx vl vh vm).run P w:=by
  simp only[Instr.sliceAt,Sem.run_bind,hrd,Result.andThen_ok]
 cases ax with
 |sl es tk=>
  simp only[zF9]at h
  have hrx':=hrx
  cases hrx with
  |sl bse len cap _ _ size b q val hl hcap hm hb hs himm hrr ht hf=>
   split at h
   ·
    split at h
    ·rename_i n m hn hm'
     simp only[YAM]at h
     subst h
     obtain⟨g1,g2,g3,g4⟩:=hc
     have f1:=zRp hn e1
     have f2:=zRp hm' e2
     rcases e3 with ⟨-,rfl⟩|⟨y,v,hh,_⟩
     case inr=>cases hh
     have hb2:(Instr.sliceBounds true len cap vl vh none).run P w= .ok (n.toNat,m.toNat,cap) w:=by
      have rl:∀k code,(Instr.sliceBound (.int k n) m.toNat code).run P w= .ok n.toNat w:=fun k code=>zUp ⟨by omega,by omega⟩
      have rh:∀k code,(Instr.sliceBound (.int k m) cap code).run P w= .ok m.toNat w:=fun k code=>zUp ⟨by omega,by omega⟩
      rcases f1 with ⟨rfl, -,h0⟩|⟨k1,rfl, -⟩<;>rcases f2 with ⟨rfl, -,h1⟩|⟨k2,rfl, -⟩
      ·have e0:n.toNat=0:=by omega
       have e1:m.toNat=len:=by omega
       simp only[Instr.sliceBounds,Sem.run_bind,Sem.run_pure,Result.andThen_ok,e0,e1]
      ·have e0:n.toNat=0:=by omega
       simp only[Instr.sliceBounds,Sem.run_bind,Sem.run_pure,Result.andThen_ok,rh,e0]
      ·have e1:m.toNat=len:=by omega
       rw[e1]at rl
       simp only[Instr.sliceBounds,Sem.run_bind,Sem.run_pure,Result.andThen_ok,rl,e1]
      ·simp only[Instr.sliceBounds,Sem.run_bind,Sem.run_pure,Result.andThen_ok,rh,rl]
     have hsub:=zWI hrx' g4 (l:=n.toNat) (h':=m.toNat) (by omega) (by omega)
     refine .val hr (u:=_) ?_ hsub
     rw[hexec,hsa]
     simp only[Instr.slice,Sem.run_bind,hrd,Result.andThen_ok,hb2,hsz,Sem.run_pure]
    ·cases h
   ·
    rename_i kk mm
    split at h
    ·rename_i n m hn hm'
     simp only[YAM]at h
     subst h
     obtain⟨g1,rfl,rfl,g4,g5⟩:=hc
     have f1:=zRp hn e1
     have f2:=zRp hm' e2
     rcases e3 with ⟨hh, -⟩|⟨y,v,hh,rfl,hrm⟩
     case inl=>cases hh
     simp only[YAM]at hh
     subst hh
     cases hrm
     obtain⟨k2,rfl,rfl⟩:∃k,vh=some (.int k n)/\ah=some (.int k n):=by
      rcases f2 with ⟨-,rfl, -⟩|hh
      ·simp at g5
      ·exact hh
     have hb2:(Instr.sliceBounds true len cap vl (some (.int k2 n)) (some (.int kk n))).run P w= .ok (n.toNat,n.toNat,n.toNat) w:=by
      have r0:∀code,(Instr.sliceBound (.int kk n) cap code).run P w= .ok n.toNat w:=fun code=>zUp ⟨by omega,by omega⟩
      have r2:∀k code,(Instr.sliceBound (.int k n) n.toNat code).run P w= .ok n.toNat w:=fun k code=>zUp ⟨by omega,by omega⟩
      rcases f1 with ⟨rfl, -,h0⟩|⟨k1,rfl, -⟩
      ·have e0:n.toNat=0:=by omega
       rw[e0]at r2 r0
       simp only[Instr.sliceBounds,Sem.run_bind,Sem.run_pure,Result.andThen_ok,r0,r2,e0]
      ·simp only[Instr.sliceBounds,Sem.run_bind,Sem.run_pure,Result.andThen_ok,r0,r2]
     refine .val hr (u:= .slice bse 0 0) ?_ (.sl _ 0 0 [] .cap 0 0 0 (fun _=>undef) rfl (YAX _) (YAX _) (fun h=>absurd h (by omega)) (fun i h=>absurd h (by omega)) (fun j h=>absurd h (by omega)) (fun i j h=>absurd h (by omega)) (fun r h=>by cases h) ⟨fun h=>(by cases h),fun _=>rfl⟩)
     rw[hexec,hsa]
     simp only[Instr.slice,Sem.run_bind,hrd,Result.andThen_ok,hb2,hsz,Sem.run_pure,if_true,Nat.sub_self]
    ·cases h
   ·cases h
 |ms r ver len=>
  simp only[zF9]at h
  split at h
  ·rename_i kk m
   simp only[YAM]at h
   subst h
   obtain⟨g1,g2⟩:=hc
   rcases e1 with ⟨-,rfl⟩|⟨y,v,hh,_⟩
   case inr=>cases hh
   rcases e3 with ⟨-,rfl⟩|⟨y,v,hh,_⟩
   case inr=>cases hh
   rcases e2 with ⟨hh, -⟩|⟨y,v,hh,rfl,hrm⟩
   case inl=>cases hh
   simp only[YAM]at hh
   subst hh
   cases hrm
   cases hrx with
   |ms _ _ _ blk cap hl hcap hm hn=>
    have hb2:(Instr.sliceBounds true len cap none (some (.int kk m)) none).run P w= .ok (0,m.toNat,cap) w:=by
     have r2:=zUp (P:=P) (w:=w) (k:=kk) (n:=m) (y:=cap) (code:=if true then .sliceAcap else .sliceAlen) ⟨by omega,by omega⟩
     simp only[Instr.sliceBounds,Sem.run_bind,Sem.run_pure,Result.andThen_ok]at r2⊢
     simp only[r2,Result.andThen_ok]
    refine .val hr (u:= .slice (zDB blk) m.toNat cap) ?_ (.ms r ver m.toNat blk cap hl (by omega) hm hn)
    rw[hexec,hsa]
    simp only[Instr.slice,Sem.run_bind,hrd,Result.andThen_ok,hb2,hsz,Sem.run_pure,Nat.sub_zero]
    congr 3
    cases blk with
    |none=>simp[zDB]
    |some b=>simp[zDB,addr_add]
  ·cases h
 |_=>simp[zF9]at h
theorem zWp(hC:zAb P C)(hr:Rel V a w s){t:Nat}{l:TL}{x:Operand}{lo hi mx:Option Operand}{out:Out}(hx:zRn x=true)(h1:∀y,lo=some y->zRn y=true)(h2:∀y,hi=some y->zRn y=true)(h3:∀y,mx=some y->zRn y=true)
 (hT:C.ty t=some l) (hd:l.d= .str) (h:zGB (s.ev x) (lo.map s.ev) (hi.map s.ev) (mx.map s.ev) s=some out) (hc:out.c) (hop:o.op= .slice t x lo hi mx):zAz P V a w s o out:=by
 obtain⟨d,hrd,hdd⟩:=(hC _ _ hT).run_underlying w
 rw[hd]at hdd;simp only[zAe]at hdd;subst hdd
 have hrx:=zHQ hr x hx
 have e1:=zOs hr h1
 have e2:=zOs hr h2
 have e3:=zOs hr h3
 generalize hvx:a.eval x=vx at hrx
 generalize hax:s.ev x=ax at h hrx
 generalize hvl:lo.map a.eval=vl at e1
 generalize hal:lo.map s.ev=al at h e1
 generalize hvh:hi.map a.eval=vh at e2
 generalize hah:hi.map s.ev=ah at h e2
 generalize hvm:mx.map a.eval=vm at e3
 generalize ham:mx.map s.ev=am at h e3
 have hexec:(execOp a.eval o).run P w=((Instr.sliceAt t vx vl vh vm).run P w).andThen fun u w'=> .ok (.value u) w':=by
  simp only[execOp,hop,hvx,hvl,hvh,hvm,Sem.run_bind,Sem.run_pure]
 have hsa:(Instr.sliceAt t vx vl vh vm).run P w=(Instr.slice t vx vl vh vm).run P w:=by
  simp only[Instr.sliceAt,Sem.run_bind,hrd,Result.andThen_ok]
 unfold zGB at h
 split at h
 case h_2=>cases h
 split at h
 case h_2=>cases h
 rename_i b _ _ n m hn hm'
 simp only[YAM]at h
 subst h
 obtain⟨g1,g2,g3⟩:=hc
 have f1:=zRp hn e1
 have f2:=zRp hm' e2
 rcases e3 with ⟨-,rfl⟩|⟨y,v,hh,_⟩
 case inr=>cases hh
 cases hrx with
 |str _ hb=>
  have hb2:(Instr.sliceBounds false b.size b.size vl vh none).run P w= .ok (n.toNat,m.toNat,b.size) w:=by
   have rl:∀k code,(Instr.sliceBound (.int k n) m.toNat code).run P w= .ok n.toNat w:=fun k code=>zUp ⟨by omega,by omega⟩
   have rh:∀k code,(Instr.sliceBound (.int k m) b.size code).run P w= .ok m.toNat w:=fun k code=>zUp ⟨by omega,by omega⟩
   rcases f1 with ⟨rfl, -,h0⟩|⟨k1,rfl, -⟩<;>rcases f2 with ⟨rfl, -,h1⟩|⟨k2,rfl, -⟩
   ·have e0:n.toNat=0:=by omega
    have e1:m.toNat=b.size:=by omega
    simp only[Instr.sliceBounds,Sem.run_bind,Sem.run_pure,Result.andThen_ok,e0,e1]
   ·have e0:n.toNat=0:=by omega
    simp only[Instr.sliceBounds,Sem.run_bind,Sem.run_pure,Result.andThen_ok,rh,e0]
   ·have e1:m.toNat=b.size:=by omega
    rw[e1]at rl
    simp only[Instr.sliceBounds,Sem.run_bind,Sem.run_pure,Result.andThen_ok,rl,e1]
   ·simp only[Instr.sliceBounds,Sem.run_bind,Sem.run_pure,Result.andThen_ok,rh,rl]
  refine .val hr (u:= .string (b.extract n.toNat m.toNat)) ?_ (.str _ (by rw[ByteArray.size_extract];omega))
  rw[hexec,hsa]
  simp only[Instr.slice,Sem.run_bind,hrd,Result.andThen_ok,hb2,Sem.run_pure,Option.isSome_none,YAB,if_false]
/- Maps. -/
theorem zHg{d:TD}{kind:TypeDesc}(hd:zAe kind d){kv:Value}{ka:AV}(hk:Rep V kv ka):∀(es:List (AV×AV)) (en:List MapEntry) (i:Nat) {f:Option (Nat×AV)},zBB V en es->zHd d ka es i=some f->
 ∃f',Instr.findNow kind kv en i=some f'/\((f=none/\f'=none)\/∃j x v e,f=some (j,x)/\f'=some (j,v)/\Rep V v x/\i<=j/\en[j-i]?=some e/\e.key=kv)
 | [],en,i,f,hr,h=>by
  have:en=[]:=List.eq_nil_of_length_eq_zero (by simpa using hr.1)
  subst this
  simp only[zHd,YAM]at h
  exact⟨none,rfl,.inl ⟨h.symm,rfl⟩⟩
 |p::es,en,i,f,hr,h=>by
  cases en with
  |nil=>simp[zBB]at hr
  |cons e en=>
   obtain⟨hk1,hv1⟩:=hr.2 0 (by simp) e p rfl rfl
   have hr':zBB V en es:=⟨by simpa using hr.1,fun j hj e' p' he hp=>hr.2 (j+1) (by simpa using hj) e' p' (by simpa using he) (by simpa using hp)⟩
   have hstep:∀b,zMS d ka p.1=some b->Instr.sameNow kind kv e.key=some b/\(b=true->e.key=kv):=by
    intro b hb
    generalize hek:e.key=ek at hk1
    generalize hpk:p.1=pk at hk1 hb
    cases hk with
    |int k n _ _=>
     cases hk1 with
     |int k' n' _ _=>
      cases d<;>simp only[zMS]at hb<;>try (cases hb)
      simp only[zAe]at hd
      subst hd
      split at hb
      ·rename_i hkk;subst hkk
       simp only[YAM]at hb
       subst hb
       refine⟨by simp[Instr.sameNow],fun h=> ?_⟩
       simp at h;rw[h]
      ·cases hb
     |_=>cases d<;>simp[zMS]at hb
    |str n _=>
     cases hk1 with
     |str n' _=>
      cases d<;>simp only[zMS]at hb<;>try (cases hb)
      simp only[zAe]at hd
      subst hd
      refine⟨by simp[Instr.sameNow],fun h=> ?_⟩
      exact(congrArg Value.string (zD6 h)).symm
     |_=>cases d<;>simp[zMS]at hb
    |_=>cases d<;>simp[zMS]at hb
   simp only[zHd]at h
   cases hke:zMS d ka p.1 with
   |none=>rw[hke]at h;simp at h
   |some b=>
    obtain⟨hs,hek⟩:=hstep b hke
    rw[hke]at h
    cases b with
    |true=>
     simp only[YAM]at h
     subst h
     exact⟨some (i,e.val),by simp only[Instr.findNow,hs],.inr ⟨i,p.2,e.val,e,rfl,rfl,hv1,YAV _,by simp,hek rfl⟩⟩
    |false=>
     simp only at h
     obtain⟨f',h1,h2⟩:=zHg hd hk es en (i+1) hr' h
     refine⟨f',by simp only[Instr.findNow,hs,h1],?_⟩
     rcases h2 with h2|⟨j,x,v,e',g1,g2,g3,g4,g5,g6⟩
     ·exact .inl h2
     ·refine .inr ⟨j,x,v,e',g1,g2,g3,by omega,?_,g6⟩
      rw[show j-i=(j-(i+1))+1 by omega]
      simpa using g5
theorem run_checkKey{kt:Nat}{l:TL}(hT:TyOK P kt l){kv:Value}{ka:AV}(hk:Rep V kv ka)(ho:zMT l.d ka=true)(em:Bool)(d:Nat):(Instr.checkKey em (d+1) kt kv).run P w= .ok () w:=by
 obtain⟨ds,hrd,hdd⟩:=hT.run_underlying w
 simp only[Instr.checkKey,Sem.run_bind,hrd,Result.andThen_ok]
 cases hk with
 |int k n _ _=>
  cases hd:l.d<;>rw[hd]at ho hdd<;>simp[zMT]at ho
  simp only[zAe]at hdd;subst hdd
  rfl
 |str n _=>
  cases hd:l.d<;>rw[hd]at ho hdd<;>simp[zMT]at ho
  simp only[zAe]at hdd;subst hdd
  rfl
 |_=>cases hd:l.d<;>rw[hd]at ho<;>simp[zMT]at ho
theorem run_findKey{kt:Nat}{l:TL}(hT:TyOK P kt l){kv:Value}{en:List MapEntry}{f':Option (Nat×Value)}(h:∀kind,P.underlying kt=some kind->Instr.findNow kind kv en 0=some f'):(Instr.findKey kt kv en).run P w= .ok f' w:=by
 obtain⟨ds,hds,_⟩:=hT.desc
 simp only[Instr.findKey,Sem.run_bind,Go.run_underlying hds,Result.andThen_ok,h ds hds,Sem.run_pure]
theorem zOv(hr:RelW V w s){r:Nat}{es:List (AV×AV)}(ho:s.obj r=some (.map es)){b c:Nat}(hl:V.loc r 0=some (some b,c)):
 ∃entries clock,w.heap[b]?=some (.map entries clock)/\V.base<=b/\zBB V entries.toList es/\∀o,V.imm b o=none:=by
 obtain⟨b',c',entries,clock,h1,h2,h3,h4,h5⟩:=hr.inv.objs r _ ho
 rw[hl]at h1
 simp only[YAM,YAY]at h1
 obtain⟨rfl,rfl⟩:=h1
 exact⟨entries,clock,h2,h3,h4,h5⟩
theorem zU0{b:Nat}{entries:Array MapEntry}{clock:Nat}(hg:w.heap[b]?=some (.map entries clock)):(getObj b).run P w= .ok (.map entries clock) w:=by
 simp only[getObj,Sem.run,hg]
theorem zU9{b:Nat}{entries:Array MapEntry}{clock:Nat}(hg:w.heap[b]?=some (.map entries clock))(ob:Obj):(setObj b ob).run P w= .ok () {w with heap:=w.heap.setIfInBounds b ob}:=by
 simp only[setObj,Sem.run,hg]
theorem zWi(hC:zAb P C)(hr:Rel V a w s){t kt vt:Nat}{m k:Operand}{ok:Bool}{l lk lv:TL}{r:Nat}{es:List (AV×AV)}{f:Option (Nat×AV)}(hm:zRn m=true)(hk:zRn k=true)
 (hT:C.ty t=some l) (hd:l.d= .map kt vt) (hlk:C.ty kt=some lk) (hlv:C.ty vt=some lv) (hev:s.ev m= .mp r) (ho:s.obj r=some (.map es)) (hf:zHd lk.d (s.ev k) es 0=some f) (hc:zMT lk.d (s.ev k)=true)
 (hop:o.op= .lookup t m k ok):zAz P V a w s o ⟨zMT lk.d (s.ev k)=true,if ok then .tup [zHw lv.zero f,.bool f.isSome]else zHw lv.zero f,s⟩:=by
 obtain⟨d,hrd,hdd⟩:=(hC _ _ hT).run_underlying w
 rw[hd]at hdd;simp only[zAe]at hdd;subst hdd
 have hrm:=zHQ hr m hm
 have hrk:=zHQ hr k hk
 rw[hev]at hrm
 generalize hvm:a.eval m=vm at hrm
 cases hrm with
 |mp _ b c hl=>
  obtain⟨entries,clock,hg,_,hmap,_⟩:=zOv hr.toW ho hl
  obtain⟨kd,hkd,hkk⟩:=(hC _ _ hlk).desc
  obtain⟨f',hf1,hf2⟩:=zHg hkk hrk es entries.toList 0 hmap hf
  have hfk:=run_findKey (P:=P) (w:=w) (hC _ _ hlk) (kv:=a.eval k) (en:=entries.toList) (f':=f') (fun kind hh=>by rw[hkd]at hh;cases hh;exact hf1)
  have hck:=run_checkKey (P:=P) (w:=w) (hC _ _ hlk) hrk hc entries.isEmpty 9999
  obtain⟨z,hz,hzr⟩:=(hC _ _ hlv).zVD w
  have hpre:∀(K:Value×Bool->Sem Value),(match f' with|some (_,v)=>K (v,true)|none=>zeroValue vt>>=fun z=>K (z,false)).run P w=(K ((match f' with|some (_,v)=>v|none=>z),f'.isSome)).run P w:=by
   intro K
   cases f' with
   |none=>simp only[Sem.run_bind,hz,Result.andThen_ok,Option.isSome_none]
   |some p=>rfl
  have hval:Rep V (match f' with|some (_,v)=>v|none=>z) (zHw lv.zero f)/\f'.isSome=f.isSome:=by
   rcases hf2 with ⟨rfl,rfl⟩|⟨j,x,v,e,rfl,rfl,hv,_⟩
   ·exact⟨hzr V,rfl⟩
   ·exact⟨hv,rfl⟩
  refine .val hr (u:=if ok then .tuple #[(match f' with|some (_,v)=>v|none=>z),.bool f'.isSome]else(match f' with|some (_,v)=>v|none=>z)) ?_ ?_
  ·simp only[execOp,hop,hvm,Instr.lookup,Sem.run_bind,hrd,Result.andThen_ok,zU0 hg,Sem.run_pure,hck,hfk]
   cases f' with
   |none=>simp only[Sem.run_bind,hz,Result.andThen_ok,Sem.run_pure,Option.isSome_none]
   |some p=>simp only[Sem.run_bind,Result.andThen_ok,Sem.run_pure,Option.isSome_some]
  ·cases ok with
   |false=>simpa using hval.1
   |true=>
    simp only[if_true]
    refine RepL.tup ?_
    rw[hval.2]
    exact .cons hval.1 (.cons (.bool _) (.nil V))
theorem zVH{V:View}{v:Value}{x:AV}(h:Rep V v x){d:TD}(ho:zMT d x=true)(n:Nat):Instr.sameBits n v v=true:=by
 cases h with
 |int k m _ _=>simp[Instr.sameBits]
 |str b _=>
  have:(b.data==b.data)=true:=beq_self_eq_true b.data
  unfold Instr.sameBits
  exact this
 |_=>cases d<;>simp[zMT]at ho
theorem zBB.set{V:View}{en:List MapEntry}{es:List (AV×AV)}(h:zBB V en es){i:Nat}{e:MapEntry}{p:AV×AV}(hk:Rep V e.key p.1)(hv:Rep V e.val p.2):zBB V (en.set i e) (es.set i p):=by
 refine⟨by simp[h.1],fun j hj e' p' he hp=> ?_⟩
 simp only[List.length_set]at hj
 rw[List.getElem?_set]at he hp
 by_cases hij:i=j
 ·subst hij
  simp only[if_true,hj]at hp
  rw[if_pos rfl,if_pos (by rw[h.1];exact hj)]at he
  cases he;cases hp
  exact⟨hk,hv⟩
 ·rw[if_neg hij]at he hp
  exact h.2 j hj e' p' he hp
theorem zBB.push{V:View}{en:List MapEntry}{es:List (AV×AV)}(h:zBB V en es){e:MapEntry}{p:AV×AV}(hk:Rep V e.key p.1)(hv:Rep V e.val p.2):zBB V (en++ [e]) (es++ [p]):=by
 refine⟨by simp[h.1],fun j hj e' p' he hp=> ?_⟩
 rw[List.getElem?_append]at he hp
 by_cases h1:j<es.length
 ·rw[if_pos h1]at hp
  rw[if_pos (by rw[h.1];exact h1)]at he
  exact h.2 j h1 e' p' he hp
 ·rw[if_neg h1]at hp
  rw[if_neg (by rw[h.1];exact h1)]at he
  have:j=es.length:=by simp at hj;omega
  subst this
  rw[h.1]at he
  simp at he hp
  subst he;subst hp
  exact⟨hk,hv⟩
theorem zQj:∀l:List AV,(AV.normL l).length=l.length
 | []=>rfl
 |a::as=>by simp[AV.normL,zQj as]
theorem zQi:∀(l:List AV) (i:Nat),(AV.normL l).getD i .any=(l.getD i .any).norm
 | [],i=>by simp[AV.normL,AV.norm]
 |a::as,0=>by simp[AV.normL]
 |a::as,i+1=>by simpa [AV.normL]using zQi as i
theorem zEd(a:AV):cellsOf a.norm=AV.normL (cellsOf a):=by
 cases a<;>first|rfl|(simp[AV.norm,cellsOf,AV.normL])
theorem Rep.normed{V:View}{v:Value}{a:AV}(h:Rep V v a):Rep V v a.norm:=by
 induction h with
 |agg cs as hl _ ih=>exact .agg cs _ (by rw[zQj];exact hl) fun i hi=>by rw[zQi];rw[zQj]at hi;exact ih i hi
 |tup cs as hl _ ih=>exact .tup cs _ (by rw[zQj];exact hl) fun i hi=>by rw[zQi];rw[zQj]at hi;exact ih i hi
 |sl bse len cap es tok size b o val hl hc hm hb' hs hi _ ht hf ih=>
  refine .sl bse len cap _ .no size b o val (by rw[zQj];exact hl) hc hm hb' (fun i hi=> ?_) hi (fun i j hi' hj=> ?_) (fun r h=>by cases h) ⟨fun h=>(by cases h),fun h=>(by cases h)⟩
  ·rw[zQi,zEd,zQj];exact hs i hi
  ·rw[zQi,zEd,zQi];exact ih i j hi' hj
 |eptr e off b o val hi _ ih=>exact .eptr _ off b o val (fun j hj=>by rw[zQj]at hj;exact hi j hj) fun j hj=>by rw[zQi];rw[zQj]at hj;exact ih j hj
 |any v=>exact .any v
 |int k n h1 h2=>exact .int k n h1 h2
 |bool b=>exact .bool b
 |str s h=>exact .str s h
 |nilp=>exact .nilp
 |bptr r off b c h=>exact .bptr r off b c h
 |ms r ver len blk cap h hc hm hn=>exact .ms r ver len blk cap h hc hm hn
 |aptr r ver size i off b cap h=>exact .aptr r ver size i off b cap h
 |mp r b c h=>exact .mp r b c h
 |nilm=>exact .nilm
 |fn f=>exact .fn f
 |clo f cs as hl _ ih=>exact .clo f cs _ (by rw[zQj];exact hl) fun i hi=>by rw[zQi];rw[zQj]at hi;exact ih i hi
 |yld r b c h=>exact .yld r b c h
 |nilf=>exact .nilf
theorem zWl(hC:zAb P C)(hr:Rel V a w s){t kt vt:Nat}{m k x:Operand}{l lk:TL}{r:Nat}{es:List (AV×AV)}{f:Option (Nat×AV)}(hm:zRn m=true)(hk:zRn k=true)(hx:zRn x=true)
 (hT:C.ty t=some l) (hd:l.d= .map kt vt) (hlk:C.ty kt=some lk) (hev:s.ev m= .mp r) (ho:s.obj r=some (.map es)) (hf:zHd lk.d (s.ev k) es 0=some f) {cnd:Prop}
 (hc:zMT lk.d (s.ev k)=true/\(r<s.b->(s.ev k).bel s.b=true/\(s.ev x).norm.bel s.b=true)) (hop:o.op= .mapUpdate t m k x\/o.op= .insert t m k x):
 zAz P V a w s o ⟨cnd,.any,s.setObj r (.map (zOk es f (s.ev k) (s.ev x).norm))⟩:=by
 obtain⟨hc1,hc2⟩:=hc
 obtain⟨d,hrd,hdd⟩:=(hC _ _ hT).run_underlying w
 rw[hd]at hdd;simp only[zAe]at hdd;subst hdd
 have hrm:=zHQ hr m hm
 have hrk:=zHQ hr k hk
 have hrx:=zHQ hr x hx
 rw[hev]at hrm
 generalize hvm:a.eval m=vm at hrm
 cases hrm with
 |mp _ b c hl=>
  obtain⟨entries,clock,hg,hbase,hmap,himm⟩:=zOv hr.toW ho hl
  obtain⟨kd,hkd,hkk⟩:=(hC _ _ hlk).desc
  obtain⟨f',hf1,hf2⟩:=zHg hkk hrk es entries.toList 0 hmap hf
  have hfk:=run_findKey (P:=P) (w:=w) (hC _ _ hlk) (kv:=a.eval k) (en:=entries.toList) (f':=f') (fun kind hh=>by rw[hkd]at hh;cases hh;exact hf1)
  have hck:=run_checkKey (P:=P) (w:=w) (hC _ _ hlk) hrk hc1 false 9999
  have hexec:(execOp a.eval o).run P w=((Instr.mapUpdate t (.map (some b)) (a.eval k) (a.eval x)).run P w).andThen fun _ w'=> .ok .skip w':=by
   rcases hop with hop|hop<;>simp only[execOp,hop,hvm,Sem.run_bind,Sem.run_pure]
  obtain⟨en',cl',hmap',hrun⟩:∃en':Array MapEntry,∃cl',zBB V en'.toList (zOk es f (s.ev k) (s.ev x).norm)/\
   (Instr.mapUpdate t (.map (some b)) (a.eval k) (a.eval x)).run P w= .ok () {w with heap:=w.heap.setIfInBounds b (.map en' cl')}:=by
   rcases hf2 with ⟨rfl,rfl⟩|⟨j,y,v,e,rfl,rfl,hv,_,hej,hek⟩
   ·refine⟨entries.push {key:=a.eval k,val:=a.eval x,born:=clock},clock+1,by simpa [zOk]using hmap.push (e:= {key:=a.eval k,val:=a.eval x,born:=clock}) (p:=(s.ev k,(s.ev x).norm)) hrk hrx.normed,?_⟩
    simp only[Instr.mapUpdate,Sem.run_bind,hrd,Result.andThen_ok,zU0 hg,hck,hfk,zU9 hg]
   ·simp only[Nat.sub_zero]at hej
    have hej':entries[j]?=some e:=by simpa using hej
    refine⟨entries.modify j fun e=> {e with key:=a.eval k,val:=a.eval x},clock,?_,?_⟩
    ·have h1:(entries.modify j fun e=> {e with key:=a.eval k,val:=a.eval x}).toList=entries.toList.set j {e with key:=a.eval k,val:=a.eval x}:=by
      apply List.ext_getElem?
      intro q
      rw[Array.getElem?_toList,Array.getElem?_modify,List.getElem?_set]
      by_cases hq:j=q
      ·subst hq
       have hlt:j<entries.size:=(Array.getElem?_eq_some_iff.1 hej').1
       rw[if_pos rfl,if_pos rfl,hej',if_pos (by simpa using hlt)]
       rfl
      ·rw[if_neg hq,if_neg hq];simp
     rw[h1]
     exact hmap.set (e:= {e with key:=a.eval k,val:=a.eval x}) (p:=(s.ev k,(s.ev x).norm)) hrk hrx.normed
    ·have hks:(Instr.keyThatStays e.key (a.eval k)).run P w= .ok (a.eval k) w:=by
      unfold Instr.keyThatStays
      rw[hek,if_pos (zVH hrk hc1 10000)]
      rfl
     simp only[Instr.mapUpdate,Sem.run_bind,hrd,Result.andThen_ok,zU0 hg,hck,hfk,hej',Option.map_some,Option.getD_some,hks,zU9 hg]
  have hlt:b<w.heap.size:=(Array.getElem?_eq_some_iff.1 hg).1
  refine⟨.skip,{w with heap:=w.heap.setIfInBounds b (.map en' cl')},V,by rw[hexec,hrun];rfl,.refl V,⟨rfl,rfl,rfl,by simp,fun q hq=> ?_⟩,?_,zVZ _ _ _,zVe _ _ _,zVX _ _ _,.inr ⟨rfl,rfl⟩⟩
  ·simp only;rw[Array.getElem?_setIfInBounds_ne (by omega)]
  ·refine hr.toW.setObj ho (hr.inv.write r _ _ ho b (by simp[own,hl]) (by simp) (fun q hq=>by simp only;rw[Array.getElem?_setIfInBounds_ne (Ne.symm hq)]) V (.refl V) (fun _ _ _=>rfl) (fun o v hv=>by rw[himm o]at hv;cases hv) (fun _ _ _=>rfl) ?_ (by simp[own,hl])) ?_
   ·exact⟨b,c,en',cl',hl,by simp only;rw[Array.getElem?_setIfInBounds_self_of_lt hlt],hbase,hmap',himm⟩
   ·intro hlt'
    have hb0:(AObj.map es).bel s.b=true:=hr.bel _ (by unfold AState.obj at ho;rw[if_pos hlt']at ho;exact List.mem_of_getElem? ho)
    obtain⟨g1,g2⟩:=hc2 hlt'
    simp only[AObj.bel,YAA,zDV,List.mem_map,forall_exists_index,and_imp,forall_apply_eq_imp_iff₂]at hb0⊢
    have key:∀p∈zOk es f (s.ev k) (s.ev x).norm,p∈es\/p=(s.ev k,(s.ev x).norm):=by
     intro p hp
     cases f with
     |none=>simpa [zOk]using hp
     |some q=>exact List.mem_or_eq_of_mem_set hp
    exact⟨fun p hp=>(key p hp).elim (hb0.1 p) (fun h=>by rw[h];exact g1),fun p hp=>(key p hp).elim (hb0.2 p) (fun h=>by rw[h];exact g2)⟩
end
end Go.Ab
/- Whatever operation the executor takes runs as the model's does. Condition: the executor's table of types is the program's; the constants are of their types. -/
set_option linter.unusedSimpArgs false
namespace Go.Ab
open Go.RowKit (Below)
section
variable {P : Program} {C : Cfg} {V : View} {w : World} {s : AState} {a : Act} {o : Oper}
theorem zHR{b:Builtin}{args:Array Operand}{ts:Array Nat}(hop:o.op= .call {callee:= .builtin b,args:=args,argTypes:=ts}):
 ∃cst,(execOp a.eval o).run P w=(Go.builtin b ts o.type cst (args.map a.eval)).run P w:=by
 simp only[execOp,hop,resolve,invoke,Sem.run_bind,Sem.run_pure,Result.andThen_ok]
 exact⟨_,rfl⟩
theorem len1{α:Type}{l:List α}(h:l.length=1):∃x,l=[x]:=List.length_eq_one_iff.1 h
theorem len2{α:Type}{l:List α}(h:l.length=2):∃x y,l=[x,y]:=by
 match l,h with
 | [x,y],_=>exact⟨x,y,rfl⟩
theorem zCq{V:View}{u:Value}{r ver n:Nat}(h:Rep V u (.ms r ver n)):n<=maxLen:=by
 cases h with
 |ms _ _ _ blk cap h hc hm hn=>omega
theorem zWX(hC:zAb P C)(hr:Rel V a w s){inpl:Bool}{b:Builtin}{args:Array Operand}{ts:Array Nat}{out:Out}(ho:∀x∈args.toList,zRn x=true)
 (h:zF5 C inpl s b ts.toList (args.toList.map s.ev)=some out) (hc:out.c) (hop:o.op= .call {callee:= .builtin b,args:=args,argTypes:=ts}):zAz P V a w s o out:=by
 obtain⟨cst,hex⟩:=zHR (P:=P) (w:=w) (a:=a) hop
 have hargs:∀l:List AV,args.toList.map s.ev=l->∃vs:List Value,args.toList.map a.eval=vs/\RepL V vs l:=by
  intro l hl
  subst hl
  refine⟨_,rfl,RepL.zQ9 (by simp) fun i v x hv hx=> ?_⟩
  rw[List.getElem?_map,Option.map_eq_some_iff]at hv hx
  obtain⟨y,hy,rfl⟩:=hv
  obtain⟨y',hy',rfl⟩:=hx
  rw[hy]at hy'
  cases hy'
  exact zHQ hr _ (ho y (List.mem_of_getElem? hy))
 have hm:args.map a.eval=(args.toList.map a.eval).toArray:=by rw[<-Array.toList_map]
 rw[hm]at hex
 have hone:∀ {t:Nat},ts.toList=[t]->ts= #[t]:=fun h=>Array.ext' h
 unfold zF5 at h
 split at h
 ·
  rename_i t es tk ht harg
  split at h
  case h_2=>cases h
  rename_i e z1 z2 z3 hty
  simp only[YAM]at h;subst h
  obtain⟨vs,hvs,hrl⟩:=hargs _ harg
  rw[hvs,hone ht]at hex
  obtain⟨d,hd,hdd⟩:=(hC _ _ hty).desc
  simp only[zAe]at hdd;subst hdd
  obtain⟨v,rfl⟩:=len1 hrl.1
  have hv:=hrl.2 0 (by simp)
  simp only[List.getD_cons_zero]at hv
  cases hv with
  |sl bse len cap _ _ size b q val hl hcap hm hb hs himm hrr ht hf=>
   refine .val hr (u:= .int .i64 len) ?_ (by rw[hl];exact zTb (by omega))
   rw[hex]
   simp[Go.builtin,Builtin.len_,Go.run_underlying hd,goInt]
 ·rename_i t r ver n ht harg
  split at h
  case h_2=>cases h
  rename_i e z1 z2 z3 hty
  simp only[YAM]at h;subst h
  obtain⟨vs,hvs,hrl⟩:=hargs _ harg
  rw[hvs,hone ht]at hex
  obtain⟨d,hd,hdd⟩:=(hC _ _ hty).desc
  simp only[zAe]at hdd;subst hdd
  obtain⟨v,rfl⟩:=len1 hrl.1
  have hv:=hrl.2 0 (by simp)
  simp only[List.getD_cons_zero]at hv
  have hle:=zCq hv
  cases hv with
  |ms _ _ _ blk cap hl hcap hm hn=>
   refine .val hr (u:= .int .i64 n) ?_ (zTb hle)
   rw[hex]
   simp[Go.builtin,Builtin.len_,Go.run_underlying hd,goInt]
 ·rename_i t x ht harg
  split at h
  case h_2=>cases h
  rename_i z1 z2 z3 hty
  simp only[YAM]at h;subst h
  obtain⟨vs,hvs,hrl⟩:=hargs _ harg
  rw[hvs,hone ht]at hex
  obtain⟨d,hd,hdd⟩:=(hC _ _ hty).desc
  simp only[zAe]at hdd;subst hdd
  obtain⟨v,rfl⟩:=len1 hrl.1
  have hv:=hrl.2 0 (by simp)
  simp only[List.getD_cons_zero]at hv
  cases hv with
  |str _ hb=>
   refine .val hr (u:= .int .i64 x.size) ?_ (zTb hb)
   rw[hex]
   simp[Go.builtin,Builtin.len_,Go.run_underlying hd,goInt]
 ·rename_i t r ht harg
  split at h
  case h_2=>cases h
  rename_i kk ee z1 z2 z3 es hty hob
  simp only[YAM]at h;subst h
  obtain⟨vs,hvs,hrl⟩:=hargs _ harg
  rw[hvs,hone ht]at hex
  obtain⟨d,hd,hdd⟩:=(hC _ _ hty).desc
  simp only[zAe]at hdd;subst hdd
  obtain⟨v,rfl⟩:=len1 hrl.1
  have hv:=hrl.2 0 (by simp)
  simp only[List.getD_cons_zero]at hv
  cases hv with
  |mp _ b c hl=>
   obtain⟨entries,clock,hg,hbase,hmap,himm⟩:=zOv hr.toW hob hl
   have hlen:entries.size=es.length:=by simpa using hmap.1
   refine .val hr (u:= .int .i64 es.length) ?_ (zTb hc)
   rw[hex]
   simp[Go.builtin,Builtin.len_,Go.run_underlying hd,goInt,zU0 hg,hlen]
 ·
  rename_i t t' av xv ht harg
  split at h
  case isFalse=>cases h
  rename_i htt
  subst htt
  obtain⟨vs,hvs,hrl⟩:=hargs _ harg
  rw[hvs]at hex
  have htse:ts= #[t,t]:=by
   exact Array.ext' ht
  subst htse
  obtain⟨va,vx,rfl⟩:=len2 hrl.1
  have h1:=hrl.2 0 (by simp)
  have h2:=hrl.2 1 (by simp)
  simp only[List.getD_cons_zero,List.getD_cons_succ]at h1 h2
  obtain⟨u,w',V',g1,g2,g3,g4,g5,g6,g7,g8⟩:=zCZ (ty:=o.type) hC hr.toW h1 h2 h hc
  refine⟨.value u,w',V',?_,g2,g3,g4,g5,g6,g7,.inl ⟨u,rfl,g8⟩⟩
  rw[hex]
  simp only[Go.builtin,Sem.run_bind,g1,Result.andThen_ok,Sem.run_pure]
 ·rename_i k x k' y harg
  split at h
  case isFalse=>cases h
  rename_i hk
  subst hk
  simp only[YAM]at h;subst h
  obtain⟨vs,hvs,hrl⟩:=hargs _ harg
  rw[hvs]at hex
  obtain⟨va,vx,rfl⟩:=len2 hrl.1
  have h1:=hrl.2 0 (by simp)
  have h2:=hrl.2 1 (by simp)
  simp only[List.getD_cons_zero,List.getD_cons_succ]at h1 h2
  cases h1 with
  |int _ _ p1 p2=>
  cases h2 with
  |int _ _ p3 p4=>
   refine .val hr (u:= .int k (if y>x then y else x)) ?_ (by split<;>exact .int _ _ (by assumption) (by assumption))
   rw[hex]
   simp[Go.builtin,Builtin.max_,Builtin.max2]
 ·rename_i k x k' y harg
  split at h
  case isFalse=>cases h
  rename_i hk
  subst hk
  simp only[YAM]at h;subst h
  obtain⟨vs,hvs,hrl⟩:=hargs _ harg
  rw[hvs]at hex
  obtain⟨va,vx,rfl⟩:=len2 hrl.1
  have h1:=hrl.2 0 (by simp)
  have h2:=hrl.2 1 (by simp)
  simp only[List.getD_cons_zero,List.getD_cons_succ]at h1 h2
  cases h1 with
  |int _ _ p1 p2=>
  cases h2 with
  |int _ _ p3 p4=>
   refine .val hr (u:= .int k (if y<x then y else x)) ?_ (by split<;>exact .int _ _ (by assumption) (by assumption))
   rw[hex]
   simp[Go.builtin,Builtin.min_,Builtin.min2]
 ·cases h
end
end Go.Ab
/- Whatever operation the executor takes runs as the model's does: all in one. Condition: the executor's table of types is the program's; the constants are of their types. -/
set_option linter.unusedSimpArgs false
namespace Go.Ab
open Go.RowKit (Below)
section
variable {P : Program} {C : Cfg} {V : View} {w : World} {s : AState} {a : Act} {o : Oper}
theorem zGE(hC:zAb P C)(hr:Rel V a w s){out:Out}(h:eff C o s=some out)(hc:out.c)(hok:zRm o=true):zAz P V a w s o out:=by
 have hk:∀x∈o.op.operands.toList,zRn x=true:=List.all_eq_true.1 hok
 unfold eff at h
 split at h
 ·
  rename_i x hop
  simp only[YAM]at h;subst h
  exact .val hr (by simp only[execOp,hop];rfl) (zHQ hr x (hk x (by simp[hop,Op.operands])))
 ·rename_i x hop
  simp only[YAM]at h;subst h
  exact .val hr (by simp only[execOp,hop];rfl) (zHQ hr x (hk x (by simp[hop,Op.operands])))
 ·
  rename_i c x y hop
  have hrc:=zHQ hr c (hk c (by simp[hop,Op.operands]))
  split at h
  case h_2=>cases h
  rename_i t hev
  rw[hev]at hrc
  simp only[YAM]at h;subst h
  generalize hvc:a.eval c=vc at hrc
  cases hrc
  refine .val hr (u:=if t then a.eval x else a.eval y) ?_ ?_
  ·simp only[execOp,hop,hvc,asBool,Sem.run_bind,Sem.run_pure,Result.andThen_ok]
  ·cases t
   ·exact zHQ hr y (hk y (by simp[hop,Op.operands]))
   ·exact zHQ hr x (hk x (by simp[hop,Op.operands]))
 ·
  rename_i t hop
  split at h
  case h_2=>cases h
  rename_i l hT
  simp only[YAM]at h;subst h
  exact zWR hC hr hT hop
 ·rename_i t x hop
  simp only[YAM]at h;subst h
  exact zWT hr (hk x (by simp[hop,Op.operands])) hc hop
 ·
  rename_i t x hop
  split at h
  case h_2=>cases h
  rename_i l cs off c hT hcs
  simp only[YAM]at h;subst h
  exact zWh hC hr (hk x (by simp[hop,Op.operands])) hT hcs hc hop
 ·
  rename_i t p x hop
  split at h
  case h_2=>cases h
  rename_i l hT
  split at h
  ·rename_i r off hev
   split at h
   case h_2=>cases h
   rename_i cs ho
   simp only[YAM]at h;subst h
   exact zWo hC hr (hk p (by simp[hop,Op.operands])) (hk x (by simp[hop,Op.operands])) hT hev ho hc hop
  ·rename_i r ver size i off hev
   split at h
   case h_2=>cases h
   rename_i v' sz es ho
   simp only[YAM]at h;subst h
   exact zWn hC hr (hk p (by simp[hop,Op.operands])) (hk x (by simp[hop,Op.operands])) hT hev ho hc hop
  ·cases h
 ·
  rename_i x hop
  have hrx:=zHQ hr x (hk x (by simp[hop,Op.operands]))
  generalize hv:a.eval x=v at hrx
  split at h
  ·rename_i r k hev
   rw[hev]at hrx
   simp only[YAM]at h;subst h
   have hrx':=hrx
   cases hrx
   exact .val hr (by simp only[execOp,hop,hv,Sem.run_pure]) hrx'
  ·rename_i e k hev
   rw[hev]at hrx
   simp only[YAM]at h;subst h
   have hrx':=hrx
   cases hrx
   exact .val hr (by simp only[execOp,hop,hv,Sem.run_pure]) hrx'
  ·rename_i r v z i k hev
   rw[hev]at hrx
   simp only[YAM]at h;subst h
   have hrx':=hrx
   cases hrx
   exact .val hr (by simp only[execOp,hop,hv,Sem.run_pure]) hrx'
  ·cases h
 ·
  rename_i op t x y yt hop
  split at h
  case h_2=>cases h
  rename_i l hT
  split at h
  case h_2=>cases h
  rename_i c v hab
  simp only[YAM]at h;subst h
  exact zWS hC hr (hk x (by simp[hop,Op.operands])) (hk y (by simp[hop,Op.operands])) hT hab hc hop
 ·
  rename_i op t x hop
  split at h
  ·rename_i b hev
   simp only[YAM]at h;subst h
   exact zWq hr (hk x (by simp[hop,Op.operands])) (.inl ⟨b,rfl,hev,rfl⟩) hop
  ·rename_i k n hev
   simp only[YAM]at h;subst h
   exact zWq hr (hk x (by simp[hop,Op.operands])) (.inr ⟨k,n,rfl,hev,rfl⟩) hop
  ·cases h
 ·
  rename_i src dst x hop
  split at h
  case h_2=>cases h
  rename_i ls k z1 z2 z3 k' n h1 h2 hev
  simp only[YAM]at h;subst h
  exact zWY hC hr (hk x (by simp[hop,Op.operands])) h1 h2 rfl hev hop
 ·
  rename_i t x f hop
  split at h
  case h_2=>cases h
  rename_i fs z1 z2 z3 hT
  split at h
  case h_2=>cases h
  rename_i k ft hf
  split at h
  case h_2=>cases h
  rename_i lf v hlf hs
  simp only[YAM]at h;subst h
  exact zWb hC hr (hk x (by simp[hop,Op.operands])) hT rfl hf hlf hs hop
 ·
  rename_i t x f hop
  split at h
  case h_2=>cases h
  rename_i fs z1 z2 z3 hT
  split at h
  case h_2=>cases h
  rename_i k ft cs hf hev
  split at h
  case h_2=>cases h
  rename_i lf hlf
  simp only[YAM]at h;subst h
  exact zWa hC hr (hk x (by simp[hop,Op.operands])) hT rfl hf hlf hev hc hop
 ·
  rename_i t x i hop
  split at h
  ·rename_i e z1 z2 z3 hT
   split at h
   ·rename_i le es tk k n hle hev hev2
    simp only[YAM]at h;subst h
    exact zWe hC hr (hk x (by simp[hop,Op.operands])) (hk i (by simp[hop,Op.operands])) hT rfl hle hev hev2 hc hop
   ·rename_i le r ver len k n hle hev hev2
    simp only[YAM]at h;subst h
    exact zWd hC hr (hk x (by simp[hop,Op.operands])) (hk i (by simp[hop,Op.operands])) hT rfl hle hev hev2 hc hop
   ·cases h
  ·rename_i n e z1 z2 z3 hT
   split at h
   case h_2=>cases h
   rename_i le k q hle hev2
   split at h
   case h_2=>cases h
   rename_i v hs
   simp only[YAM]at h;subst h
   exact zWc hC hr (hk x (by simp[hop,Op.operands])) (hk i (by simp[hop,Op.operands])) hT rfl hle hev2 hs hc hop
  ·cases h
 ·
  rename_i t x i hop
  split at h
  ·rename_i n e z1 z2 z3 hT
   split at h
   case h_2=>cases h
   rename_i le cs k q hle hev hev2
   simp only[YAM]at h;subst h
   exact zWf hC hr (hk x (by simp[hop,Op.operands])) (hk i (by simp[hop,Op.operands])) hT rfl hle hev hev2 hc hop
  ·rename_i z1 z2 z3 hT
   split at h
   case h_2=>cases h
   rename_i b k q hev hev2
   simp only[YAM]at h;subst h
   exact zWg hC hr (hk x (by simp[hop,Op.operands])) (hk i (by simp[hop,Op.operands])) hT rfl hev hev2 hc hop
  ·cases h
 ·
  rename_i t parts hop
  have hps:∀p∈parts.toList,zRn p.2=true:=fun p hp=>hk p.2 (by simp only[hop,Op.operands];simpa using⟨p.1,by simpa using hp⟩)
  split at h
  ·rename_i fs z1 z2 z hT
   split at h
   case h_2=>cases h
   rename_i c cs hf
   simp only[YAM]at h;subst h
   exact zWW hC hr hps hT rfl hf hc hop
  ·rename_i n e z1 z2 z hT
   split at h
   case h_2=>cases h
   rename_i le hle
   split at h
   case h_2=>cases h
   rename_i c cs hf
   simp only[YAM]at h;subst h
   exact zWV hC hr hps hT rfl hle hf hc hop
  ·cases h
 ·
  rename_i t len parts hop
  have hps:∀p∈parts.toList,zRn p.2=true:=fun p hp=>hk p.2 (by simp only[hop,Op.operands];simpa using⟨p.1,by simpa using hp⟩)
  split at h
  case h_2=>cases h
  rename_i e z1 z2 z hT
  split at h
  case h_2=>cases h
  rename_i le hle
  split at h
  ·simp only[YAM]at h;subst h
   exact(zWU hC hr hps hT rfl hle hc hop).2
  ·simp only[YAM]at h;subst h
   exact(zWU hC hr hps hT rfl hle hc hop).1
 ·
  rename_i t n c hop
  split at h
  case h_2=>cases h
  rename_i e z1 z2 z n' c' hT hev hev2
  split at h
  case h_2=>cases h
  rename_i le hle
  split at h
  ·simp only[YAM]at h;subst h
   exact(zWk hC hr (hk n (by simp[hop,Op.operands])) (hk c (by simp[hop,Op.operands])) hT rfl hle hev hev2 hc hop).2
  ·simp only[YAM]at h;subst h
   exact(zWk hC hr (hk n (by simp[hop,Op.operands])) (hk c (by simp[hop,Op.operands])) hT rfl hle hev hev2 hc hop).1
 ·
  rename_i t x lo hi mx hop
  split at h
  case h_3=>cases h
  case h_2=>
   rename_i z1 z2 z hT
   exact zWp hC hr (hk x (by simp[hop,Op.operands])) (fun y hy=>hk y (by simp[hop,Op.operands,hy])) (fun y hy=>hk y (by simp[hop,Op.operands,hy])) (fun y hy=>hk y (by simp[hop,Op.operands,hy])) hT rfl h hc hop
  rename_i e z1 z2 z hT
  split at h
  case h_2=>cases h
  rename_i le hle
  exact zWm hC hr (hk x (by simp[hop,Op.operands])) (fun y hy=>hk y (by simp[hop,Op.operands,hy])) (fun y hy=>hk y (by simp[hop,Op.operands,hy])) (fun y hy=>hk y (by simp[hop,Op.operands,hy])) hT rfl hle h hc hop
 ·
  rename_i x i hop
  split at h
  case h_2=>cases h
  rename_i vs hev
  simp only[YAM]at h;subst h
  exact zWZ hr (hk x (by simp[hop,Op.operands])) hev hc hop
 ·
  rename_i t hop
  simp only[YAM]at h;subst h
  exact zWj hr hop
 ·
  rename_i t m k ok hop
  split at h
  case h_2=>cases h
  rename_i kt vt z1 z2 z hT
  split at h
  case h_2=>cases h
  rename_i lk lv r hlk hlv hev
  split at h
  case h_2=>cases h
  rename_i es ho
  split at h
  case h_2=>cases h
  rename_i f hf
  simp only[YAM]at h;subst h
  exact zWi hC hr (hk m (by simp[hop,Op.operands])) (hk k (by simp[hop,Op.operands])) hT rfl hlk hlv hev ho hf hc hop
 ·
  rename_i t m k x hop
  split at h
  case h_2=>cases h
  rename_i kt vt z1 z2 z hT
  split at h
  case h_2=>cases h
  rename_i lk r hlk hev
  split at h
  case h_2=>cases h
  rename_i es ho
  split at h
  case h_2=>cases h
  rename_i f hf
  simp only[YAM]at h;subst h
  exact zWl hC hr (hk m (by simp[hop,Op.operands])) (hk k (by simp[hop,Op.operands])) (hk x (by simp[hop,Op.operands])) hT rfl hlk hev ho hf hc (.inl hop)
 ·
  rename_i b args ts hop
  exact zWX hC hr (fun x hx=>hk x (by simp only[hop,Op.operands,Call.operands];simpa using hx)) h hc hop
 ·
  rename_i g first cap hop
  split at h
  case isFalse=>cases h
  rename_i hfe
  simp only[YAM]at h;subst h
  have hf0:first= #[]:=by simpa using hfe
  subst hf0
  refine .val hr (u:= .func (.func g) #[] (cap.map a.eval)) (by simp[execOp,hop,Instr.makeFunc]) (.clo _ _ _ (by simp) fun i hi=> ?_)
  simp only[YAK,Array.length_toList]at hi
  have:=zHQ hr cap[i] (hk _ (by simp only[hop,Op.operands];simp))
  simpa [YAF,hi]using this
 ·cases h
end
end Go.Ab
end
section
/- The executor on abstract values: code, calls, loops. Conditions stand ahead of each part. -/
/- The executor's regions, in the text's order, run as the model's do. Condition: the executor's table of types is the program's; the constants are of their types. -/
set_option linter.unusedSimpArgs false
namespace Go.Ab
open Go.RowKit (Below)
def zF0(n:Nat)(o:Oper):Bool:=match o.dst with|some d=>decide (d<n)|none=>true
def Post(V:View)(w:World)(n b:Nat)(Q:Exit->AState->Prop)(e:Exit)(a':Act)(w':World):Prop:=
 ∃V' s',V.LeB b V'/\Below V.base w w'/\Rel V' a' w' s'/\s'.n=n/\s'.b=b/\Q e s'
theorem zEA{P:Program}:∀g args s K,zAa P g args s K->FnOK P g:=fun _ _ _ _ h=>h.1
section
variable {P : Program} {C : Cfg} {V : View} {w : World} {s : AState} {a : Act} {o : Oper}
theorem Rel.put(hr:Rel V a w s){u:Value}{v:AV}(hu:Rep V u v){dst:Option Tmp}(hd:∀d,dst=some d->d<s.n):Rel V (a.put dst u) w (s.put dst v):=by
 cases dst with
 |none=>exact hr
 |some d=>
  have hlt:=hd d rfl
  refine⟨hr.hb,hr.bel,hr.inv,by simp[Act.put,AState.put,hr.size],hr.defers,fun t=> ?_⟩
  simp only[Act.put,AState.put,upd]
  by_cases ht:t=d
  ·subst ht
   have:t<a.tmps.size:=by rw[hr.size];exact hlt
   simp[this,hu]
  ·have:=hr.env t
   simp only[ht,if_false]
   simpa [Array.getElem?_setIfInBounds_ne (Ne.symm ht)]using this
theorem Rel.of_w{V':View}{w':World}{s':AState}(hr:Rel V a w s)(hV:V.Le V')(h:RelW V' w' s')(he:s'.env=s.env)(hn:s'.n=s.n):Rel V' a w' s':=
 ⟨h.hb,h.bel,h.inv,by rw[hn];exact hr.size,hr.defers,fun t=>by rw[he];exact(hr.env t).mono hV⟩
theorem zF1{n:Nat}(h:zF0 n o=true):∀d,o.dst=some d->d<n:=by
 intro d hd
 simpa [zF0,hd]using h
theorem zHS{f:Operand}{args:Array Operand}{ts:Array Nat}{g:Nat}(hop:o.op= .call {callee:= .value f,args:=args,argTypes:=ts})(hf:a.eval f= .func (.func g) #[] #[])(hg:FnOK P g):
 (execOp a.eval o).run P w= .ok (.enter g (args.map a.eval)) w:=by
 obtain⟨fn,h1,h2,h3⟩:=hg
 have hb:fn.body.isNone=false:=by cases hh:fn.body<;>simp[hh]at h2⊢
 simp only[execOp,hop,resolve,hf,Deferred.ofValue,invoke,callFunc,Sem.run_bind,Sem.run_pure,Result.andThen_ok,run_program]
 simp[h1,h3,hb]
theorem zbh(hC:zAb P C)(hr:Rel V a w s)(hok:zRm o=true)(hd:zF0 s.n o=true)(hg:∀g args s K,zAa P g args s K->FnOK P g){K:AState->Prop}{K':Act->World->Prop}{Q:Exit->Act->World->Prop}
 (h:xop P C o K s) (hK:∀V' a' w' s',V.Le V'->Below V.base w w'->Rel V' a' w' s'->s'.n=s.n->s'.b=s.b->K s'->K' a' w'):o.wp P a w K' Q:=by
 have hk:∀x∈o.op.operands.toList,zRn x=true:=List.all_eq_true.1 hok
 unfold xop at h
 split at h
 ·rename_i f args ts hop
  split at h
  case h_2=>cases h
  rename_i g hev
  have hrf:=zHQ hr f (hk f (by simp[hop,Op.operands,Call.operands]))
  rw[hev]at hrf
  generalize hvf:a.eval f=vf at hrf
  cases hrf
  have hfn:=hg _ _ _ _ h
  unfold Oper.wp
  rw[zHS hop hvf hfn,Oper.upon_enter]
  have hcall:=h.2 V w (args.map a.eval) hr.hb hr.inv hr.bel (by simp) (fun i hi=>by
   simp only[YAK,Array.length_toList]at hi
   have hm:args[i]∈args.toList:=by simp
   have:=zHQ hr args[i] (hk _ (by simp only[hop,Op.operands,Call.operands];simp))
   simpa [YAF,hi]using this)
  refine hcall.mono fun e w' he=> ?_
  obtain⟨V',v,r,s',h1,h2,rfl,h4,h5,h6,h7,h8,h9,h10,h11⟩:=he
  have hrel:Rel V' a w' s':=hr.of_w h1 ⟨h7,h6,h5⟩ h8 h9
  exact hK V' _ w' _ h1 h2 (hrel.put h4 (fun d hd'=>by rw[h9];exact zF1 hd d hd')) (by rw[<-h9];cases o.dst<;>rfl) (by rw[<-h10];cases o.dst<;>rfl) h11
 ·split at h
  case h_2=>cases h
  rename_i c v s' heff
  obtain⟨hc,hKs⟩:=h
  obtain⟨nx,w',V',g1,g2,g3,g4,g5,g6,g7,g8⟩:=zGE hC hr heff hc hok
  have hrel:Rel V' a w' s':=hr.of_w g2 g4 g5 g6
  unfold Oper.wp
  rw[g1]
  have hn:∀x,(s'.put o.dst x).n=s.n:=fun x=>by rw[<-g6];cases o.dst<;>rfl
  have hbb:∀x,(s'.put o.dst x).b=s.b:=fun x=>by rw[<-g7];cases o.dst<;>rfl
  rcases g8 with ⟨u,rfl,hu⟩|⟨rfl,hv⟩
  ·rw[Oper.upon_value]
   exact hK V' _ w' _ g2 g3 (hrel.put hu (fun d hd'=>by rw[g6];exact zF1 hd d hd')) (hn _) (hbb _) hKs
  ·rw[Oper.upon_skip]
   simp only at hv
   subst hv
   exact hK V' _ w' _ g2 g3 (hrel.put (.any _) (fun d hd'=>by rw[g6];exact zF1 hd d hd')) (hn _) (hbb _) hKs
theorem zTc(V:View):Rep V undef (.tup []):= .tup #[] [] rfl fun i hi=>absurd hi (by simp)
theorem zbb(hC:zAb P C)(hr:Rel V a w s){ops:Array Oper}{i:Nat}(hi:ops[i]?=some o)(hok:zRm o=true)(hd:zF0 s.n o=true)(hg:∀g args s K,zAa P g args s K->FnOK P g){K:AState->Prop}{K':Act->World->Prop}{Q:Exit->Act->World->Prop}
 (h:xguard P C ops o K s) (hK:∀V' a' w' s',V.Le V'->Below V.base w w'->Rel V' a' w' s'->s'.n=s.n->s'.b=s.b->K s'->K' a' w'):wpOp P ops Q i K' a w:=by
 have hwant:∀t want b,guardOf ops o=some (some t,want)->s.env t= .bool b->Region.wanted o (yielded ops a.tmps)=(b==want):=by
  intro t want b h1 h2
  unfold guardOf at h1
  cases hgd:o.guard with
  |none=>rw[hgd]at h1;simp at h1
  |some gw=>
   obtain⟨j,wt⟩:=gw
   rw[hgd]at h1
   simp only[Option.map_some,YAM,YAY]at h1
   obtain⟨h3,rfl⟩:=h1
   have h4:=hr.env t
   rw[h2]at h4
   generalize hv:a.tmps.getD t undef=v at h4
   cases h4
   have h5:a.tmps[t]?=some (.bool b):=by
    rw[Array.getD_eq_getD_getElem?]at hv
    cases ht:a.tmps[t]? with
    |none=>rw[ht]at hv;simp[undef]at hv
    |some y=>rw[ht]at hv;simp at hv;rw[hv]
   simp only[Region.wanted,hgd,yielded,h3,Option.bind_some,h5]
   cases b<;>cases wt<;>rfl
 have hskip:∀t want,guardOf ops o=some (some t,want)->s.env t= .tup []->Region.wanted o (yielded ops a.tmps)=false:=by
  intro t want h1 h2
  unfold guardOf at h1
  cases hgd:o.guard with
  |none=>rw[hgd]at h1;simp at h1
  |some gw=>
   obtain⟨j,wt⟩:=gw
   rw[hgd]at h1
   simp only[Option.map_some,YAM,YAY]at h1
   obtain⟨h3,rfl⟩:=h1
   have h4:=hr.env t
   rw[h2]at h4
   generalize hv:a.tmps.getD t undef=v at h4
   cases h4
   rename_i cs hl hh
   have h5:a.tmps[t]?=some (.tuple cs)\/a.tmps[t]?=none:=by
    rw[Array.getD_eq_getD_getElem?]at hv
    cases ht:a.tmps[t]? with
    |none=>exact .inr rfl
    |some y=>rw[ht]at hv;simp at hv;rw[hv];exact .inl rfl
   simp only[Region.wanted,hgd,yielded,h3,Option.bind_some]
   rcases h5 with h5|h5<;>simp[h5]
 unfold wpOp
 simp only[hi]
 unfold xguard at h
 split at h
 ·rename_i hgd
  have hno:o.guard=none:=by
   unfold guardOf at hgd
   simpa using hgd
  rw[if_pos (by simp[Region.wanted,hno])]
  exact .inl (zbh hC hr hok hd hg h hK)
 ·rename_i t want hgd
  split at h
  case h_3=>cases h
  ·rename_i b hev
   have hw:=hwant t want b hgd hev
   split at h
   ·rename_i hbw
    rw[if_pos (by rw[hw];simp[hbw])]
    exact .inl (zbh hC hr hok hd hg h hK)
   ·rename_i hbw
    rw[if_neg (by rw[hw];simp[hbw])]
    exact hK V _ w _ (.refl V) (.refl _ _) (hr.put (zTc V) (fun d hd'=>zF1 hd d hd')) (by cases o.dst<;>rfl) (by cases o.dst<;>rfl) h
  ·rename_i hev
   rw[if_neg (by rw[hskip t want hgd hev];simp)]
   exact hK V _ w _ (.refl V) (.refl _ _) (hr.put (zTc V) (fun d hd'=>zF1 hd d hd')) (by cases o.dst<;>rfl) (by cases o.dst<;>rfl) h
 ·cases h
theorem zbo(hC:zAb P C){ops:Array Oper}(hg:∀g args s K,zAa P g args s K->FnOK P g){n:Nat}(hok:∀o∈ops.toList,zRm o=true/\zF0 n o=true){Q:Exit->AState->Prop}{V0:View}{w0:World}{b:Nat}:
 ∀(l:List Nat) {V:View} {a:Act} {w:World} {s:AState},s.n=n->s.b=b->Rel V a w s->V0.LeB b V->Below V0.base w0 w->xops P C ops (l.filterMap (ops[·]?)) (Q .normal) s->wpOps P ops (Post V0 w0 n b Q) l a w
 | [],V,a,w,s,hn,hb,hr,hV,hB,h=>⟨V,s,hV,hB,hr,hn,hb,h⟩
 |i::l,V,a,w,s,hn,hb,hr,hV,hB,h=>by
  rw[wpOps_cons]
  cases hi:ops[i]? with
  |none=>
   unfold wpOp
   simp only[hi]
   rw[List.filterMap_cons,hi]at h
   exact zbo hC hg hok l hn hb hr hV hB h
  |some o=>
   rw[List.filterMap_cons,hi]at h
   simp only[xops]at h
   have ho:=hok o (Array.mem_toList_iff.2 (Array.mem_of_getElem? hi))
   refine zbb hC hr hi ho.1 (by rw[hn];exact ho.2) hg h fun V' a' w' s' h1 h2 h3 h4 h4b h5=> ?_
   exact zbo hC hg hok l (by rw[h4,hn]) (by rw[h4b,hb]) h3 (hV.trans (h1.toB b)) (hB.trans (by rw[<-hV.base];exact h2)) h5
theorem zHb{α:Type}(ops:Array α):(List.range ops.size).filterMap (ops[·]?)=ops.toList:=by
 apply List.ext_getElem?
 intro i
 have key:∀n,n<=ops.size->(List.range n).filterMap (ops[·]?)=ops.toList.take n:=by
  intro n
  induction n with
  |zero=>intro _;simp
  |succ n ih=>
   intro hn
   rw[List.range_succ,List.filterMap_append,ih (by omega)]
   have:ops[n]?=some ops[n]:=Array.getElem?_eq_getElem (by omega)
   rw[List.filterMap_cons,this]
   simp only[List.filterMap_nil]
   rw[List.take_add_one]
   simp[show n<ops.size by omega]
 rw[key ops.size (YAV _),List.take_of_length_le (by simp)]
end
end Go.Ab
/- The executor on code, and calls by abstract values. Condition: the executor's table of types is the program's; the constants are of their types. -/
set_option linter.unusedSimpArgs false
namespace Go.Ab
open Go.RowKit (Below)
/- Views cut off at an object's number. -/
def View.cut(V:View)(m:Nat):View:= {V with loc:=fun r n=>if r<m then V.loc r n else none}
theorem zDU{m:Nat}{l:List AV}(h:AV.belL m l=true)(i:Nat):(l.getD i .any).bel m=true:=by
 by_cases hi:i<l.length
 ·rw[getD_lt _ hi];exact(zDV m l).1 h _ (List.getElem_mem hi)
 ·simp[YAF,YAR (Nat.le_of_not_lt hi),AV.bel]
theorem Rep.cut{V:View}{v:Value}{a:AV}(h:Rep V v a){m:Nat}(hb:a.bel m=true):Rep (V.cut m) v a:=by
 have hloc:∀ {r n x},V.loc r n=some x->r<m->(V.cut m).loc r n=some x:=fun {r n x} h1 h2=>by simp[View.cut,h2,h1]
 induction h with
 |any v=>exact .any v
 |int k n h1 h2=>exact .int k n h1 h2
 |bool b=>exact .bool b
 |str s h=>exact .str s h
 |nilp=>exact .nilp
 |agg cs as hl _ ih=>exact .agg cs as hl fun i hi=>ih i hi (zDU hb i)
 |tup cs as hl _ ih=>exact .tup cs as hl fun i hi=>ih i hi (zDU hb i)
 |sl bse len cap es tok size b o val hl hc hm hb' hs hi _ ht hf ih=>
  simp only[AV.bel,YAA]at hb
  refine .sl bse len cap es tok size b o val hl hc hm hb' hs hi (fun i j hi' hj=>ih i j hi' hj (zDU (zET (zDU hb.1 i)) j)) (fun r hr=> ?_) hf
  obtain⟨blk,h1,h2⟩:=ht r hr
  subst hr
  exact⟨blk,hloc h1 (by simpa using hb.2),h2⟩
 |eptr e off b o val hi _ ih=>exact .eptr e off b o val hi fun j hj=>ih j hj (zDU hb j)
 |bptr r off b c h=>exact .bptr r off b c (hloc h (by simpa [AV.bel]using hb))
 |ms r ver len blk cap h hc hm hn=>exact .ms r ver len blk cap (hloc h (by simpa [AV.bel]using hb)) hc hm hn
 |aptr r ver size i off b cap h=>exact .aptr r ver size i off b cap (hloc h (by simpa [AV.bel]using hb))
 |mp r b c h=>exact .mp r b c (hloc h (by simpa [AV.bel]using hb))
 |nilm=>exact .nilm
 |fn f=>exact .fn f
 |clo f cs as hl _ ih=>exact .clo f cs as hl fun i hi=>ih i hi (zDU hb i)
 |yld r b c h=>exact .yld r b c (hloc h (by simpa [AV.bel]using hb))
 |nilf=>exact .nilf
theorem Rep.zDY{V:View}{v:Value}{a:AV}(h:Rep V v a){m:Nat}(hd:∀r n x,V.loc r n=some x->r<m):a.bel m=true:=by
 induction h with
 |agg cs as hl _ ih=>
  simp only[AV.bel];rw[zDV];intro x hx
  obtain⟨i,hi,rfl⟩:=List.mem_iff_getElem.1 hx
  have:=ih i hi
  rwa[getD_lt _ hi]at this
 |tup cs as hl _ ih=>
  simp only[AV.bel];rw[zDV];intro x hx
  obtain⟨i,hi,rfl⟩:=List.mem_iff_getElem.1 hx
  have:=ih i hi
  rwa[getD_lt _ hi]at this
 |sl bse len cap es tok size b o val hl hc hm hb' hs hi _ ht hf ih=>
  simp only[AV.bel,YAA]
  refine⟨?_,?_⟩
  ·rw[zDV];intro x hx
   obtain⟨i,hi',rfl⟩:=List.mem_iff_getElem.1 hx
   have h1:=hs i (by omega)
   have h2:=fun j hj=>ih i j (by omega) hj
   rw[getD_lt _ hi']at h1 h2
   generalize es[i]=x at h1 h2
   cases x with
   |agg cs=>
    simp only[cellsOf]at h1 h2
    simp only[AV.bel];rw[zDV];intro y hy
    obtain⟨j,hj,rfl⟩:=List.mem_iff_getElem.1 hy
    have:=h2 j (by omega)
    rwa[getD_lt _ hj]at this
   |_=>
    simp only[cellsOf,List.length_cons,List.length_nil,Nat.zero_add]at h1 h2
    have:=h2 0 (by omega)
    simpa using this
  ·cases tok with
   |own r=>obtain⟨blk,h1,_⟩:=ht r rfl;simpa using hd _ _ _ h1
   |_=>rfl
 |eptr e off b o val hi _ ih=>
  simp only[AV.bel];rw[zDV];intro x hx
  obtain⟨i,hi',rfl⟩:=List.mem_iff_getElem.1 hx
  have:=ih i hi'
  rwa[getD_lt _ hi']at this
 |bptr r off b c h=>simpa [AV.bel]using hd _ _ _ h
 |ms r ver len blk cap h hc hm hn=>simpa [AV.bel]using hd _ _ _ h
 |aptr r ver size i off b cap h=>simpa [AV.bel]using hd _ _ _ h
 |mp r b c h=>simpa [AV.bel]using hd _ _ _ h
 |clo f cs as hl _ ih=>
  simp only[AV.bel];rw[zDV];intro x hx
  obtain⟨i,hi,rfl⟩:=List.mem_iff_getElem.1 hx
  have:=ih i hi
  rwa[getD_lt _ hi]at this
 |yld r b c h=>simpa [AV.bel]using hd _ _ _ h
 |_=>rfl
theorem zBB.cut{V:View}{en:List MapEntry}{es:List (AV×AV)}(h:zBB V en es){m:Nat}(hb:(AObj.map es).bel m=true):zBB (V.cut m) en es:=by
 simp only[AObj.bel,YAA,zDV,List.mem_map,forall_exists_index,and_imp,forall_apply_eq_imp_iff₂]at hb
 exact⟨h.1,fun i hi e p he hp=>by
  have hm:=List.mem_of_getElem? hp
  exact⟨(h.2 i hi e p he hp).1.cut (hb.1 p hm),(h.2 i hi e p he hp).2.cut (hb.2 p hm)⟩⟩
theorem zAy.cut{V:View}{w:World}{r:Nat}{x:AObj}(h:zAy V w r x){m:Nat}(hr:r<m)(hb:x.bel m=true):zAy (V.cut m) w r x/\own (V.cut m) r x=own V r x:=by
 have hloc:∀n,(V.cut m).loc r n=V.loc r n:=fun n=>by simp[View.cut,hr]
 cases x with
 |box cs=>
  obtain⟨b,c,cells,ty,h1,h2,h3,h4,h5,h6⟩:=h
  exact⟨⟨b,c,cells,ty,by rw[hloc];exact h1,h2,h3,h4,fun i hi=>(h5 i hi).cut (zDU hb i),h6⟩,by simp[own,hloc]⟩
 |tok n size=>
  obtain⟨blk,cap,h1,h2,h3,h4,h5⟩:=h
  exact⟨⟨blk,cap,by rw[hloc];exact h1,fun m hm=>by rw[hloc];exact h2 m hm,h3,h4,h5⟩,by simp[own,hloc]⟩
 |arr ver size es=>
  obtain⟨blk,cap,h1,h2,h3,h4,hsz,h5⟩:=h
  refine⟨⟨blk,cap,by rw[hloc];exact h1,fun m hm=>by rw[hloc];exact h2 m hm,h3,h4,hsz,?_⟩,by simp[own,hloc]⟩
  cases blk with
  |none=>exact h5
  |some b=>
   obtain⟨h6,cells,ty,h7,h8,h9,h10⟩:=h5
   exact⟨h6,cells,ty,h7,h8,fun i j hi hj=>(h9 i j hi hj).cut (zDU (zET (zDU hb i)) j),h10⟩
 |map es=>
  obtain⟨b,c,entries,clock,h1,h2,h3,h4,h6⟩:=h
  exact⟨⟨b,c,entries,clock,by rw[hloc];exact h1,h2,h3,h4.cut hb,h6⟩,by simp[own,hloc]⟩
 |raw ob=>
  obtain⟨b,c,h1,h2,h3,h6⟩:=h
  exact⟨⟨b,c,by rw[hloc];exact h1,h2,h3,h6⟩,by simp[own,hloc]⟩
 |lp d env st pend=>
  obtain⟨b,c,tmps,db,h1,h2,h3,h4,h5,h6⟩:=h
  exact⟨⟨b,c,tmps,db,by rw[hloc];exact h1,h2,h3,h4,fun i hi=>(h5 i hi).cut (zDU hb i),h6⟩,by simp[own,hloc]⟩
 |dead=>exact⟨fun n=>by rw[hloc];exact h n,rfl⟩
theorem Inv.cut{V:View}{w:World}{obj obj':Nat->Option AObj}(h:Inv V obj w){m:Nat}(hlt:∀r,r<m->obj' r=obj r)(hge:∀r,¬r<m->obj' r=none)(hb:∀r x,r<m->obj r=some x->x.bel m=true):Inv (V.cut m) obj' w:=by
 refine⟨h.base,h.imm,fun r n x hx=> ?_,fun r x hx=> ?_,fun r r' x x' b h1 h2 h3 h4=> ?_⟩
 ·by_cases hr:r<m
  ·rw[hlt r hr];exact h.dom r n x (by simpa [View.cut,hr]using hx)
  ·simp[View.cut,hr]at hx
 ·by_cases hr:r<m
  ·rw[hlt r hr]at hx;exact((h.objs r x hx).cut hr (hb r x hr hx)).1
  ·rw[hge r hr]at hx;cases hx
 ·by_cases hr:r<m
  ·by_cases hr':r'<m
   ·rw[hlt r hr]at h1
    rw[hlt r' hr']at h2
    rw[((h.objs r x h1).cut hr (hb r x hr h1)).2]at h3
    rw[((h.objs r' x' h2).cut hr' (hb r' x' hr' h2)).2]at h4
    exact h.sep r r' x x' b h1 h2 h3 h4
   ·rw[hge r' hr']at h2;cases h2
  ·rw[hge r hr]at h1;cases h1
theorem zAy.zDY{V:View}{w:World}{r:Nat}{x:AObj}(h:zAy V w r x){m:Nat}(hd:∀r n y,V.loc r n=some y->r<m):x.bel m=true:=by
 cases x with
 |box cs=>
  obtain⟨b,c,cells,ty,h1,h2,h3,h4,h5,h6⟩:=h
  simp only[AObj.bel];rw[zDV];intro y hy
  obtain⟨i,hi,rfl⟩:=List.mem_iff_getElem.1 hy
  have:=(h5 i hi).zDY hd
  rwa[getD_lt _ hi]at this
 |tok n size=>rfl
 |arr ver size es=>
  obtain⟨blk,cap,h1,h2,h3,h4,hsz,h5⟩:=h
  simp only[AObj.bel];rw[zDV];intro y hy
  obtain⟨i,hi,rfl⟩:=List.mem_iff_getElem.1 hy
  cases blk with
  |none=>simp only at h5;omega
  |some b=>
   obtain⟨h6,cells,ty,h7,h8,h9,h10⟩:=h5
   have e1:=hsz i hi
   have e2:=fun j hj=>(h9 i j hi hj).zDY hd
   rw[getD_lt _ hi]at e1 e2
   generalize es[i]=x at e1 e2
   cases x with
   |agg cs=>
    simp only[cellsOf]at e1 e2
    simp only[AV.bel];rw[zDV];intro y hy
    obtain⟨j,hj,rfl⟩:=List.mem_iff_getElem.1 hy
    have:=e2 j (by omega)
    rwa[getD_lt _ hj]at this
   |_=>
    simp only[cellsOf,List.length_cons,List.length_nil,Nat.zero_add]at e1 e2
    have:=e2 0 (by omega)
    simpa using this
 |map es=>
  obtain⟨b,c,entries,clock,h1,h2,h3,h4,h6⟩:=h
  simp only[AObj.bel,YAA,zDV,List.mem_map,forall_exists_index,and_imp,forall_apply_eq_imp_iff₂]
  have key:∀p∈es,p.1.bel m=true/\p.2.bel m=true:=by
   intro p hp
   obtain⟨i,hi,rfl⟩:=List.mem_iff_getElem.1 hp
   have hi':i<entries.toList.length:=by rw[h4.1];exact hi
   have:=h4.2 i hi _ _ (YAI hi') (YAI hi)
   exact⟨this.1.zDY hd,this.2.zDY hd⟩
  exact⟨fun p hp=>(key p hp).1,fun p hp=>(key p hp).2⟩
 |raw _=>rfl
 |lp d env st pend=>
  obtain⟨b,c,tmps,db,h1,h2,h3,h4,h5,h6⟩:=h
  simp only[AObj.bel];rw[zDV];intro y hy
  obtain⟨i,hi,rfl⟩:=List.mem_iff_getElem.1 hy
  have:=(h5 i hi).zDY hd
  rwa[getD_lt _ hi]at this
 |dead=>rfl
end Go.Ab
/- The executor on code, and calls by abstract values: rules. Condition: the executor's table of types is the program's; the constants are of their types. -/
set_option linter.unusedSimpArgs false
namespace Go.Ab
open Go.RowKit (Below)
def zFW(K:Exit->AState->Prop)(next:AState->Prop):Exit->AState->Prop
 | .normal,s=>next s
 |e,s=>K e s
def zLb(id:Nat)(K:Exit->AState->Prop):Exit->AState->Prop
 | .exit i,s=>if i=id then K .normal s else K (.exit i) s
 |e,s=>K e s
def noG(K:Exit->AState->Prop):Exit->AState->Prop
 | .goto _,_=>False
 |e,s=>K e s
def zAB(P:Program)(b:Code)(Q:Exit->AState->Prop)(s:AState):Prop:=
 ∀V a w,Rel V a w s->∀bf k cs,∃e a' w',(∃V' s',V.LeB s.b V'/\Below V.base w w'/\Rel V' a' w' s'/\s'.n=s.n/\s'.b=s.b/\Q e s')/\
  Arrives P (lone (bf.at a (.code b:: .inLoop b::k)) cs w) bf k cs e a' w'
def X(P:Program)(C:Cfg):Code->(Exit->AState->Prop)->AState->Prop
 | .skip,K,s=>K .normal s
 | .region _ ops false,K,s=>xops P C ops ops.toList (K .normal) s
 | .seq x y,K,s=>X P C x (zFW K (X P C y K)) s
 | .cond c x y,K,s=>match s.ev c with
  | .bool t=>if t=true then X P C x K s else X P C y K s
  |_=>False
 | .block id b,K,s=>X P C b (zLb id K) s
 | .loop b,K,s=>zAB P b K s
 | .exit id,K,s=>K (.exit id) s
 | .ret,K,s=>K .ret s
 | .scope b,K,s=>X P C b (noG K) s
 | .label _,K,s=>K .normal s
 |c,K,s=>AWp P c K s
def zFG(n:Nat):Code->Bool
 | .region _ ops _=>ops.toList.all fun o=>zRm o&&zF0 n o
 | .seq x y=>zFG n x&&zFG n y
 | .cond c x y=>zRn c&&zFG n x&&zFG n y
 | .block _ b=>zFG n b
 | .scope b=>zFG n b
 |_=>true
section
variable {P : Program} {C : Cfg} {s : AState}
theorem AWp.mono{c:Code}{Q Q':Exit->AState->Prop}(h:AWp P c Q s)(hq:∀e s',s'.n=s.n->s'.b=s.b->Q e s'->Q' e s'):AWp P c Q' s:=
 fun V a w hr=>wp_mono (h V a w hr) fun _ _ _ ⟨V',s',h1,h2,h3,h4,h4b,h5⟩=>⟨V',s',h1,h2,h3,h4,h4b,hq _ _ h4 h4b h5⟩
theorem zC5{x y:Code}{Q:Exit->AState->Prop}(h:AWp P x (zFW Q fun s'=>AWp P y Q s') s):AWp P (.seq x y) Q s:=by
 intro V a w hr
 refine wp_seq (wp_mono (h V a w hr) fun e a' w'=> ?_)
 rintro⟨V',s',h1,h2,h3,h4,h4b,h5⟩
 cases e with
 |normal=>
  refine wp_mono (h5 V' a' w' h3) fun e a'' w''=> ?_
  rintro⟨V'',s'',g1,g2,g3,g4,g4b,g5⟩
  exact⟨V'',s'',h1.trans (by rw[<-h4b];exact g1),h2.trans (by rw[<-h1.base];exact g2),g3,g4.trans h4,g4b.trans h4b,g5⟩
 |_=>exact⟨V',s',h1,h2,h3,h4,h4b,h5⟩
theorem zC0{c:Operand}{x y:Code}{t:Bool}{Q:Exit->AState->Prop}(hc:s.ev c= .bool t)(hk:zRn c=true)(h:AWp P (if t=true then x else y) Q s):AWp P (.cond c x y) Q s:=by
 intro V a w hr
 have hrc:=zHQ hr c hk
 rw[hc]at hrc
 generalize hv:a.eval c=v at hrc
 cases hrc
 exact wp_cond hv (h V a w hr)
theorem zCz{id:Nat}{b:Code}{Q:Exit->AState->Prop}(h:AWp P b (zLb id Q) s):AWp P (.block id b) Q s:=by
 intro V a w hr
 refine wp_block (wp_mono (h V a w hr) fun e a' w'=> ?_)
 rintro⟨V',s',h1,h2,h3,h4,h4b,h5⟩
 cases e with
 |exit i=>
  simp only[Exit.inBlock]
  simp only[zLb]at h5
  split
  ·rename_i hi;rw[if_pos hi]at h5;exact⟨V',s',h1,h2,h3,h4,h4b,h5⟩
  ·rename_i hi;rw[if_neg hi]at h5;exact⟨V',s',h1,h2,h3,h4,h4b,h5⟩
 |_=>exact⟨V',s',h1,h2,h3,h4,h4b,h5⟩
theorem zC2{b:Code}{Q:Exit->AState->Prop}(h:zAB P b Q s):AWp P (.loop b) Q s:=by
 intro V a w hr bf k cs
 obtain⟨e,a',w',hp,harr⟩:=h V a w hr bf k cs
 exact⟨e,a',w',hp,.of_steps (.one step_loop) harr⟩
theorem zCM{b:Code}{Q:Exit->AState->Prop}(h:AWp P b (zFW Q (zAB P b Q)) s):zAB P b Q s:=by
 intro V a w hr bf k cs
 obtain⟨e,a₁,w₁,⟨V',s',h1,h2,h3,h4,h4b,h5⟩,harr⟩:=h V a w hr bf (.inLoop b::k) cs
 cases e with
 |normal=>
  obtain⟨e₂,a₂,w₂,⟨V'',s'',g1,g2,g3,g4,g4b,g5⟩,harr₂⟩:=h5 V' a₁ w₁ h3 bf k cs
  exact⟨e₂,a₂,w₂,⟨V'',s'',h1.trans (by rw[<-h4b];exact g1),h2.trans (by rw[<-h1.base];exact g2),g3,g4.trans h4,g4b.trans h4b,g5⟩,.of_steps (Steps.trans harr (.one step_inLoop)) harr₂⟩
 |exit id=>exact⟨_,a₁,w₁,⟨V',s',h1,h2,h3,h4,h4b,h5⟩,.pass (x:= .inLoop b) rfl (fun _ _=> .inl (by simp)) harr⟩
 |goto l=>exact⟨_,a₁,w₁,⟨V',s',h1,h2,h3,h4,h4b,h5⟩,.pass (x:= .inLoop b) rfl (fun _ _=> .inl (by simp)) harr⟩
 |ret=>exact⟨_,a₁,w₁,⟨V',s',h1,h2,h3,h4,h4b,h5⟩,.pass (x:= .inLoop b) rfl (fun _ _=> .inl (by simp)) harr⟩
 |panic ch=>exact⟨_,a₁,w₁,⟨V',s',h1,h2,h3,h4,h4b,h5⟩,.pass (x:= .inLoop b) rfl (fun _ _=> .inl (by simp)) harr⟩
 |outgrown=>exact⟨_,a₁,w₁,⟨V',s',h1,h2,h3,h4,h4b,h5⟩,.pass (x:= .inLoop b) rfl (fun _ _=> .inl (by simp)) harr⟩
theorem zC4{b:Code}{Q:Exit->AState->Prop}(h:AWp P b (noG Q) s):AWp P (.scope b) Q s:=by
 intro V a w hr
 refine wp_scope_straight (wp_mono (h V a w hr) fun e a' w'=> ?_)
 rintro⟨V',s',h1,h2,h3,h4,h4b,h5⟩
 cases e with
 |goto l=>exact h5.elim
 |_=>exact⟨V',s',h1,h2,h3,h4,h4b,h5⟩
theorem zBH(hC:zAb P C)(hg:∀g args s K,zAa P g args s K->FnOK P g)(n:Nat):∀(c:Code) {K:Exit->AState->Prop} {s:AState},zFG n c=true->s.n=n->X P C c K s->AWp P c K s
 | .skip,K,s,_,hn,h=>fun V a w hr=>wp_skip ⟨V,s,.refl _ V,.refl _ _,hr,rfl,rfl,h⟩
 | .region id ops false,K,s,hok,hn,h=>by
  intro V a w hr
  simp only[zFG,List.all_eq_true,YAA]at hok
  simp only[X]at h
  refine wp_region ?_
  rw[hn]
  refine zbo hC hg hok (List.range ops.size) (V0:=V) (w0:=w) hn rfl hr (.refl _ V) (.refl _ _) ?_
  rw[zHb];exact h
 | .region id ops true,K,s,hok,hn,h=>by simpa [X]using h
 | .seq x y,K,s,hok,hn,h=>by
  simp only[zFG,YAA]at hok
  simp only[X]at h
  refine zC5 ((zBH hC hg n x hok.1 hn h).mono fun e s' hs' _ hq=> ?_)
  cases e with
  |normal=>exact zBH hC hg n y hok.2 (hs'.trans hn) hq
  |_=>exact hq
 | .cond c x y,K,s,hok,hn,h=>by
  simp only[zFG,YAA]at hok
  simp only[X]at h
  split at h
  ·rename_i t hev
   refine zC0 hev hok.1.1 ?_
   split at h
   ·rename_i ht;rw[if_pos ht];exact zBH hC hg n x hok.1.2 hn h
   ·rename_i ht;rw[if_neg ht];exact zBH hC hg n y hok.2 hn h
  ·cases h
 | .block id b,K,s,hok,hn,h=>by
  simp only[zFG]at hok
  simp only[X]at h
  exact zCz (zBH hC hg n b hok hn h)
 | .loop b,K,s,_,_,h=>zC2 h
 | .exit id,K,s,_,hn,h=>fun V a w hr=>wp_exit ⟨V,s,.refl _ V,.refl _ _,hr,rfl,rfl,h⟩
 | .ret,K,s,_,hn,h=>fun V a w hr=>wp_ret ⟨V,s,.refl _ V,.refl _ _,hr,rfl,rfl,h⟩
 | .rangeFunc _ _ _ _,K,s,_,_,h=>h
 | .scope b,K,s,hok,hn,h=>by
  simp only[zFG]at hok
  simp only[X]at h
  exact zC4 (zBH hC hg n b hok hn h)
 | .label l,K,s,_,hn,h=>fun V a w hr=>wp_label ⟨V,s,.refl _ V,.refl _ _,hr,rfl,rfl,h⟩
 | .goto _,K,s,_,_,h=>h
 | .refuse _,K,s,_,_,h=>h
structure Weak (s s':AState):Prop where
 n:s'.n=s.n
 b:s'.b=s.b
 H:s'.H=s.H
 L:s'.L=s.L.take s'.L.length
 env:∀t,s'.env t= .any\/s'.env t=s.env t\/s'.env t=(s.env t).norm
 below:s'.L.length=s.L.length\/((∀t,(s'.env t).bel (s.b+s'.L.length)=true)/\∀x∈s'.L,x.bel (s.b+s'.L.length)=true)
mutual
theorem zDZ{m m':Nat}(h:m<=m'):∀a:AV,a.bel m=true->a.bel m'=true
 | .any,_=>rfl
 | .int _ _,_=>rfl
 | .bool _,_=>rfl
 | .str _,_=>rfl
 | .nilp,_=>rfl
 | .agg cs,k=>zDW h cs k
 | .tup cs,k=>zDW h cs k
 | .sl es t,k=>by
  simp only[AV.bel,YAA]at k⊢
  refine⟨zDW h es k.1,?_⟩
  cases t with
  |own r=>have:=k.2;simp at this⊢;omega
  |_=>rfl
 | .eptr e _,k=>zDW h e k
 | .bptr r _,k=>by simp[AV.bel]at k⊢;omega
 | .ms r _ _,k=>by simp[AV.bel]at k⊢;omega
 | .aptr r _ _ _ _,k=>by simp[AV.bel]at k⊢;omega
 | .mp r,k=>by simp[AV.bel]at k⊢;omega
 | .nilm,_=>rfl
 | .fn _,_=>rfl
 | .clo _ cs,k=>zDW h cs k
 | .yld r,k=>by simp[AV.bel]at k⊢;omega
 | .nilf,_=>rfl
theorem zDW{m m':Nat}(h:m<=m'):∀l:List AV,AV.belL m l=true->AV.belL m' l=true
 | [],_=>rfl
 |a::as,k=>by
  simp only[AV.belL,YAA]at k⊢
  exact⟨zDZ h a k.1,zDW h as k.2⟩
end
theorem AObj.zDZ{m m':Nat}(h:m<=m'){x:AObj}(k:x.bel m=true):x.bel m'=true:=by
 cases x with
 |box cs=>exact zDW h cs k
 |arr v z es=>exact zDW h es k
 |lp d env st pend=>exact zDW h env k
 |map es=>
  simp only[AObj.bel,YAA]at k⊢
  exact⟨zDW h _ k.1,zDW h _ k.2⟩
 |_=>rfl
theorem Rel.weak{V:View}{a:Act}{w:World}{s s':AState}(hr:Rel V a w s)(h:Weak s s'):∃V',V.LeB s.b V'/\Rel V' a w s':=by
 have hlen:s'.L.length<=s.L.length:=by
  have:=congrArg List.length h.L
  simp only[List.length_take]at this
  omega
 have hobj:∀r,r<s.b+s'.L.length->s'.obj r=s.obj r:=by
  intro r hlt
  unfold AState.obj
  rw[h.b,h.H]
  split
  ·rfl
  ·rename_i hnb
   rw[h.L,List.getElem?_take,if_pos (by omega)]
 have hnone:∀r,¬r<s.b+s'.L.length->s'.obj r=none:=by
  intro r hlt
  unfold AState.obj
  rw[h.b,if_neg (by omega)]
  exact YAR (by omega)
 rcases h.below with heq|⟨henv,hL⟩
 ·have hsame:s'.obj=s.obj:=by
   funext r
   by_cases hlt:r<s.b+s'.L.length
   ·exact hobj r hlt
   ·rw[hnone r hlt]
    unfold AState.obj
    rw[if_neg (by omega)]
    exact(YAR (by omega)).symm
  refine⟨V,.refl _ V,⟨by rw[h.b,h.H];exact hr.hb,by rw[h.b,h.H];exact hr.bel,by rw[hsame];exact hr.inv,by rw[h.n];exact hr.size,hr.defers,fun t=> ?_⟩⟩
  rcases h.env t with he|he|he<;>rw[he]
  ·exact .any _
  ·exact hr.env t
  ·exact(hr.env t).normed
 ·refine⟨V.cut (s.b+s'.L.length),⟨rfl,fun _ _ _ h=>h,fun r n x hlt hx=>by simp only[View.cut];rw[if_pos (by omega)];exact hx⟩,
   ⟨by rw[h.b,h.H];exact hr.hb,by rw[h.b,h.H];exact hr.bel,hr.inv.cut hobj hnone ?_,by rw[h.n];exact hr.size,hr.defers,fun t=> ?_⟩⟩
  ·intro r x hlt hx
   by_cases hb:r<s.b
   ·refine AObj.zDZ (Nat.le_add_right _ _) (hr.bel x ?_)
    unfold AState.obj at hx
    rw[if_pos hb]at hx
    exact List.mem_of_getElem? hx
   ·refine hL x ?_
    rw[<-hobj r hlt]at hx
    unfold AState.obj at hx
    rw[h.b,if_neg hb]at hx
    exact List.mem_of_getElem? hx
  ·have hb:=henv t
   rcases h.env t with he|he|he<;>rw[he]at hb⊢
   ·exact .any _
   ·exact(hr.env t).cut hb
   ·exact(hr.env t).normed.cut hb
theorem AWp.weak{c:Code}{Q:Exit->AState->Prop}{s':AState}(h:Weak s s')(k:AWp P c Q s'):AWp P c Q s:=by
 intro V a w hr
 obtain⟨V1,h1,hr1⟩:=hr.weak h
 refine wp_mono (k V1 a w hr1) fun e a' w'=> ?_
 rintro⟨V',s'',g1,g2,g3,g4,g5,g6⟩
 exact⟨V',s'',h1.trans (by rw[<-h.b];exact g1),by rw[<-h1.base];exact g2,g3,g4.trans h.n,g5.trans h.b,g6⟩
theorem zAB.weak{b:Code}{Q:Exit->AState->Prop}{s':AState}(h:Weak s s')(k:zAB P b Q s'):zAB P b Q s:=by
 intro V a w hr bf kk cs
 obtain⟨V1,h1,hr1⟩:=hr.weak h
 obtain⟨e,a',w',⟨V',s'',g1,g2,g3,g4,g5,g6⟩,harr⟩:=k V1 a w hr1 bf kk cs
 exact⟨e,a',w',⟨V',s'',h1.trans (by rw[<-h.b];exact g1),by rw[<-h1.base];exact g2,g3,g4.trans h.n,g5.trans h.b,g6⟩,harr⟩
theorem zCL{ι:Type}(S:ι->AState)(I:ι->Prop)(μ:ι->Nat){b:Code}{Q:Exit->AState->Prop}(hC:zAb P C)(hg:∀g args s K,zAa P g args s K->FnOK P g)
 (x:ι) (hx:I x) (hs:Weak s (S x)) (hok:zFG s.n b=true)
 (h:∀x,I x->X P C b (zFW Q fun s'=>∃y,I y/\μ y<μ x/\Weak s' (S y)) (S x)):zAB P b Q s:=by
 have key:∀m x,μ x=m->I x->(S x).n=s.n->zAB P b Q (S x):=by
  intro m
  induction m using Nat.strongRecOn with
  |_ m ih=>
   intro x hm hx hn
   refine zCM ((zBH hC hg s.n b hok hn (h x hx)).mono fun e s' hs' _ hq=> ?_)
   cases e with
   |normal=>
    obtain⟨y,hy1,hy2,hy3⟩:=hq
    exact zAB.weak hy3 (ih (μ y) (by omega) y rfl hy1 (by rw[hy3.n,hs',hn]))
   |_=>exact hq
 exact zAB.weak hs (key _ x rfl hx hs.n)
end
end Go.Ab
/- Calls by abstract values: how one is proved of a text, how one is used. Condition: the executor's table of types is the program's; the constants are of their types. -/
set_option linter.unusedSimpArgs false
namespace Go.Ab
open Go.RowKit (Below)
def zCb(C:Cfg)(s:AState):ResultVar->Option (Prop×AV)
 | .tmp t=>some (True,s.env t)
 | .cell a t=>match C.ty t,zEN s (s.env a)with
  |some l,some (cs,off,c)=>some (c/\(zRw l cs off).1,(zRw l cs off).2)
  |_,_=>none
def zCc(C:Cfg)(s:AState):List ResultVar->Option (Prop×List AV)
 | []=>some (True,[])
 |r::rs=>match zCb C s r,zCc C s rs with
  |some (c,v),some (c',vs)=>some (c/\c',v::vs)
  |_,_=>none
def zYm:List AV->AV
 | [v]=>v
 |vs=> .tup vs
def retK(C:Cfg)(rs:List ResultVar)(R:AV->List AObj->Prop)(e:Exit)(s:AState):Prop:=
 (match e with| .normal| .ret=>True|_=>False)/\
 match zCc C s rs with
 |some (c,vs)=>c/\(((zYm vs).norm.bel s.b=true/\R (zYm vs).norm s.H)\/((zYm vs).bel s.b=true/\R (zYm vs) s.H))
 |none=>False
def retE(C:Cfg)(rs:List ResultVar)(R:AV->List AObj->Prop)(e:Exit)(s:AState):Prop:=
 (match e with| .normal| .ret=>True|_=>False)/\
 match zCc C s rs with
 |some (c,vs)=>c/\R (zYm vs) (s.H++s.L)
 |none=>False
def zLe(args:List AV)(H:List AObj)(n:Nat):AState:= {env:=fun t=>args.getD t .any,b:=H.length,H:=H,L:=[],n:=n}
def zTe(tmps:Array Value):ResultVar->Sem Value
 | .tmp t=>pure (tmps.getD t undef)
 | .cell a t=>do loadVar t (←asAddr (tmps.getD a undef))
section
variable {P : Program} {C : Cfg} {s : AState}
theorem zQu{s:AState}(hb:s.b=s.H.length):s.obj=zLC (s.H++s.L):=by
 funext r
 unfold AState.obj zLC
 rw[hb,List.getElem?_append]
theorem zCf(hC:zAb P C){V:View}{a:Act}{w:World}(hr:Rel V a w s):∀(rs:List ResultVar) {c:Prop} {vs:List AV},zCc C s rs=some (c,vs)->c->
 ∃us:List Value,(List.mapM (zTe a.tmps) rs).run P w= .ok us w/\RepL V us vs
 | [],c,vs,h,_=>by
  simp only[zCc,YAM,YAY]at h
  obtain⟨_,rfl⟩:=h
  exact⟨[],rfl,.nil V⟩
 |r::rs,c,vs,h,hc=>by
  simp only[zCc]at h
  split at h
  case h_2=>cases h
  rename_i c1 v1 c2 vs2 h1 h2
  simp only[YAM,YAY]at h
  obtain⟨hce,rfl⟩:=h
  rw[<-hce]at hc
  obtain⟨us,hus,hrep⟩:=zCf hC hr rs h2 hc.2
  obtain⟨u,hu,hur⟩:∃u,(zTe a.tmps r).run P w= .ok u w/\Rep V u v1:=by
   cases r with
   |tmp t=>
    simp only[zCb,YAM,YAY]at h1
    obtain⟨_,rfl⟩:=h1
    exact⟨_,rfl,hr.env t⟩
   |cell x t=>
    simp only[zCb]at h1
    split at h1
    case h_2=>cases h1
    rename_i l cs off cc hT hcs
    simp only[YAM,YAY]at h1
    obtain⟨hce1,rfl⟩:=h1
    have hc1:=hc.1
    rw[<-hce1]at hc1
    obtain⟨b,o,hv,hcell⟩:=zEP hr.toW (hr.env x) hcs hc1.1
    obtain⟨v,hv2,hrep2⟩:=zU3 (P:=P) (hC _ _ hT) hcell hc1.2
    refine⟨v,?_,hrep2⟩
    simp only[Instr.loadAt,Instr.sureAddr,Sem.run_bind,Sem.run_pure,Result.andThen_ok]at hv2
    simp only[zTe,hv,asAddr,Sem.run_bind,Sem.run_pure,Result.andThen_ok,hv2]
  refine⟨u::us,?_,.cons hur hrep⟩
  rw[List.mapM_cons]
  simp only[Sem.run_bind,Sem.run_pure]
  rw[hu]
  simp only[Result.andThen_ok]
  rw[hus]
  rfl
theorem zTf(hC:zAb P C){V:View}{a:Act}{w:World}(hr:Rel V a w s){fn:Func}{c:Prop}{vs:List AV}(h:zCc C s fn.results.toList=some (c,vs))(hc:c):
 ∃v,(results fn a.tmps).run P w= .ok v w/\Rep V v (zYm vs):=by
 obtain⟨us,h1,h2⟩:=zCf hC hr _ h hc
 have hm:(fn.results.mapM (zTe a.tmps)).run P w= .ok us.toArray w:=by
  rw[Array.mapM_eq_mapM_toList]
  simp only[Sem.run_map,h1,Result.andThen_ok]
 have hres:(results fn a.tmps).run P w= .ok (if h:us.toArray.size=1 then us.toArray[0]else .tuple us.toArray) w:=by
  have he:results fn a.tmps=(fn.results.mapM (zTe a.tmps)>>=fun vs=>pure (if h:vs.size=1 then vs[0]else .tuple vs)):=rfl
  rw[he,Sem.run_bind,hm]
  rfl
 refine⟨_,hres,?_⟩
 have hl:=h2.1
 cases vs with
 |nil=>
  have:us=[]:=List.eq_nil_of_length_eq_zero hl
  subst this
  exact RepL.tup (cs:= #[]) (.nil V)
 |cons v vs=>
  cases vs with
  |nil=>
   obtain⟨u,rfl⟩:=len1 hl
   have:=h2.2 0 (by simp)
   simpa [zYm]using this
  |cons v' vs=>
   have:¬us.toArray.size=1:=by simp[hl]
   rw[dif_neg this]
   exact RepL.tup (by simpa using h2)
theorem zLi{V:View}{w:World}{H:List AObj}{args:List AV}{vs:Array Value}{n:Nat}(hI:Inv V (zLC H) w)(hb:∀x∈H,x.bel H.length=true)(hl:vs.size=args.length)
 (ha:∀i,i<args.length->Rep V (vs.getD i undef) (args.getD i .any)) (hn:args.length<=n):
 Rel V {tmps:=vs++Array.replicate (n-vs.size) undef,defers:=[]} w (zLe args H n):=by
 refine⟨rfl,hb,?_,by simp[zLe];omega,rfl,fun t=> ?_⟩
 ·rw[zQu rfl];simpa [zLe]using hI
 ·simp only[zLe]
  by_cases ht:t<args.length
  ·have:=ha t ht
   simpa [Array.getElem?_append,hl,ht]using this
  ·have:args.getD t .any= .any:=by simp[YAF,YAR (Nat.le_of_not_lt ht)]
   rw[this];exact .any _
theorem acalls(hC:zAb P C){f:Nat}{fn:Func}{c:Code}{args:List AV}{H:List AObj}{R:AV→List AObj→Prop}(hf:P.funcs[f]?=some fn)(hb:fn.body=some c)(hname:(fn.name== "runtime.NumGoroutine")=false)
 (hn:args.length<=fn.ntmps) (hok:zFG fn.ntmps c=true) (h:X P C c (retK C fn.results.toList R) (zLe args H fn.ntmps)):zAA P f args H R:=by
 refine⟨⟨fn,hf,by simp[hb],hname⟩,fun V w vs hI hbel hl ha=> ?_⟩
 have hrel:=zLi (n:=fn.ntmps) hI hbel hl ha hn
 have hX:=zBH hC zEA fn.ntmps c hok rfl h V _ w hrel
 refine calls_of_wp hf hb (wp_mono hX fun e a' w'=> ?_)
 rintro⟨V',s',h1,h2,h3,h4,h5,h6⟩
 obtain⟨he,h7⟩:=h6
 have hsb:s'.b=H.length:=h5
 have hVdom:∀r n x,V.loc r n=some x->r<H.length:=fun r n x hx=>by
  have:=hI.dom r n x hx
  unfold zLC at this
  rcases Nat.lt_or_ge r H.length with h|h
  ·exact h
  ·rw[YAR h]at this;simp at this
 split at h7
 case h_2=>exact h7.elim
 rename_i cc vvs hares
 obtain⟨hcc,h8⟩:=h7
 obtain⟨v,hv,hrep⟩:=zTf hC h3 hares hcc
 have hHl:s'.H.length=H.length:=by rw[<-h3.hb];exact hsb
 have hIc:Inv (V'.cut s'.b) (zLC s'.H) w':=by
  refine h3.inv.cut (fun r hr=> ?_) (fun r hr=> ?_) (fun r x hr hx=> ?_)
  ·unfold zLC AState.obj;rw[if_pos hr]
  ·unfold zLC;exact YAR (by rw[<-h3.hb];omega)
  ·unfold AState.obj at hx;rw[if_pos hr]at hx;exact h3.bel x (List.mem_of_getElem? hx)
 have hle:V.Le (V'.cut s'.b):=⟨h1.base,h1.imm,fun r n x hx=>by
  have:=hVdom r n x hx
  simp only[View.cut];rw[if_pos (by omega)];exact h1.loc r n x this hx⟩
 have hgoal:a'.defers=[]/\∃v,(results fn a'.tmps).run P w'= .ok v w'/\∃V'' v' r H',V.Le V''/\Below V.base w w'/\Ending.returned v= .returned v'/\Rep V'' v' r/\Inv V'' (zLC H') w'/\H.length<=H'.length/\R r H':=by
  refine⟨h3.defers,v,hv,V'.cut s'.b,v,?_⟩
  rcases h8 with ⟨h9,h10⟩|⟨h9,h10⟩
  ·exact⟨_,s'.H,hle,h2,rfl,hrep.normed.cut h9,hIc,by omega,h10⟩
  ·exact⟨_,s'.H,hle,h2,rfl,hrep.cut h9,hIc,by omega,h10⟩
 cases e with
 |normal=>exact hgoal
 |ret=>exact hgoal
 |exit id=>exact he.elim
 |goto l=>exact he.elim
 |panic ch=>exact he.elim
 |outgrown=>exact he.elim
theorem zBQ(hC:zAb P C){f:Nat}{fn:Func}{c:Code}{args:List AV}{H:List AObj}{R:AV→List AObj→Prop}(hf:P.funcs[f]?=some fn)(hb:fn.body=some c)(hname:(fn.name== "runtime.NumGoroutine")=false)
 (hn:args.length<=fn.ntmps) (hok:zFG fn.ntmps c=true) (h:X P C c (retE C fn.results.toList R) (zLe args H fn.ntmps)):zAA P f args H R:=by
 refine⟨⟨fn,hf,by simp[hb],hname⟩,fun V w vs hI hbel hl ha=> ?_⟩
 have hrel:=zLi (n:=fn.ntmps) hI hbel hl ha hn
 have hX:=zBH hC zEA fn.ntmps c hok rfl h V _ w hrel
 refine calls_of_wp hf hb (wp_mono hX fun e a' w'=> ?_)
 rintro⟨V',s',h1,h2,h3,h4,h5,h6⟩
 obtain⟨he,h7⟩:=h6
 have hVdom:∀r n x,V.loc r n=some x->r<H.length:=fun r n x hx=>by
  have:=hI.dom r n x hx
  unfold zLC at this
  rcases Nat.lt_or_ge r H.length with h|h
  ·exact h
  ·rw[YAR h]at this;simp at this
 split at h7
 case h_2=>exact h7.elim
 rename_i cc vvs hares
 obtain⟨hcc,h8⟩:=h7
 obtain⟨v,hv,hrep⟩:=zTf hC h3 hares hcc
 have hHl:s'.H.length=H.length:=by rw[<-h3.hb];exact h5
 have hle:V.Le V':=⟨h1.base,h1.imm,fun r n x hx=>h1.loc r n x (hVdom r n x hx) hx⟩
 have hgoal:a'.defers=[]/\∃v,(results fn a'.tmps).run P w'= .ok v w'/\∃V'' v' r H',V.Le V''/\Below V.base w w'/\Ending.returned v= .returned v'/\Rep V'' v' r/\Inv V'' (zLC H') w'/\H.length<=H'.length/\R r H':=
  ⟨h3.defers,v,hv,V',v,_,s'.H++s'.L,hle,h2,rfl,hrep,by rw[<-zQu h3.hb];exact h3.inv,by simp;omega,h8⟩
 cases e with
 |normal=>exact hgoal
 |ret=>exact hgoal
 |exit id=>exact he.elim
 |goto l=>exact he.elim
 |panic ch=>exact he.elim
 |outgrown=>exact he.elim
theorem zAA.mono{f:Nat}{args:List AV}{H:List AObj}{R R':AV->List AObj->Prop}(h:zAA P f args H R)(hr:∀r H',R r H'->R' r H'):zAA P f args H R':=
 ⟨h.1,fun V w vs h1 h2 h3 h4=>(h.2 V w vs h1 h2 h3 h4).mono fun _ _ ⟨V',v,r,H',g1,g2,g3,g4,g5,g6,g7⟩=>⟨V',v,r,H',g1,g2,g3,g4,g5,g6,hr _ _ g7⟩⟩
theorem pcalls{f:Nat}{args:List AV}{r:AV}(hr:r.bel 0=true)(h:∀H,zAA P f args H fun r' H'=>r'=r/\H'=H):zA0 P f args r:=⟨hr,h⟩
theorem zLG{V:View}{w:World}(hI:Inv V s.obj w)(hb:s.b=s.H.length):∀x∈s.H++s.L,x.bel (s.H++s.L).length=true:=by
 intro x hx
 obtain⟨r,hr,rfl⟩:=List.mem_iff_getElem.1 hx
 have ho:s.obj r=some (s.H++s.L)[r]:=by rw[zQu hb];exact YAI hr
 refine(hI.objs r _ ho).zDY fun q n y hy=> ?_
 have:=hI.dom q n y hy
 rw[zQu hb]at this
 unfold zLC at this
 rcases Nat.lt_or_ge q (s.H++s.L).length with h|h
 ·exact h
 ·rw[YAR h]at this;simp at this
theorem zEC{f:Nat}{args args':List AV}{K:AV->AState->Prop}{R:AV->List AObj->Prop}(h:zAA P f args' (s.H++s.L) R)(ha:∀i,args'.getD i .any=args.getD i .any\/args'.getD i .any=(args.getD i .any).norm)(hl:args'.length=args.length)
 (hK:∀r H'',R r H''->s.H.length<=H''.length->(∀x∈H''.take s.b,x.bel s.b=true)/\K r {s with H:=H''.take s.b,L:=H''.drop s.b}):zAa P f args s K:=by
 refine⟨h.1,fun V w vs hb hI hbel hvl hva=> ?_⟩
 have hI':Inv V (zLC (s.H++s.L)) w:=by rw[<-zQu hb];exact hI
 refine(h.2 V w vs hI' (zLG hI hb) (by rw[hvl,hl]) (fun i hi=> ?_)).mono fun e w' he=> ?_
 ·rw[hl]at hi
  rcases ha i with e|e<;>rw[e]
  ·exact hva i hi
  ·exact(hva i hi).normed
 ·obtain⟨V',v,r,H'',g1,g2,g3,g4,g5,g6,g7⟩:=he
  have hlen:s.H.length<=H''.length:=by simp at g6;omega
  obtain⟨k1,k2⟩:=hK r H'' g7 hlen
  refine⟨V',v,r,{s with H:=H''.take s.b,L:=H''.drop s.b},g1,g2,g3,g4,?_,k1,by simp;omega,rfl,rfl,rfl,k2⟩
  have hb':({s with H:=H''.take s.b,L:=H''.drop s.b}:AState).b=({s with H:=H''.take s.b,L:=H''.drop s.b}:AState).H.length:=by simp;omega
  rw[zQu hb']
  simpa using g5
theorem zED{f:Nat}{args args':List AV}{K:AV->AState->Prop}{r:AV}(h:zA0 P f args' r)(ha:args'=args\/args'=AV.normL args)(hK:K r s):zAa P f args s K:=by
 refine⟨(h.2 []).1,fun V w vs hb hI hbel hvl hva=> ?_⟩
 have hI':Inv V (zLC (s.H++s.L)) w:=by rw[<-zQu hb];exact hI
 have hl:args'.length=args.length:=by rcases ha with rfl|rfl;rfl;exact zQj _
 refine((h.2 (s.H++s.L)).2 V w vs hI' (zLG hI hb) (by rw[hvl,hl]) (fun i hi=> ?_)).mono fun e w' he=> ?_
 ·rw[hl]at hi
  rcases ha with rfl|rfl
  ·exact hva i hi
  ·rw[zQi];exact(hva i hi).normed
 ·obtain⟨V',v,r',H'',g1,g2,g3,g4,g5,g6,rfl,rfl⟩:=he
  exact⟨V',v,r',s,g1,g2,g3,g4,by rw[zQu hb];exact g5,hbel,hb,rfl,rfl,rfl,hK⟩
end
end Go.Ab
/- The table of types: checked by computation. No condition. -/
set_option linter.unusedSimpArgs false
namespace Go.Ab
def zCu:AV->AV->Bool
 | .int k n,.int k' n'=>decide (k=k')&&decide (n=n')
 | .bool b,.bool b'=>decide (b=b')
 | .str a,.str b=>decide (a=b)
 | .nilp,.nilp=>true
 | .nilm,.nilm=>true
 | .nilf,.nilf=>true
 | .sl [] .full,.sl [] .full=>true
 |_,_=>false
theorem zCv{a b:AV}(h:zCu a b=true):a=b:=by
 unfold zCu at h
 split at h<;>simp_all
def zCw:List AV->List AV->Bool
 | [],[]=>true
 |a::as,b::bs=>zCu a b&&zCw as bs
 |_,_=>false
theorem zCx:∀ {as bs:List AV},zCw as bs=true->as=bs
 | [],[],_=>rfl
 |a::as,b::bs,h=>by
  simp only[zCw,YAA]at h
  rw[zCv h.1,zCx h.2]
 | [],_::_,h=>by simp[zCw]at h
 |_::_,[],h=>by simp[zCw]at h
def avEq:AV->AV->Bool
 | .agg as,.agg bs=>zCw as bs
 |a,b=>zCu a b
theorem zCy{a b:AV}(h:avEq a b=true):a=b:=by
 unfold avEq at h
 split at h
 ·rw[zCx h]
 ·exact zCv h
def zFk:TypeDesc->TD->Bool
 | .struct f,.st fs=>decide (f.toList.map (fun x=>(x.offset,x.type))=fs)
 | .array n e,.arr n' e'=>n==n'&&e==e'
 | .struct _,_=>false
 | .array _ _,_=>false
 | .int k,.int k'=>decide (k=k')
 | .bool,.bool=>true
 | .string,.str=>true
 | .slice e,.sl e'=>e==e'
 | .map k e,.map k' e'=>k==k'&&e==e'
 | .pointer _,.ptr=>true
 |_,.other=>true
 |_,_=>false
theorem zFl{d:TypeDesc}{t:TD}(h:zFk d t=true):zAe d t:=by
 unfold zFk at h
 split at h<;>simp_all [zAe]
def zYr(P:Program)(t:Nat):Bool:=match P.underlying t with
 |some (.struct fs)=>match fs.toList with
  | [f,g]=>f.offset==0&&g.offset==1&&f.name != "_" &&g.name != "_" &&(match P.underlying f.type with|some (.int .i64)=>true|_=>false)&&(match P.underlying g.type with|some (.int .i64)=>true|_=>false)&& !P.stoodInHeld t
  |_=>false
 |_=>false
theorem zYs{P:Program}{t:Nat}(h:zYr P t=true):zBD P t:=by
 unfold zYr at h
 split at h
 case h_2=>cases h
 rename_i fs hu
 split at h
 case h_2=>cases h
 rename_i f g hfs
 obtain rfl:fs= #[f,g]:=Array.toList_inj.1 hfs
 simp only[YAA,beq_iff_eq,bne_iff_ne,ne_eq,YAD]at h
 obtain⟨⟨⟨⟨⟨⟨h1,h2⟩,h3⟩,h4⟩,h5⟩,h6⟩,h7⟩:=h
 refine⟨f,g,hu,h1,h2,h3,h4,?_,?_,h7⟩
 ·split at h5
  ·assumption
  ·cases h5
 ·split at h6
  ·assumption
  ·cases h6
def intT(P:Program)(t:Nat):Bool:=match P.underlying t with|some (.int .i64)=>true|_=>false
def strT(P:Program)(t:Nat):Bool:=match P.underlying t with|some .string=>true|_=>false
theorem zmN{P:Program}{t:Nat}(h:intT P t=true):P.underlying t=some (.int .i64):=by
 unfold intT at h;split at h
 ·assumption
 ·cases h
theorem znP{P:Program}{t:Nat}(h:strT P t=true):P.underlying t=some .string:=by
 unfold strT at h;split at h
 ·assumption
 ·cases h
def znJ(P:Program)(t:Nat):Bool:=match P.underlying t with
 |some (.struct fs)=>match fs.toList with
  | [f0,f1,f2,f3,f4]=>(f0.offset==0&&f1.offset==2&&f2.offset==3&&f3.offset==4&&f4.offset==5)&&(f0.name != "_" &&f1.name != "_" &&f2.name != "_" &&f3.name != "_" &&f4.name != "_")&&zYr P f0.type&&(match P.info? f0.type with|some i=>i.size==2|none=>false)&&(intT P f1.type&&intT P f2.type&&intT P f3.type&&strT P f4.type)&& !P.stoodInHeld t
  |_=>false
 |_=>false
theorem znK{P:Program}{t:Nat}(h:znJ P t=true):SixC P t:=by
 unfold znJ at h
 split at h
 case h_2=>cases h
 rename_i fs hu
 split at h
 case h_2=>cases h
 rename_i f0 f1 f2 f3 f4 hfs
 obtain rfl:fs= #[f0,f1,f2,f3,f4]:=Array.toList_inj.1 hfs
 simp only[YAA,beq_iff_eq,bne_iff_ne,ne_eq,YAD]at h
 obtain⟨⟨⟨⟨⟨⟨⟨⟨⟨o0,o1⟩,o2⟩,o3⟩,o4⟩,⟨⟨⟨n0,n1⟩,n2⟩,n3⟩,n4⟩,ht⟩,hi⟩,⟨⟨t1,t2⟩,t3⟩,t4⟩,hs⟩:=h
 refine⟨f0,f1,f2,f3,f4,hu,⟨o0,o1,o2,o3,o4⟩,⟨n0,n1,n2,n3,n4⟩,zYs ht,?_,⟨zmN t1,zmN t2,zmN t3,znP t4⟩,hs⟩
 split at hi
 ·rename_i i he
  exact⟨i,he,by simpa using hi⟩
 ·cases hi
def zYw(P:Program)(t:Nat)(l:TL):Bool:=
 (l.two !=1||zYr P t)&&(l.two !=2||znJ P t)&&match P.info? t,P.underlying t with
 |some i,some d=>i.size==l.size&&i.bytes==l.bytes&&(match i.zero with|some z=>zaM z&&avEq (zQ4 z) l.zero|none=>false)&&zFk d l.d&&l.zero.solid&&(cellsOf l.zero).length==l.size&&decide (0<l.size)
 |_,_=>false
theorem zYx{P:Program}{t:Nat}{l:TL}(h:zYw P t l=true):TyOK P t l:=by
 unfold zYw at h
 rw[YAA,YAA]at h
 obtain⟨⟨h0,h00⟩,h⟩:=h
 have h0:l.two=1->zBD P t:=fun e=>zYs (by simpa [e]using h0)
 have h00:l.two=2->SixC P t:=fun e=>znK (by simpa [e]using h00)
 split at h
 ·rename_i i d hi hd
  simp only[YAA,beq_iff_eq,YAa]at h
  obtain⟨⟨⟨⟨⟨⟨h1,h2⟩,h3⟩,h4⟩,h5⟩,h6⟩,h7⟩:=h
  split at h3
  ·rename_i z hz
   simp only[YAA]at h3
   exact⟨⟨i,z,hi,h1,h2,hz,h3.1,zCy h3.2⟩,⟨d,hd,zFl h4⟩,h5,h6,h7,h0,h00⟩
  ·cases h3
 ·cases h
def tyOf:List (Nat×TL)->Nat->Option TL
 | [],_=>none
 |(k,l)::r,t=>if t=k then some l else tyOf r t
def zYJ(P:Program):List (Nat×TL)->Bool
 | []=>true
 |(k,l)::r=>zYw P k l&&zYJ P r
theorem zYL{P:Program}:∀ {tab:List (Nat×TL)},zYJ P tab=true->∀t l,tyOf tab t=some l->TyOK P t l
 | [],_,t,l,h=>by simp[tyOf]at h
 |(k,l')::r,hc,t,l,h=>by
  simp only[zYJ,YAA]at hc
  simp only[tyOf]at h
  split at h
  ·rename_i hk;subst hk;cases h;exact zYx hc.1
  ·exact zYL hc.2 t l h
theorem zaL(e:Nat->AV)(d:Nat)(v:AV)(t:Nat):upd e d v t=if t=d then v else e t:=rfl
theorem zQv(e:Nat->AV)(b:Nat)(H L:List AObj)(n k:Nat):(AState.mk e b H L n).obj (b+k)=L[k]?:=by
 unfold AState.obj;rw[if_neg (show¬b+k<b by omega),show b+k-b=k by omega]
theorem zVc(e:Nat->AV)(b:Nat)(H L:List AObj)(n k:Nat)(x:AObj):(AState.mk e b H L n).setObj (b+k) x=AState.mk e b H (L.set k x) n:=by
 unfold AState.setObj;rw[if_neg (show¬b+k<b by omega),show b+k-b=k by omega]
theorem zQw(e:Nat->AV)(b:Nat)(H L:List AObj)(n:Nat):(AState.mk e b H L n).obj b=L[0]?:=zQv e b H L n 0
theorem zVd(e:Nat->AV)(b:Nat)(H L:List AObj)(n:Nat)(x:AObj):(AState.mk e b H L n).setObj b x=AState.mk e b H (L.set 0 x) n:=zVc e b H L n 0 x
end Go.Ab
/- The executor, step by step, the rest of the text as data. No condition. -/
set_option linter.unusedSimpArgs false
namespace Go.Ab
open Go.RowKit (Below)
inductive KI where
 |code (c:Code)
 |blk (id:Nat)
 |chk (p:AState->Prop)
 |scp
def Un(P:Program)(C:Cfg)(K:Exit->AState->Prop):List KI->Exit->AState->Prop
 | [],e,s=>K e s
 | .code c::k,e,s=>zFW (Un P C K k) (X P C c (Un P C K k)) e s
 | .blk id::k,e,s=>zLb id (Un P C K k) e s
 | .chk p::k,e,s=>(e= .normal->p s)/\Un P C K k e s
 | .scp::k,e,s=>noG (Un P C K k) e s
def Go(P:Program)(C:Cfg)(K:Exit->AState->Prop)(k:List KI)(s:AState):Prop:=Un P C K k .normal s
def GoO(P:Program)(C:Cfg)(K:Exit->AState->Prop)(ops:Array Oper)(todo:List Oper)(k:List KI)(s:AState):Prop:=xops P C ops todo (Go P C K k) s
section
variable {P : Program} {C : Cfg} {K : Exit -> AState -> Prop} {k : List KI} {s : AState}
def zAi(P:Program)(C:Cfg)(K:Exit->AState->Prop)(f:Nat)(args:List AV)(dst:Option Tmp)(ops:Array Oper)(todo:List Oper)(k:List KI)(s:AState):Prop:=
 zAa P f args s fun r s'=>GoO P C K ops todo k (s'.put dst r)
def GoX(P:Program)(C:Cfg)(K:Exit->AState->Prop)(ops:Array Oper)(o:Oper)(todo:List Oper)(k:List KI)(s:AState):Prop:=xop P C o (GoO P C K ops todo k) s
def GoGb(P:Program)(C:Cfg)(K:Exit->AState->Prop)(b want:Bool)(ops:Array Oper)(o:Oper)(todo:List Oper)(k:List KI)(s:AState):Prop:=
 if b=want then GoX P C K ops o todo k s else GoO P C K ops todo k (s.put o.dst (.tup []))
def GoGv(P:Program)(C:Cfg)(K:Exit->AState->Prop)(v:AV)(want:Bool)(ops:Array Oper)(o:Oper)(todo:List Oper)(k:List KI)(s:AState):Prop:=
 match v with
 | .bool b=>GoGb P C K b want ops o todo k s
 | .tup []=>GoO P C K ops todo k (s.put o.dst (.tup []))
 |_=>False
def GoG(P:Program)(C:Cfg)(K:Exit->AState->Prop)(g:Option (Option Tmp×Bool))(ops:Array Oper)(o:Oper)(todo:List Oper)(k:List KI)(s:AState):Prop:=
 match g with
 |none=>GoX P C K ops o todo k s
 |some (some t,want)=>match s.env t with
  | .bool b=>GoGb P C K b want ops o todo k s
  | .tup []=>GoO P C K ops todo k (s.put o.dst (.tup []))
  |_=>False
 |some (none,_)=>False
def GoIf(P:Program)(C:Cfg)(K:Exit->AState->Prop)(b:Bool)(x y:Code)(k:List KI)(s:AState):Prop:=
 if b=true then Go P C K (.code x::k) s else Go P C K (.code y::k) s
theorem zKo:Go P C K [] s=K .normal s:=rfl
theorem zKb(id:Nat):Go P C K (.blk id::k) s=Go P C K k s:=rfl
theorem zKd(p:AState->Prop):Go P C K (.chk p::k) s=(p s/\Go P C K k s):=by
 show((Exit.normal= .normal->p s)/\_)=_
 simp only[true_implies];rfl
theorem zKr(b:Code):Go P C K (.code (.scope b)::k) s=Go P C K (.code b:: .scp::k) s:=rfl
theorem zKs:Go P C K (.scp::k) s=Go P C K k s:=rfl
theorem zKm(l:Nat):Go P C K (.code (.label l)::k) s=Go P C K k s:=rfl
theorem zKu:Go P C K (.code .skip::k) s=Go P C K k s:=rfl
theorem zKt(x y:Code):Go P C K (.code (.seq x y)::k) s=Go P C K (.code x:: .code y::k) s:=rfl
theorem zKc(id:Nat)(b:Code):Go P C K (.code (.block id b)::k) s=Go P C K (.code b:: .blk id::k) s:=rfl
theorem zKe(c:Operand)(x y:Code):Go P C K (.code (.cond c x y)::k) s=match s.ev c with
 | .bool t=>GoIf P C K t x y k s
 |_=>False:=rfl
theorem zJz(x y:Code):GoIf P C K true x y k s=Go P C K (.code x::k) s:=rfl
theorem zJw(x y:Code):GoIf P C K false x y k s=Go P C K (.code y::k) s:=rfl
theorem zJx(b:Bool)(x y:Code):GoIf P C K (!b) x y k s=GoIf P C K b y x k s:=by cases b<;>rfl
theorem zJy{b:Bool}{x y:Code}(h:b=true->Go P C K (.code x::k) s)(h':b=false->Go P C K (.code y::k) s):GoIf P C K b x y k s:=by
 cases b
 ·exact h' rfl
 ·exact h rfl
theorem zKl(id:Nat):Go P C K (.code (.exit id)::k) s=Un P C K k (.exit id) s:=rfl
theorem zKq:Go P C K (.code .ret::k) s=Un P C K k .ret s:=rfl
theorem zKp(id:Nat)(ops:Array Oper):Go P C K (.code (.region id ops false)::k) s=GoO P C K ops ops.toList k s:=rfl
theorem zKn(b:Code):Go P C K (.code (.loop b)::k) s=zAB P b (Un P C K k) s:=rfl
theorem zJ6(ops:Array Oper):GoO P C K ops [] k s=Go P C K k s:=rfl
theorem zJ5(ops:Array Oper)(o:Oper)(r:List Oper):GoO P C K ops (o::r) k s=GoG P C K (guardOf ops o) ops o r k s:=rfl
theorem zJe(ops:Array Oper)(o:Oper)(r:List Oper):GoG P C K none ops o r k s=GoX P C K ops o r k s:=rfl
theorem zJf(t:Nat)(want:Bool)(ops:Array Oper)(o:Oper)(r:List Oper):GoG P C K (some (some t,want)) ops o r k s=GoGv P C K (s.env t) want ops o r k s:=rfl
theorem zJr(b want:Bool)(ops:Array Oper)(o:Oper)(r:List Oper):GoGv P C K (.bool b) want ops o r k s=GoGb P C K b want ops o r k s:=rfl
theorem zJt(want:Bool)(ops:Array Oper)(o:Oper)(r:List Oper):GoGv P C K (.tup []) want ops o r k s=GoO P C K ops r k (s.put o.dst (.tup [])):=rfl
theorem zJq(ops:Array Oper)(o:Oper)(r:List Oper):GoGb P C K true true ops o r k s=GoX P C K ops o r k s:=rfl
theorem zJl(ops:Array Oper)(o:Oper)(r:List Oper):GoGb P C K false false ops o r k s=GoX P C K ops o r k s:=rfl
theorem zJp(ops:Array Oper)(o:Oper)(r:List Oper):GoGb P C K true false ops o r k s=GoO P C K ops r k (s.put o.dst (.tup [])):=rfl
theorem zJm(ops:Array Oper)(o:Oper)(r:List Oper):GoGb P C K false true ops o r k s=GoO P C K ops r k (s.put o.dst (.tup [])):=rfl
theorem zJo{b want:Bool}{ops:Array Oper}{o:Oper}{r:List Oper}(h:b=true->GoGb P C K true want ops o r k s)(h':b=false->GoGb P C K false want ops o r k s):GoGb P C K b want ops o r k s:=by
 cases b
 ·exact h' rfl
 ·exact h rfl
theorem zKH(ops:Array Oper)(d:Option Tmp)(f:Operand)(args:Array Operand)(ts:Array Nat)(ty:Nat)(pos:String)(af:Array Edge)(g:Option (Nat×Bool))(r:List Oper):
 GoX P C K ops ⟨d,.call ⟨.value f,args,ts⟩,ty,pos,af,g⟩ r k s=match s.ev f with
  | .fn i=>zAi P C K i (args.toList.map s.ev) d ops r k s
  |_=>False:=rfl
theorem zKV(ops:Array Oper)(d:Option Tmp)(x:Operand)(ty:Nat)(pos:String)(af:Array Edge)(g:Option (Nat×Bool))(r:List Oper):GoX P C K ops ⟨d,.move x,ty,pos,af,g⟩ r k s=match eff C ⟨d,.move x,ty,pos,af,g⟩ s with
 |some ⟨c,v,s'⟩=>c/\GoO P C K ops r k (s'.put d v)
 |none=>False:=rfl
theorem zKB(ops:Array Oper)(d:Option Tmp)(x:Operand)(ty:Nat)(pos:String)(af:Array Edge)(g:Option (Nat×Bool))(r:List Oper):GoX P C K ops ⟨d,.assign x,ty,pos,af,g⟩ r k s=match eff C ⟨d,.assign x,ty,pos,af,g⟩ s with
 |some ⟨c,v,s'⟩=>c/\GoO P C K ops r k (s'.put d v)
 |none=>False:=rfl
theorem zKX(ops:Array Oper)(d:Option Tmp)(x y z:Operand)(ty:Nat)(pos:String)(af:Array Edge)(g:Option (Nat×Bool))(r:List Oper):GoX P C K ops ⟨d,.pick x y z,ty,pos,af,g⟩ r k s=match eff C ⟨d,.pick x y z,ty,pos,af,g⟩ s with
 |some ⟨c,v,s'⟩=>c/\GoO P C K ops r k (s'.put d v)
 |none=>False:=rfl
theorem zKA(ops:Array Oper)(d:Option Tmp)(t:Nat)(ty:Nat)(pos:String)(af:Array Edge)(g:Option (Nat×Bool))(r:List Oper):GoX P C K ops ⟨d,.alloc t,ty,pos,af,g⟩ r k s=match eff C ⟨d,.alloc t,ty,pos,af,g⟩ s with
 |some ⟨c,v,s'⟩=>c/\GoO P C K ops r k (s'.put d v)
 |none=>False:=rfl
theorem zKD(ops:Array Oper)(d:Option Tmp)(t:Nat)(x:Operand)(ty:Nat)(pos:String)(af:Array Edge)(g:Option (Nat×Bool))(r:List Oper):GoX P C K ops ⟨d,.box t x,ty,pos,af,g⟩ r k s=match eff C ⟨d,.box t x,ty,pos,af,g⟩ s with
 |some ⟨c,v,s'⟩=>c/\GoO P C K ops r k (s'.put d v)
 |none=>False:=rfl
theorem zKP(ops:Array Oper)(d:Option Tmp)(t:Nat)(x:Operand)(ty:Nat)(pos:String)(af:Array Edge)(g:Option (Nat×Bool))(r:List Oper):GoX P C K ops ⟨d,.load t x,ty,pos,af,g⟩ r k s=match eff C ⟨d,.load t x,ty,pos,af,g⟩ s with
 |some ⟨c,v,s'⟩=>c/\GoO P C K ops r k (s'.put d v)
 |none=>False:=rfl
theorem zKZ(ops:Array Oper)(d:Option Tmp)(t:Nat)(x y:Operand)(ty:Nat)(pos:String)(af:Array Edge)(g:Option (Nat×Bool))(r:List Oper):GoX P C K ops ⟨d,.store t x y,ty,pos,af,g⟩ r k s=match eff C ⟨d,.store t x y,ty,pos,af,g⟩ s with
 |some ⟨c,v,s'⟩=>c/\GoO P C K ops r k (s'.put d v)
 |none=>False:=rfl
theorem zKW(ops:Array Oper)(d:Option Tmp)(x:Operand)(ty:Nat)(pos:String)(af:Array Edge)(g:Option (Nat×Bool))(r:List Oper):GoX P C K ops ⟨d,.nilCheck x,ty,pos,af,g⟩ r k s=match eff C ⟨d,.nilCheck x,ty,pos,af,g⟩ s with
 |some ⟨c,v,s'⟩=>c/\GoO P C K ops r k (s'.put d v)
 |none=>False:=rfl
theorem zKC(ops:Array Oper)(d:Option Tmp)(op:BinOp)(t u:Nat)(x y:Operand)(ty:Nat)(pos:String)(af:Array Edge)(g:Option (Nat×Bool))(r:List Oper):GoX P C K ops ⟨d,.binOp op t x y u,ty,pos,af,g⟩ r k s=match eff C ⟨d,.binOp op t x y u,ty,pos,af,g⟩ s with
 |some ⟨c,v,s'⟩=>c/\GoO P C K ops r k (s'.put d v)
 |none=>False:=rfl
theorem zKa(ops:Array Oper)(d:Option Tmp)(op:UnOp)(t:Nat)(x:Operand)(ty:Nat)(pos:String)(af:Array Edge)(g:Option (Nat×Bool))(r:List Oper):GoX P C K ops ⟨d,.unOp op t x,ty,pos,af,g⟩ r k s=match eff C ⟨d,.unOp op t x,ty,pos,af,g⟩ s with
 |some ⟨c,v,s'⟩=>c/\GoO P C K ops r k (s'.put d v)
 |none=>False:=rfl
theorem zKJ(ops:Array Oper)(d:Option Tmp)(t u:Nat)(x:Operand)(ty:Nat)(pos:String)(af:Array Edge)(g:Option (Nat×Bool))(r:List Oper):GoX P C K ops ⟨d,.convert t u x,ty,pos,af,g⟩ r k s=match eff C ⟨d,.convert t u x,ty,pos,af,g⟩ s with
 |some ⟨c,v,s'⟩=>c/\GoO P C K ops r k (s'.put d v)
 |none=>False:=rfl
theorem zKM(ops:Array Oper)(d:Option Tmp)(t f:Nat)(x:Operand)(ty:Nat)(pos:String)(af:Array Edge)(g:Option (Nat×Bool))(r:List Oper):GoX P C K ops ⟨d,.fieldAddr t x f,ty,pos,af,g⟩ r k s=match eff C ⟨d,.fieldAddr t x f,ty,pos,af,g⟩ s with
 |some ⟨c,v,s'⟩=>c/\GoO P C K ops r k (s'.put d v)
 |none=>False:=rfl
theorem zKL(ops:Array Oper)(d:Option Tmp)(t f:Nat)(x:Operand)(ty:Nat)(pos:String)(af:Array Edge)(g:Option (Nat×Bool))(r:List Oper):GoX P C K ops ⟨d,.field t x f,ty,pos,af,g⟩ r k s=match eff C ⟨d,.field t x f,ty,pos,af,g⟩ s with
 |some ⟨c,v,s'⟩=>c/\GoO P C K ops r k (s'.put d v)
 |none=>False:=rfl
theorem zKO(ops:Array Oper)(d:Option Tmp)(t:Nat)(x y:Operand)(ty:Nat)(pos:String)(af:Array Edge)(g:Option (Nat×Bool))(r:List Oper):GoX P C K ops ⟨d,.indexAddr t x y,ty,pos,af,g⟩ r k s=match eff C ⟨d,.indexAddr t x y,ty,pos,af,g⟩ s with
 |some ⟨c,v,s'⟩=>c/\GoO P C K ops r k (s'.put d v)
 |none=>False:=rfl
theorem zKN(ops:Array Oper)(d:Option Tmp)(t:Nat)(x y:Operand)(ty:Nat)(pos:String)(af:Array Edge)(g:Option (Nat×Bool))(r:List Oper):GoX P C K ops ⟨d,.index t x y,ty,pos,af,g⟩ r k s=match eff C ⟨d,.index t x y,ty,pos,af,g⟩ s with
 |some ⟨c,v,s'⟩=>c/\GoO P C K ops r k (s'.put d v)
 |none=>False:=rfl
theorem zKE(ops:Array Oper)(d:Option Tmp)(t:Nat)(ps:Array (Nat×Operand))(ty:Nat)(pos:String)(af:Array Edge)(g:Option (Nat×Bool))(r:List Oper):GoX P C K ops ⟨d,.build t ps,ty,pos,af,g⟩ r k s=match eff C ⟨d,.build t ps,ty,pos,af,g⟩ s with
 |some ⟨c,v,s'⟩=>c/\GoO P C K ops r k (s'.put d v)
 |none=>False:=rfl
theorem zKF(ops:Array Oper)(d:Option Tmp)(t n:Nat)(ps:Array (Nat×Operand))(ty:Nat)(pos:String)(af:Array Edge)(g:Option (Nat×Bool))(r:List Oper):GoX P C K ops ⟨d,.buildSlice t n ps,ty,pos,af,g⟩ r k s=match eff C ⟨d,.buildSlice t n ps,ty,pos,af,g⟩ s with
 |some ⟨c,v,s'⟩=>c/\GoO P C K ops r k (s'.put d v)
 |none=>False:=rfl
theorem zKT(ops:Array Oper)(d:Option Tmp)(t:Nat)(x y:Operand)(ty:Nat)(pos:String)(af:Array Edge)(g:Option (Nat×Bool))(r:List Oper):GoX P C K ops ⟨d,.makeSlice t x y,ty,pos,af,g⟩ r k s=match eff C ⟨d,.makeSlice t x y,ty,pos,af,g⟩ s with
 |some ⟨c,v,s'⟩=>c/\GoO P C K ops r k (s'.put d v)
 |none=>False:=rfl
theorem zKY(ops:Array Oper)(d:Option Tmp)(t:Nat)(x:Operand)(lo hi mx:Option Operand)(ty:Nat)(pos:String)(af:Array Edge)(g:Option (Nat×Bool))(r:List Oper):GoX P C K ops ⟨d,.slice t x lo hi mx,ty,pos,af,g⟩ r k s=match eff C ⟨d,.slice t x lo hi mx,ty,pos,af,g⟩ s with
 |some ⟨c,v,s'⟩=>c/\GoO P C K ops r k (s'.put d v)
 |none=>False:=rfl
theorem zKR(ops:Array Oper)(d:Option Tmp)(f:Fn)(x y:Array Operand)(ty:Nat)(pos:String)(af:Array Edge)(g:Option (Nat×Bool))(r:List Oper):GoX P C K ops ⟨d,.makeFunc f x y,ty,pos,af,g⟩ r k s=match eff C ⟨d,.makeFunc f x y,ty,pos,af,g⟩ s with
 |some ⟨c,v,s'⟩=>c/\GoO P C K ops r k (s'.put d v)
 |none=>False:=rfl
theorem zKK(ops:Array Oper)(d:Option Tmp)(x:Operand)(i:Nat)(ty:Nat)(pos:String)(af:Array Edge)(g:Option (Nat×Bool))(r:List Oper):GoX P C K ops ⟨d,.extract x i,ty,pos,af,g⟩ r k s=match eff C ⟨d,.extract x i,ty,pos,af,g⟩ s with
 |some ⟨c,v,s'⟩=>c/\GoO P C K ops r k (s'.put d v)
 |none=>False:=rfl
theorem zKS(ops:Array Oper)(d:Option Tmp)(t:Nat)(q:Option Operand)(ty:Nat)(pos:String)(af:Array Edge)(g:Option (Nat×Bool))(r:List Oper):GoX P C K ops ⟨d,.makeMap t q,ty,pos,af,g⟩ r k s=match eff C ⟨d,.makeMap t q,ty,pos,af,g⟩ s with
 |some ⟨c,v,s'⟩=>c/\GoO P C K ops r k (s'.put d v)
 |none=>False:=rfl
theorem zKQ(ops:Array Oper)(d:Option Tmp)(t:Nat)(x y:Operand)(b:Bool)(ty:Nat)(pos:String)(af:Array Edge)(g:Option (Nat×Bool))(r:List Oper):GoX P C K ops ⟨d,.lookup t x y b,ty,pos,af,g⟩ r k s=match eff C ⟨d,.lookup t x y b,ty,pos,af,g⟩ s with
 |some ⟨c,v,s'⟩=>c/\GoO P C K ops r k (s'.put d v)
 |none=>False:=rfl
theorem zKU(ops:Array Oper)(d:Option Tmp)(t:Nat)(x y z:Operand)(ty:Nat)(pos:String)(af:Array Edge)(g:Option (Nat×Bool))(r:List Oper):GoX P C K ops ⟨d,.mapUpdate t x y z,ty,pos,af,g⟩ r k s=match eff C ⟨d,.mapUpdate t x y z,ty,pos,af,g⟩ s with
 |some ⟨c,v,s'⟩=>c/\GoO P C K ops r k (s'.put d v)
 |none=>False:=rfl
theorem zKG(ops:Array Oper)(d:Option Tmp)(b:Builtin)(args:Array Operand)(ts:Array Nat)(ty:Nat)(pos:String)(af:Array Edge)(g:Option (Nat×Bool))(r:List Oper):GoX P C K ops ⟨d,.call ⟨.builtin b,args,ts⟩,ty,pos,af,g⟩ r k s=match eff C ⟨d,.call ⟨.builtin b,args,ts⟩,ty,pos,af,g⟩ s with
 |some ⟨c,v,s'⟩=>c/\GoO P C K ops r k (s'.put d v)
 |none=>False:=rfl
theorem zJ0{ι:Type}(S:ι->AState)(I:ι->Prop)(μ:ι->Nat){b:Code}(hC:zAb P C)(x:ι)(hx:I x)(hs:Weak s (S x))(hok:zFG s.n b=true)
 (h:∀x,I x->Go P C (zFW (Un P C K k) fun s'=>∃y,I y/\μ y<μ x/\Weak s' (S y)) [.code b] (S x)):zAB P b (Un P C K k) s:=
 zCL S I μ hC zEA x hx hs hok h
theorem zFY(next:AState->Prop):zFW K next .normal s=next s:=rfl
theorem zFZ(next:AState->Prop):zFW K next .ret s=K .ret s:=rfl
theorem zFX(next:AState->Prop)(i:Nat):zFW K next (.exit i) s=K (.exit i) s:=rfl
theorem zIf{f:Nat}{args args':List AV}{dst:Option Tmp}{ops:Array Oper}{todo:List Oper}{r:AV}(h:zA0 P f args' r)(ha:args'=args\/args'=AV.normL args)(hK:GoO P C K ops todo k (s.put dst r)):
 zAi P C K f args dst ops todo k s:=zED h ha hK
theorem zaG(e:Exit):Un P C K [] e s=K e s:=rfl
theorem zaE(id:Nat)(c:Code):Un P C K (.code c::k) (.exit id) s=Un P C K k (.exit id) s:=rfl
theorem zaD(id i:Nat):Un P C K (.blk i::k) (.exit id) s=if id=i then Go P C K k s else Un P C K k (.exit id) s:=rfl
theorem zaJ(c:Code):Un P C K (.code c::k) .ret s=Un P C K k .ret s:=rfl
theorem zaF(id:Nat):Un P C K (.scp::k) (.exit id) s=Un P C K k (.exit id) s:=rfl
theorem zaK:Un P C K (.scp::k) .ret s=Un P C K k .ret s:=rfl
theorem zaI(i:Nat):Un P C K (.blk i::k) .ret s=Un P C K k .ret s:=rfl
theorem zaH:Un P C K k .normal s=Go P C K k s:=rfl
theorem zbn{P:Program}{C:Cfg}{ops:Array Oper}:∀(l:List Oper) {K K':AState->Prop} {s:AState},(∀s',K s'->K' s')->xops P C ops l K s->xops P C ops l K' s
 | [],K,K',s,hk,h=>hk s h
 |o::l,K,K',s,hk,h=>by
  have hop:∀ {s:AState},xop P C o (xops P C ops l K) s->xop P C o (xops P C ops l K') s:=by
   intro s h
   unfold xop at h⊢
   split at h
   ·split at h
    case h_2=>cases h
    exact⟨h.1,fun V w vs h1 h2 h3 h4 h5=>(h.2 V w vs h1 h2 h3 h4 h5).mono fun _ _ ⟨V',v,r,s',g1,g2,g3,g4,g5,g6,g7,g8,g9,g10,g11⟩=>
     ⟨V',v,r,s',g1,g2,g3,g4,g5,g6,g7,g8,g9,g10,zbn l hk g11⟩⟩
   ·split at h
    case h_2=>cases h
    exact⟨h.1,zbn l hk h.2⟩
  simp only[xops]at h⊢
  unfold xguard at h⊢
  split at h
  ·exact hop h
  ·split at h
   case h_3=>cases h
   ·split at h
    ·rename_i hb;rw[if_pos hb];exact hop h
    ·rename_i hb;rw[if_neg hb];exact zbn l hk h
   ·exact zbn l hk h
  ·cases h
theorem zBG{P:Program}{C:Cfg}:∀(c:Code) {K K':Exit->AState->Prop} {s:AState},(∀e s',K e s'->K' e s')->X P C c K s->X P C c K' s
 | .skip,K,K',s,hk,h=>hk _ _ h
 | .region _ ops false,K,K',s,hk,h=>zbn _ (hk .normal) h
 | .region _ ops true,K,K',s,hk,h=>by simp only[X]at h⊢;exact h.mono fun e s' _ _ hq=>hk _ _ hq
 | .seq x y,K,K',s,hk,h=>zBG x (fun e s' hq=>by
  cases e with
  |normal=>exact zBG y hk hq
  |_=>exact hk _ _ hq) h
 | .cond c x y,K,K',s,hk,h=>by
  simp only[X]at h⊢
  split at h
  ·split at h
   ·rename_i ht;rw[if_pos ht];exact zBG x hk h
   ·rename_i ht;rw[if_neg ht];exact zBG y hk h
  ·cases h
 | .block id b,K,K',s,hk,h=>zBG b (fun e s' hq=>by
  cases e with
  |exit i=>
   simp only[zLb]at hq⊢
   split
   ·rename_i hi;rw[if_pos hi]at hq;exact hk _ _ hq
   ·rename_i hi;rw[if_neg hi]at hq;exact hk _ _ hq
  |_=>exact hk _ _ hq) h
 | .loop b,K,K',s,hk,h=>fun V a w hr bf k cs=>
  let ⟨e,a',w',⟨V',s',g1,g2,g3,g4,g5,g6⟩,harr⟩:=h V a w hr bf k cs
  ⟨e,a',w',⟨V',s',g1,g2,g3,g4,g5,hk _ _ g6⟩,harr⟩
 | .exit _,K,K',s,hk,h=>hk _ _ h
 | .ret,K,K',s,hk,h=>hk _ _ h
 | .rangeFunc _ _ _ _,K,K',s,hk,h=>by simp only[X]at h⊢;exact h.mono fun e s' _ _ hq=>hk _ _ hq
 | .scope b,K,K',s,hk,h=>zBG b (fun e s' hq=>by
  cases e with
  |goto l=>exact hq.elim
  |_=>exact hk _ _ hq) h
 | .label _,K,K',s,hk,h=>hk _ _ h
 | .goto _,K,K',s,hk,h=>by simp only[X]at h⊢;exact h.mono fun e s' _ _ hq=>hk _ _ hq
 | .refuse _,K,K',s,hk,h=>by simp only[X]at h⊢;exact h.mono fun e s' _ _ hq=>hk _ _ hq
theorem zD9{P:Program}{f f':Nat}{args args':List AV}{s s':AState}{K:AV->AState->Prop}(h0:f=f')(h1:args=args')(h2:s=s'):zAa P f args s K=zAa P f' args' s' K:=by rw[h0,h1,h2]
theorem zCK{P:Program}{b:Code}{K:Exit->AState->Prop}{s s':AState}(h2:s=s'):zAB P b K s=zAB P b K s':=by rw[h2]
attribute [congr] zD9 zCK
theorem zES(cs:List AV):cellsOf (.agg cs)=cs:=rfl
theorem zEY(k:IntKind)(n:Int):cellsOf (.int k n)=[.int k n]:=rfl
theorem zEU(b:Bool):cellsOf (.bool b)=[.bool b]:=rfl
theorem zEf(b:ByteArray):cellsOf (.str b)=[.str b]:=rfl
theorem zEe(es:List AV)(t:Tk):cellsOf (.sl es t)=[.sl es t]:=rfl
theorem zEa(r v l:Nat):cellsOf (.ms r v l)=[.ms r v l]:=rfl
theorem zEV(r o:Nat):cellsOf (.bptr r o)=[.bptr r o]:=rfl
theorem zEZ(r:Nat):cellsOf (.mp r)=[.mp r]:=rfl
theorem zEc:cellsOf .nilp=[.nilp]:=rfl
theorem zEb:cellsOf .nilm=[.nilm]:=rfl
theorem zEX(f:Nat):cellsOf (.fn f)=[.fn f]:=rfl
theorem zWr(cs:List AV):(AV.agg cs).solid=cs.all AV.one:=rfl
theorem zWv(k:IntKind)(n:Int):(AV.int k n).solid=true:=rfl
theorem zWs(b:Bool):(AV.bool b).solid=true:=rfl
theorem zW1(b:ByteArray):(AV.str b).solid=true:=rfl
theorem zW0(es:List AV)(t:Tk):(AV.sl es t).solid=true:=rfl
theorem zWx(r v l:Nat):(AV.ms r v l).solid=true:=rfl
theorem zWt(r o:Nat):(AV.bptr r o).solid=true:=rfl
theorem zWw(r:Nat):(AV.mp r).solid=true:=rfl
theorem zWy:AV.nilp.solid=true:=rfl
theorem zWu(f:Nat):(AV.fn f).solid=true:=rfl
theorem zRd(k:IntKind)(n:Int):(AV.int k n).one=true:=rfl
theorem zRZ(b:Bool):(AV.bool b).one=true:=rfl
theorem zRl(b:ByteArray):(AV.str b).one=true:=rfl
theorem zRk(es:List AV)(t:Tk):(AV.sl es t).one=true:=rfl
theorem zRg(r v l:Nat):(AV.ms r v l).one=true:=rfl
theorem zRa(r o:Nat):(AV.bptr r o).one=true:=rfl
theorem zRf(r:Nat):(AV.mp r).one=true:=rfl
theorem zRh:AV.nilp.one=true:=rfl
theorem zRc(f:Nat):(AV.fn f).one=true:=rfl
theorem zR0(q:Nat)(z b:Nat)(zr:AV)(cs:List AV)(off:Nat)(k:IntKind):zRw ⟨q,.int k,z,b,zr⟩ cs off=(off<cs.length,cs.getD off .any):=rfl
theorem zRz(q:Nat)(z b:Nat)(zr:AV)(cs:List AV)(off:Nat):zRw ⟨q,.bool,z,b,zr⟩ cs off=(off<cs.length,cs.getD off .any):=rfl
theorem zR6(q:Nat)(z b:Nat)(zr:AV)(cs:List AV)(off:Nat):zRw ⟨q,.str,z,b,zr⟩ cs off=(off<cs.length,cs.getD off .any):=rfl
theorem zR4(q:Nat)(z b:Nat)(zr:AV)(cs:List AV)(off:Nat)(e:Nat):zRw ⟨q,.sl e,z,b,zr⟩ cs off=(off<cs.length,cs.getD off .any):=rfl
theorem zR1(q:Nat)(z b:Nat)(zr:AV)(cs:List AV)(off:Nat)(x y:Nat):zRw ⟨q,.map x y,z,b,zr⟩ cs off=(off<cs.length,cs.getD off .any):=rfl
theorem zR3(q:Nat)(z b:Nat)(zr:AV)(cs:List AV)(off:Nat):zRw ⟨q,.ptr,z,b,zr⟩ cs off=(off<cs.length,cs.getD off .any):=rfl
theorem zR2(q:Nat)(z b:Nat)(zr:AV)(cs:List AV)(off:Nat):zRw ⟨q,.other,z,b,zr⟩ cs off=(off<cs.length,cs.getD off .any):=rfl
theorem zR5(q:Nat)(z b:Nat)(zr:AV)(cs:List AV)(off:Nat)(fs:List (Nat×Nat)):zRw ⟨q,.st fs,z,b,zr⟩ cs off=(off+z<=cs.length,.agg ((cs.drop off).take z)):=rfl
theorem zRy(q:Nat)(z b:Nat)(zr:AV)(cs:List AV)(off:Nat)(n e:Nat):zRw ⟨q,.arr n e,z,b,zr⟩ cs off=(off+z<=cs.length,.agg ((cs.drop off).take z)):=rfl
mutual
def AV.okay:AV->Prop
 | .int k n=>k.min<=n/\n<=k.max
 | .str s=>s.size<=maxLen
 | .agg cs=>AV.zRR cs
 | .tup cs=>AV.zRR cs
 | .sl es _=>es.length<=maxLen/\AV.zRR es
 | .eptr e _=>AV.zRR e
 |_=>True
def AV.zRR:List AV->Prop
 | []=>True
 |a::as=>AV.okay a/\AV.zRR as
end
theorem zRS:∀l:List AV,AV.zRR l ↔ ∀x∈l,x.okay
 | []=>by simp[AV.zRR]
 |a::as=>by simp[AV.zRR,zRS as]
theorem zRT{l:List AV}(h:∀i,i<l.length->(l.getD i .any).okay):AV.zRR l:=by
 rw[zRS];intro x hx
 obtain⟨i,hi,rfl⟩:=List.mem_iff_getElem.1 hx
 have:=h i hi
 rwa[getD_lt _ hi]at this
theorem Rep.okay{V:View}{v:Value}{a:AV}(h:Rep V v a):a.okay:=by
 induction h with
 |int k n h1 h2=>exact⟨h1,h2⟩
 |str s h=>exact h
 |agg cs as hl _ ih=>exact zRT fun i hi=>ih i hi
 |tup cs as hl _ ih=>exact zRT fun i hi=>ih i hi
 |sl bse len cap es tok size b o val hl hc hm hb' hs hi _ ht hf ih=>
  refine⟨by omega,zRT fun i hi'=> ?_⟩
  have h1:=hs i (by omega)
  have h2:=fun j hj=>ih i j (by omega) hj
  generalize es.getD i .any=x at h1 h2
  cases x with
  |agg cs=>
   simp only[cellsOf]at h1 h2
   exact zRT fun j hj=>h2 j (by omega)
  |_=>
   simp only[cellsOf,List.length_cons,List.length_nil,Nat.zero_add]at h1 h2
   have:=h2 0 (by omega)
   simpa using this
 |eptr e off b o val hi _ ih=>exact zRT fun j hj=>ih j hj
 |_=>trivial
theorem zBS{P:Program}{f:Nat}{args:List AV}{H:List AObj}{R:AV->List AObj->Prop}(hf:FnOK P f)(h:AV.zRR args->zAA P f args H R):zAA P f args H R:=
 ⟨hf,fun V w vs h1 h2 h3 h4=>(h (zRT fun i hi=>(h4 i hi).okay)).2 V w vs h1 h2 h3 h4⟩
def retP(C:Cfg)(rs:List ResultVar)(r:AV)(H:List AObj)(e:Exit)(s:AState):Prop:=
 (match e with| .normal| .ret=>True|_=>False)/\
 match zCc C s rs with
 |some (c,vs)=>c/\(zYm vs).norm=r/\s.H=H
 |none=>False
theorem zSa{P:Program}{C:Cfg}(hC:zAb P C){f:Nat}{fn:Func}{c:Code}{args:List AV}{r:AV}(hf:P.funcs[f]?=some fn)(hb:fn.body=some c)(hname:(fn.name== "runtime.NumGoroutine")=false)
 (hn:args.length<=fn.ntmps) (hok:zFG fn.ntmps c=true) (hr:r.bel 0=true) (h:AV.zRR args->∀H,Go P C (retP C fn.results.toList r H) [.code c] (zLe args H fn.ntmps)):zA0 P f args r:=by
 refine pcalls hr fun H=>zBS ⟨fn,hf,by simp[hb],hname⟩ fun hok'=>acalls hC hf hb hname hn hok ?_
 have h1:=h hok' H
 exact zBG c (fun e s' h2=>by
  obtain⟨h3,h4⟩:=h2
  refine⟨h3,?_⟩
  split at h4
  ·rename_i c vs hares
   try rw[hares]
   exact⟨h4.1,.inl ⟨by rw[h4.2.1];exact zDZ (YAX _) r hr,h4.2.1,h4.2.2⟩⟩
  ·exact h4.elim) h1
theorem zCe{C:Cfg}{s:AState}:zCc C s []=some (True,[]):=rfl
theorem zCg{C:Cfg}{s:AState}(t:Nat)(rs:List ResultVar):zCc C s (.tmp t::rs)=match zCc C s rs with
 |some (c',vs)=>some (True/\c',s.env t::vs)
 |none=>none:=by
 simp only[zCc,zCb]
 cases zCc C s rs<;>rfl
theorem zYo(v:AV):zYm [v]=v:=rfl
theorem zYq(v u:AV):zYm [v,u]= .tup [v,u]:=rfl
theorem zYp(v u x:AV):zYm [v,u,x]= .tup [v,u,x]:=rfl
theorem zYn(v u x y:AV):zYm [v,u,x,y]= .tup [v,u,x,y]:=rfl
def envL:List (Nat×AV)->Nat->AV
 | [],_=> .any
 |(k,v)::r,t=>if t=k then v else envL r t
theorem zHC(k:Nat)(v:AV)(r:List (Nat×AV))(t:Nat):envL ((k,v)::r) t=if t=k then v else envL r t:=rfl
theorem zHE(t:Nat):envL [] t= .any:=rfl
theorem zat{s:AState}{l:List (Nat×AV)}{L':List AObj}{b n:Nat}{H:List AObj}(hb:b=s.b)(hn:n=s.n)(hH:H=s.H)(hL:L'=s.L)(h:∀p∈l,s.env p.1=p.2\/(s.env p.1).norm=p.2):Weak s ⟨envL l,b,H,L',n⟩:=by
 subst hb;subst hn;subst hH;subst hL
 refine⟨rfl,rfl,rfl,by simp,fun t=> ?_,.inl rfl⟩
 simp only
 induction l with
 |nil=>exact .inl rfl
 |cons p l ih=>
  simp only[List.forall_mem_cons]at h
  obtain⟨k,v⟩:=p
  rw[zHC]
  split
  ·rename_i ht;subst ht
   rcases h.1 with e|e
   ·exact .inr (.inl e.symm)
   ·exact .inr (.inr e.symm)
  ·exact ih h.2
theorem zas{s:AState}{l:List (Nat×AV)}{L':List AObj}{b n:Nat}{H:List AObj}(hb:b=s.b)(hn:n=s.n)(hH:H=s.H)(hL:s.L.take L'.length=L')(h:∀p∈l,s.env p.1=p.2\/(s.env p.1).norm=p.2)
 (h1:∀p∈l,p.2.bel (b+L'.length)=true) (h2:∀x∈L',x.bel (b+L'.length)=true):Weak s ⟨envL l,b,H,L',n⟩:=by
 subst hb;subst hn;subst hH
 refine⟨rfl,rfl,rfl,hL.symm,fun t=> ?_,.inr ⟨fun t=> ?_,h2⟩⟩
 ·simp only
  clear h1
  induction l with
  |nil=>exact .inl rfl
  |cons p l ih=>
   simp only[List.forall_mem_cons]at h
   obtain⟨k,v⟩:=p
   rw[zHC]
   split
   ·rename_i ht;subst ht
    rcases h.1 with e|e
    ·exact .inr (.inl e.symm)
    ·exact .inr (.inr e.symm)
   ·exact ih h.2
 ·simp only
  clear h
  induction l with
  |nil=>rfl
  |cons p l ih=>
   simp only[List.forall_mem_cons]at h1
   obtain⟨k,v⟩:=p
   rw[zHC]
   split
   ·exact h1.1
   ·exact ih h1.2
theorem zN6(a k:Nat):(a+k<a)=False:=by simp
theorem nn(n:Nat):(0<=(n:Int))=True:=by simp
theorem zbX{i m:Nat}(h:i<m)(hm:m<=maxLen):IntKind.wrap .i64 ((i:Int)+1)=((i+1:Nat):Int):=by
 have h1:maxLen=9223372036854775807:=rfl
 rw[zbU .i64 _ (by show(-9223372036854775808:Int)<=_;omega) (by show _<=(9223372036854775807:Int);omega)]
 omega
end
end Go.Ab
end
section
/- The executor on abstract values: drawn regions, rules for walks. Conditions stand ahead of each part. -/
/- Operations that look at their operands and turn their slot alone: what else turns does not matter. No condition. -/
set_option linter.unusedSimpArgs false
namespace Go.Ab
open Go.RowKit (Below)
def AObj.mute:AObj->Bool
 | .dead| .tok _ _=>true
 |_=>false
def AObj.isMap:AObj->Bool
 | .map _=>true
 |_=>false
def zQq:AV->Option Nat
 | .bptr r _=>some r
 | .aptr r _ _ _ _=>some r
 | .mp r=>some r
 |_=>none
def zV3(C:Cfg)(o:Oper):Bool:=match o.op with
 | .move _| .assign _| .pick _ _ _| .load _ _| .nilCheck _| .binOp _ _ _ _ _| .unOp _ _ _| .convert _ _ _| .fieldAddr _ _ _| .field _ _ _| .indexAddr _ _ _| .index _ _ _
 | .build _ _| .slice _ _ _ _ _| .extract _ _=>true
 | .buildSlice _ _ _=> !zLl C o
 | .call {callee:= .builtin .len,..}| .call {callee:= .builtin .max,..}| .call {callee:= .builtin .min,..}=>true
 |_=>false
structure Agree (o:Oper) (s s1:AState):Prop where
 ev:∀x∈o.op.operands.toList,s1.ev x=s.ev x
 obj:∀r x,s.obj r=some x->x.mute=false->s1.obj r=some x
section
variable {C : Cfg} {s s1 : AState}
theorem zEO{a:AV}(ho:∀r x,zQq a=some r->s.obj r=some x->x.mute=false->x.isMap=false->s1.obj r=some x){y:List AV×Nat×Prop}(h:zEN s a=some y):zEN s1 a=some y:=by
 unfold zEN at h⊢
 split at h
 ·exact h
 ·split at h
  case h_2=>cases h
  rename_i hobj
  rw[ho _ _ rfl hobj rfl rfl]
  exact h
 ·split at h
  case h_2=>cases h
  rename_i hobj
  rw[ho _ _ rfl hobj rfl rfl]
  exact h
 ·cases h
theorem zF6(ho:∀r x,s.obj r=some x->x.mute=false->s1.obj r=some x){inpl:Bool}{b:Builtin}(hb:b= .len\/b= .max\/b= .min){ts:List Nat}{args:List AV}{out:Out}
 (h:zF5 C inpl s b ts args=some out):out.s=s/\zF5 C inpl s1 b ts args=some ⟨out.c,out.v,s1⟩:=by
 rcases hb with rfl|rfl|rfl
 ·unfold zF5 at h⊢
  split at h<;>first|contradiction|skip
  ·split at h
   case h_2=>cases h
   simp only[YAM]at h;subst h;exact⟨rfl,rfl⟩
  ·split at h
   case h_2=>cases h
   simp only[YAM]at h;subst h;exact⟨rfl,rfl⟩
  ·split at h
   case h_2=>cases h
   simp only[YAM]at h;subst h;exact⟨rfl,rfl⟩
  ·split at h
   case h_2=>cases h
   rename_i heq hobj;simp only[YAM]at h;subst h;exact⟨rfl,by rw[heq,ho _ _ hobj rfl]⟩
 ·unfold zF5 at h⊢
  split at h<;>first|contradiction|skip
  split at h
  case isFalse=>cases h
  rename_i hk;simp only[YAM]at h;subst h;exact⟨rfl,by simp[hk]⟩
 ·unfold zF5 at h⊢
  split at h<;>first|contradiction|skip
  split at h
  case isFalse=>cases h
  rename_i hk;simp only[YAM]at h;subst h;exact⟨rfl,by simp[hk]⟩
theorem zGC{x:AV}{lo hi mx:Option AV}{out:Out}(h:zGB x lo hi mx s=some out):out.s=s/\zGB x lo hi mx s1=some ⟨out.c,out.v,s1⟩:=by
 unfold zGB at h⊢
 split at h
 case h_2=>cases h
 split at h
 case h_2=>cases h
 rename_i h1 h2;simp only[YAM]at h;subst h;exact⟨rfl,by simp only[h1,h2]⟩
theorem zGA{size:Nat}{x:AV}{lo hi mx:Option AV}{out:Out}(h:zF9 size x lo hi mx s=some out):out.s=s/\zF9 size x lo hi mx s1=some ⟨out.c,out.v,s1⟩:=by
 unfold zF9 at h⊢
 split at h
 ·split at h
  ·split at h
   case h_2=>cases h
   rename_i h1 h2;simp only[YAM]at h;subst h;exact⟨rfl,by simp only[h1,h2]⟩
  ·split at h
   case h_2=>cases h
   rename_i h1 h2;simp only[YAM]at h;subst h;exact⟨rfl,by simp only[h1,h2]⟩
  ·cases h
 ·split at h
  case h_2=>cases h
  simp only[YAM]at h;subst h;exact⟨rfl,rfl⟩
 ·cases h
theorem zGD{o:Oper}(hs:zV3 C o=true)(hA:Agree o s s1){out:Out}(h:eff C o s=some out):out.s=s/\eff C o s1=some ⟨out.c,out.v,s1⟩:=by
 obtain⟨hev,ho⟩:=hA
 unfold zV3 at hs
 split at hs<;>first|contradiction|skip
 case h_1 x hop=>
  simp only[hop,Op.operands,List.forall_mem_cons]at hev
  simp only[eff,hop,hev.1]at h⊢;simp only[YAM]at h;subst h;exact⟨rfl,rfl⟩
 case h_2 x hop=>
  simp only[hop,Op.operands,List.forall_mem_cons]at hev
  simp only[eff,hop,hev.1]at h⊢;simp only[YAM]at h;subst h;exact⟨rfl,rfl⟩
 case h_3 hop=>
  simp only[hop,Op.operands,List.forall_mem_cons]at hev
  simp only[eff,hop,hev.1,hev.2.1,hev.2.2.1]at h⊢
  split at h
  case h_2=>cases h
  simp only[YAM]at h;subst h;exact⟨rfl,rfl⟩
 case h_4 hop=>
  simp only[hop,Op.operands,List.forall_mem_cons]at hev
  simp only[eff,hop,hev.1]at h⊢
  split at h
  case h_2=>cases h
  rename_i h1 h2
  simp only[YAM]at h;subst h
  rw[h1,zEO (fun r x _ h3 h4 _=>ho r x h3 h4) h2];exact⟨rfl,rfl⟩
 case h_5 hop=>
  simp only[hop,Op.operands,List.forall_mem_cons]at hev
  simp only[eff,hop,hev.1]at h⊢
  split at h<;>first|contradiction|skip
  all_goals (simp only[YAM]at h;subst h;exact⟨rfl,rfl⟩)
 case h_6 hop=>
  simp only[hop,Op.operands,List.forall_mem_cons]at hev
  simp only[eff,hop,hev.1,hev.2.1]at h⊢
  split at h
  case h_2=>cases h
  split at h
  case h_2=>cases h
  simp only[YAM]at h;subst h;exact⟨rfl,rfl⟩
 case h_7 hop=>
  simp only[hop,Op.operands,List.forall_mem_cons]at hev
  simp only[eff,hop,hev.1]at h⊢
  split at h<;>first|contradiction|skip
  all_goals (simp only[YAM]at h;subst h;exact⟨rfl,rfl⟩)
 case h_8 hop=>
  simp only[hop,Op.operands,List.forall_mem_cons]at hev
  simp only[eff,hop,hev.1]at h⊢
  split at h<;>first|contradiction|skip
  rename_i h1 h2 h3
  simp only[YAM]at h;subst h;exact⟨rfl,by simp only[h1,h2,h3]⟩
 case h_9 hop=>
  simp only[hop,Op.operands,List.forall_mem_cons]at hev
  simp only[eff,hop,hev.1]at h⊢
  split at h<;>first|contradiction|skip
  split at h<;>first|contradiction|skip
  split at h<;>first|contradiction|skip
  rename_i h1 h2 h3 h4
  simp only[YAM]at h;subst h;exact⟨rfl,by first|rfl|simp only[h1,h2,h3,h4]|simp only[h3,h4]⟩
 case h_10 hop=>
  simp only[hop,Op.operands,List.forall_mem_cons]at hev
  simp only[eff,hop,hev.1]at h⊢
  split at h<;>first|contradiction|skip
  split at h<;>first|contradiction|skip
  split at h<;>first|contradiction|skip
  simp only[YAM]at h;subst h;exact⟨rfl,by first|rfl|simp only[*]⟩
 case h_11 hop=>
  simp only[hop,Op.operands,List.forall_mem_cons]at hev
  simp only[eff,hop,hev.1,hev.2.1]at h⊢
  split at h<;>first|contradiction|skip
  ·split at h<;>first|contradiction|skip
   all_goals (simp only[YAM]at h;subst h;exact⟨rfl,by first|rfl|simp only[*]⟩)
  ·split at h<;>first|contradiction|skip
   split at h<;>first|contradiction|skip
   all_goals (simp only[YAM]at h;subst h;exact⟨rfl,by first|rfl|simp only[*]⟩)
 case h_12 hop=>
  simp only[hop,Op.operands,List.forall_mem_cons]at hev
  simp only[eff,hop,hev.1,hev.2.1]at h⊢
  split at h<;>first|contradiction|skip
  ·split at h<;>first|contradiction|skip
   all_goals (simp only[YAM]at h;subst h;exact⟨rfl,by first|rfl|simp only[*]⟩)
  ·split at h<;>first|contradiction|skip
   all_goals (simp only[YAM]at h;subst h;exact⟨rfl,by first|rfl|simp only[*]⟩)
 case h_13 t ps hop=>
  have hm:(ps.toList.map fun p=>(p.1,s1.ev p.2))=ps.toList.map fun p=>(p.1,s.ev p.2):=List.map_congr_left fun p hp=>by
   rw[hev p.2 (by simp only[hop,Op.operands];simp only[List.mem_map];exact⟨p,hp,rfl⟩)]
  simp only[eff,hop,hm]at h⊢
  split at h<;>first|contradiction|skip
  ·split at h<;>first|contradiction|skip
   all_goals (simp only[YAM]at h;subst h;exact⟨rfl,by first|rfl|simp only[*]⟩)
  ·split at h<;>first|contradiction|skip
   split at h<;>first|contradiction|skip
   all_goals (simp only[YAM]at h;subst h;exact⟨rfl,by first|rfl|simp only[*]⟩)
 case h_14 t x lo hi mx hop=>
  have h0:s1.ev x=s.ev x:=hev x (by simp[hop,Op.operands])
  have h1:lo.map s1.ev=lo.map s.ev:=by cases lo with|none=>rfl|some y=>simp[hev y (by simp[hop,Op.operands])]
  have h2:hi.map s1.ev=hi.map s.ev:=by cases hi with|none=>rfl|some y=>simp[hev y (by simp[hop,Op.operands])]
  have h3:mx.map s1.ev=mx.map s.ev:=by cases mx with|none=>rfl|some y=>simp[hev y (by simp[hop,Op.operands])]
  simp only[eff,hop,h0,h1,h2,h3]at h⊢
  split at h<;>first|contradiction|skip
  ·split at h<;>first|contradiction|skip
   have:=zGA (s1:=s1) h
   exact this
  ·exact zGC (s1:=s1) h
 case h_15 hop=>
  simp only[hop,Op.operands,List.forall_mem_cons]at hev
  simp only[eff,hop,hev.1]at h⊢
  split at h<;>first|contradiction|skip
  simp only[YAM]at h;subst h;exact⟨rfl,rfl⟩
 case h_16 t n ps hop=>
  have hm:(ps.toList.map fun p=>(p.1,s1.ev p.2))=ps.toList.map fun p=>(p.1,s.ev p.2):=List.map_congr_left fun p hp=>by
   rw[hev p.2 (by simp only[hop,Op.operands];simp only[List.mem_map];exact⟨p,hp,rfl⟩)]
  simp only[eff,hop,hm]at h⊢
  split at h<;>first|contradiction|skip
  split at h<;>first|contradiction|skip
  have hi:zLl C o=false:=by simpa using hs
  simp only[hi,YAB,if_false]at h⊢
  simp only[YAM]at h;subst h;exact⟨rfl,by first|rfl|simp only[*]⟩
 all_goals
  rename_i args ts hop
  have hm:args.toList.map s1.ev=args.toList.map s.ev:=List.map_congr_left fun p hp=>hev p (by simp only[hop,Op.operands,Call.operands];simpa using hp)
  simp only[eff,hop,hm]at h⊢
  exact zF6 ho (by simp) h
end
end Go.Ab
/- Regions whose order the world draws: whatever the order, the end is that of the text's order. Condition: the executor's table of types is the program's; operations that the edges leave open do not meet. -/
set_option linter.unusedSimpArgs false
namespace Go.Ab
open Go.RowKit (Below)
def slOK:AV->Bool
 | .sl _ _=>true
 |_=>false
def isMs:AV->Bool
 | .ms _ _ _=>true
 |_=>false
def zCQ(C:Cfg)(o:Oper)(s:AState)(args:Array Operand):Bool:=
 if zLl C o=true then(match args.toList with
  | [a,x]=>isMs (s.ev a)&&slOK (s.ev x)
  |_=>false)else args.toList.all (fun p=>slOK (s.ev p))
def effD(C:Cfg)(k:Nat)(o:Oper)(s:AState):Option Out:=
 match o.op with
 | .alloc t=>match C.ty t,s.obj k with
  |some l,some .dead=>some ⟨s.b<=k,.bptr k 0,s.setObj k (.box (cellsOf l.zero))⟩
  |_,_=>none
 | .box _ x=>match s.obj k with
  |some .dead=>some ⟨s.b<=k/\(s.ev x).solid=true,.bptr k 0,s.setObj k (.box (cellsOf (s.ev x)))⟩
  |_=>none
 | .makeMap _ none=>match s.obj k with
  |some .dead=>some ⟨s.b<=k,.mp k,s.setObj k (.map [])⟩
  |_=>none
 | .call {callee:= .builtin .append,args:=args,..}=>if zCQ C o s args=true then eff C o s else none
 |_=>eff C o s
def isAl(o:Oper):Bool:=match o.op with| .alloc _| .box _ _| .makeMap _ none=>true|_=>false
def nxt(k:Nat)(o:Oper):Nat:=if isAl o then k+1 else k
def zA5(P:Program)(f:Nat)(args:List AV)(r:AV)(obj:Nat->Option AObj):Prop:=
 ∀F:List AObj,(∀q x,obj q=some x->x.mute=false->F[q]?=some x)->zAA P f args F fun r' F'=>r'=r/\F'=F
def zAr(P:Program)(f:Nat)(args:List AV)(r:AV)(obj:Nat->Option AObj)(m:Nat)(es:List (AV×AV)):Prop:=
 (∃es0,obj m=some (.map es0))/\(∀b,(AObj.map es).bel b=true)/\∀F:List AObj,(∀q x,obj q=some x->x.mute=false->F[q]?=some x)->zAA P f args F fun r' F'=>r'=r/\F'=F.set m (.map es)
def rdF(C:Cfg)(f:Operand):Bool:=match f with
 | .func g=>C.rdr g
 |_=>false
def mwF(C:Cfg)(f:Operand):Bool:=match f with
 | .func g=>C.mwr g&& !C.rdr g
 |_=>false
def zwF(C:Cfg)(f:Operand):Bool:=match f with
 | .func g=>C.zwr g&& !C.mwr g&& !C.rdr g
 |_=>false
def zBK(P:Program)(f:Nat)(args:List AV)(r:AV)(s:AState)(F':List AObj):Prop:=
 ((∀x∈s.H,x.bel s.b=true)->∀x∈F'.take s.b,x.bel s.b=true)/\zAA P f args (s.H++s.L) fun r' G=>r'=r/\G=F'
def zll(r r0 o0 q:Nat):Prop:=if o0=999 then r0<=r else(r=r0->q≠o0)
def CsAg(r r0 o0:Nat)(cs cs':List AV):Prop:=cs'.length=cs.length/\∀q,zll r r0 o0 q->cs'.getD q .any=cs.getD q .any
def zAE(F F':List AObj)(r0 o0:Nat):Prop:=F'.length=F.length/\∀r:Nat,(∀cs,F[r]?=some (.box cs)->∃cs',F'[r]?=some (.box cs')/\CsAg r r0 o0 cs cs')/\(∀cs',F'[r]?=some (.box cs')->∃cs,F[r]?=some (.box cs)/\CsAg r r0 o0 cs cs')
def ZFr(C:Cfg)(s:AState)(F':List AObj):Prop:=match C.zfr with
 |none=>True
 |some (t0,o0)=>∀r0,s.env t0= .bptr r0 0->zAE (s.H++s.L) F' r0 o0
def LdOK(r0 o0:Nat):AV->Nat->Prop
 | .bptr r off,n=>if o0=999 then r0<=r else(r=r0->o0<off\/off+n<=o0)
 | .eptr _ _,_=>True
 | .tup [],_=>True
 |_,_=>False
theorem zmS{r r0 o0 off n q:Nat}(h:LdOK r0 o0 (.bptr r off) n)(k1:off<=q)(k2:q<off+n):zll r r0 o0 q:=by
 have h:if o0=999 then r0<=r else(r=r0->o0<off\/off+n<=o0):=h
 unfold zll
 split at h
 ·rename_i e;rw[if_pos e];exact h
 ·rename_i e;rw[if_neg e];intro e2 e3;have:=h e2;omega
theorem zmR{r0 o0 n:Nat}{v:AV}(h:LdOK r0 o0 v n):(∃r off,v= .bptr r off)\/(∃a b,v= .eptr a b)\/v= .tup []:=by
 unfold LdOK at h
 split at h
 ·exact .inl ⟨_,_,rfl⟩
 ·exact .inr (.inl ⟨_,_,rfl⟩)
 ·exact .inr (.inr rfl)
 ·exact h.elim
def ZLd(C:Cfg)(s:AState):Prop:=match C.zfr with
 |none=>True
 |some (t0,o0)=>∃r0,s.env t0= .bptr r0 0/\∀p∈C.zld,LdOK r0 o0 (s.env p.1) p.2
def zbY(P:Program)(C:Cfg)(f:Operand)(g:Nat)(args:List AV)(dst:Option Tmp)(K:AState->Prop)(s:AState):Prop:=
 ∃r args',(args'=args\/args'=AV.normL args)/\((zA0 P g args' r/\K (s.put dst r))\/(rdF C f=true/\zA5 P g args' r s.obj/\K (s.put dst r))\/
  (mwF C f=true/\∃m es,zAr P g args' r s.obj m es/\K ((s.setObj m (.map es)).put dst r))\/
  (zwF C f=true/\∃F',(zBK P g args' r s F'/\ZFr C s F')/\K (({s with H:=F'.take s.b,L:=F'.drop s.b}:AState).put dst r)))
def xopD(P:Program)(C:Cfg)(k:Nat)(o:Oper)(K:AState->Prop)(s:AState):Prop:=
 match o.op with
 | .call {callee:= .value f,args:=args,..}=>match s.ev f with
  | .fn g=>zbY P C f g (args.toList.map s.ev) o.dst K s
  |_=>False
 |_=>match effD C k o s with
  |some ⟨c,v,s'⟩=>c/\K (s'.put o.dst v)
  |none=>False
def zbZ(P:Program)(C:Cfg)(ops:Array Oper)(k:Nat)(o:Oper)(K:AState->Prop)(s:AState):Prop:=
 match guardOf ops o with
 |none=>xopD P C k o K s
 |some (some t,want)=>match s.env t with
  | .bool b=>if b=want then xopD P C k o K s else K (s.put o.dst (.tup []))
  | .tup []=>K (s.put o.dst (.tup []))
  |_=>False
 |some (none,_)=>False
def zbj(P:Program)(C:Cfg)(ops:Array Oper):Nat->List Oper->(AState->Prop)->AState->Prop
 |_,[],K,s=>K s
 |k,o::rest,K,s=>zbZ P C ops k o (zbj P C ops (nxt k o) rest K) s
def St(P:Program)(C:Cfg)(ops:Array Oper)(k:Nat)(o:Oper)(s s':AState):Prop:=zbZ P C ops k o (· =s') s
section
variable {P : Program} {C : Cfg} {ops : Array Oper}
theorem zbd{k:Nat}{o:Oper}{K:AState->Prop}{s:AState}(h:xopD P C k o K s):∃s',xopD P C k o (· =s') s/\K s':=by
 unfold xopD at h⊢
 split at h
 ·split at h
  case h_2=>cases h
  obtain⟨r,as,h2,⟨h1,h3⟩|⟨h0,h1,h3⟩|⟨h0,m,es,h1,h3⟩|⟨h0,F',h1,h3⟩⟩:=h
  ·exact⟨_,⟨r,as,h2,.inl ⟨h1,rfl⟩⟩,h3⟩
  ·exact⟨_,⟨r,as,h2,.inr (.inl ⟨h0,h1,rfl⟩)⟩,h3⟩
  ·exact⟨_,⟨r,as,h2,.inr (.inr (.inl ⟨h0,m,es,h1,rfl⟩))⟩,h3⟩
  ·exact⟨_,⟨r,as,h2,.inr (.inr (.inr ⟨h0,F',h1,rfl⟩))⟩,h3⟩
 ·split at h
  case h_2=>cases h
  exact⟨_,⟨h.1,rfl⟩,h.2⟩
theorem zba{k:Nat}{o:Oper}{K:AState->Prop}{s:AState}(h:zbZ P C ops k o K s):∃s',St P C ops k o s s'/\K s':=by
 unfold St
 unfold zbZ at h⊢
 split at h
 ·exact zbd h
 ·split at h
  case h_3=>cases h
  ·rename_i hb
   split at h
   ·rename_i hw;simp only[hb,if_pos hw];exact zbd h
   ·rename_i hw;simp only[hb,if_neg hw];exact⟨_,rfl,h⟩
  ·rename_i hb
   simp only[hb];exact⟨_,rfl,h⟩
 ·cases h
inductive Cls where
 |t|q|a|w|p|m|i|z
 deriving DecidableEq
def tOp(C:Cfg)(o:Oper):Bool:=match o.op with
 | .move _| .assign _| .pick _ _ _| .nilCheck _| .binOp _ _ _ _ _| .unOp _ _ _| .convert _ _ _| .fieldAddr _ _ _| .field _ _ _| .indexAddr _ _ _| .index _ _ _
 | .build _ _| .slice _ _ _ _ _| .extract _ _=>true
 | .buildSlice _ _ _=> !zLl C o
 | .call {callee:= .value (.func g),..}=> !C.rdr g&& !C.mwr g&& !C.zwr g
 |_=>false
def rdOp(C:Cfg)(o:Oper):Bool:=match o.op with
 | .call {callee:= .value f,..}=>rdF C f
 |_=>false
def mwOp(C:Cfg)(o:Oper):Bool:=match o.op with
 | .call {callee:= .value f,..}=>mwF C f
 |_=>false
def cls(C:Cfg)(o:Oper):Cls:=match o.op with
 | .alloc _| .box _ _| .makeMap _ none=> .a
 | .store _ _ _=> .w
 | .call {callee:= .builtin .append,..}=>if zLl C o then .i else .p
 |_=>if tOp C o then .t else if zV3 C o then .q else if rdOp C o then .q else if mwOp C o then .m else .z
def zH0:Cls->Cls->Bool
 | .m,.t| .t,.m| .i,.t| .t,.i=>true
 | .t,.t| .t,.q| .q,.t| .q,.q| .t,.a| .q,.a| .a,.a| .a,.t| .t,.w| .w,.t=>true
 | .t,.p| .p,.t| .a,.p| .p,.a| .q,.p| .p,.q| .w,.p| .p,.w=>true
 |_,_=>false
def adrT(o:Oper):Option Tmp:=match o.op with
 | .load _ (.tmp t)=>some t
 | .store _ (.tmp t) _=>some t
 |_=>none
abbrev Od:=Option (Nat×Option AObj×AObj)
def act0(od:Od)(s:AState):AState:=
 match od with
 |none=>s
 |some (_,none,y)=>s.new y
 |some (r,some _,y)=>s.setObj r y
def act(od:Od)(dst:Option Tmp)(v:AV)(s:AState):AState:=(act0 od s).put dst v
def OdAt(od:Od)(s:AState):Prop:=∀r X y,od=some (r,X,y)->s.obj r=X/\(X=none->r=s.b+s.L.length)
def zAf(ops:Array Oper)(o:Oper)(s s1:AState):Prop:=∀t∈o.looksAt ops,s1.env t=s.env t
def RdAg(o:Oper)(s s1:AState):Prop:=∀r x,(∀t,adrT o=some t->zQq (s.env t)=some r)->s.obj r=some x->x.mute=false->((adrT o).isSome=true->x.isMap=false)->s1.obj r=some x
structure Yl (P:Program) (C:Cfg) (ops:Array Oper) (k:Nat) (o:Oper) (s s':AState) (od:Od) (v:AV):Prop where
 at_:OdAt od s
 to:s'=act od o.dst v s
 stab:∀s1,s1.b=s.b->zAf ops o s s1->OdAt od s1->(cls C o= .q\/cls C o= .m->RdAg o s s1)->St P C ops k o s1 (act od o.dst v s1)
 none_:cls C o= .t\/cls C o= .q->od=none
 new_:cls C o= .a->∀r X y,od=some (r,X,y)->X=some .dead/\((∃cs,y= .box cs)\/y= .map [])/\zQq v=some r
 app_:cls C o= .p->∀r X y,od=some (r,X,y)->(∀x,X=some x->∃n z,x= .tok n z)/\∃n z,y= .tok n z
 wr_:cls C o= .w->∀r X y,od=some (r,X,y)->(∃x,X=some x/\x.mute=false)/\y.mute=false/\∀t,adrT o=some t->zQq (s.env t)=some r
 mp_:cls C o= .m->∀r X y,od=some (r,X,y)->(∃es,X=some (.map es))/\∃es,y= .map es
theorem zHP{o:Oper}{s s1:AState}(h:zAf ops o s s1):∀x∈o.op.operands.toList,s1.ev x=s.ev x:=by
 intro x hx
 cases x with
 |tmp t=>exact h t (List.mem_append_left _ (List.mem_filterMap.2 ⟨.tmp t,hx,rfl⟩))
 |_=>rfl
theorem zKz{o:Oper}{s s1:AState}(h:zAf ops o s s1){t:Nat}{want:Bool}(hg:guardOf ops o=some (some t,want)):s1.env t=s.env t:=by
 refine h t (List.mem_append_right _ ?_)
 unfold guardOf at hg
 cases hgd:o.guard with
 |none=>rw[hgd]at hg;simp at hg
 |some gw=>
  obtain⟨j,wt⟩:=gw
  rw[hgd]at hg
  simp only[Option.map_some,YAM,YAY]at hg
  simp[hg.1]
theorem zGF{o:Oper}(ht:tOp C o=true)(hc:∀c,o.op≠ .call c){s s1:AState}(hev:∀x∈o.op.operands.toList,s1.ev x=s.ev x){out:Out}(h:eff C o s=some out):
 out.s=s/\eff C o s1=some ⟨out.c,out.v,s1⟩:=by
 have hs:zV3 C o=true:=by
  unfold tOp at ht
  unfold zV3
  split at ht<;>simp_all
 by_cases hl:(match o.op with| .call _=>true| .load _ _=>true|_=>false)=true
 ·unfold tOp at ht
  split at ht<;>simp_all
 ·
  have key:∀s2:AState,(∀x∈o.op.operands.toList,s2.ev x=s.ev x)->eff C o s2=(eff C o s).map fun out=>⟨out.c,out.v,s2⟩:=by
   intro s2 hev
   unfold tOp at ht
   split at ht<;>first|contradiction|skip
   case h_1 hop=>simp only[hop,Op.operands,List.forall_mem_cons]at hev;simp only[eff,hop,hev.1];rfl
   case h_2 hop=>simp only[hop,Op.operands,List.forall_mem_cons]at hev;simp only[eff,hop,hev.1];rfl
   case h_3 hop=>
    simp only[hop,Op.operands,List.forall_mem_cons]at hev;simp only[eff,hop,hev.1,hev.2.1,hev.2.2.1]
    split<;>rfl
   case h_4 hop=>
    simp only[hop,Op.operands,List.forall_mem_cons]at hev;simp only[eff,hop,hev.1]
    split<;>rfl
   case h_5 hop=>
    simp only[hop,Op.operands,List.forall_mem_cons]at hev;simp only[eff,hop,hev.1,hev.2.1]
    split
    ·split<;>rfl
    ·rfl
   case h_6 hop=>
    simp only[hop,Op.operands,List.forall_mem_cons]at hev;simp only[eff,hop,hev.1]
    split<;>rfl
   case h_7 hop=>
    simp only[hop,Op.operands,List.forall_mem_cons]at hev;simp only[eff,hop,hev.1]
    split<;>rfl
   case h_8 hop=>
    simp only[hop,Op.operands,List.forall_mem_cons]at hev;simp only[eff,hop,hev.1]
    repeat' (first|rfl|split)
   case h_9 hop=>
    simp only[hop,Op.operands,List.forall_mem_cons]at hev;simp only[eff,hop,hev.1]
    repeat' (first|rfl|split)
   case h_10 hop=>
    simp only[hop,Op.operands,List.forall_mem_cons]at hev;simp only[eff,hop,hev.1,hev.2.1]
    repeat' (first|rfl|split)
   case h_11 hop=>
    simp only[hop,Op.operands,List.forall_mem_cons]at hev;simp only[eff,hop,hev.1,hev.2.1]
    repeat' (first|rfl|split)
   case h_12 t ps hop=>
    have hm:(ps.toList.map fun p=>(p.1,s2.ev p.2))=ps.toList.map fun p=>(p.1,s.ev p.2):=List.map_congr_left fun p hp=>by
     rw[hev p.2 (by simp only[hop,Op.operands];simp only[List.mem_map];exact⟨p,hp,rfl⟩)]
    simp only[eff,hop,hm]
    repeat' (first|rfl|split)
   case h_13 t x lo hi mx hop=>
    have h0:s2.ev x=s.ev x:=hev x (by simp[hop,Op.operands])
    have h1:lo.map s2.ev=lo.map s.ev:=by cases lo with|none=>rfl|some y=>simp[hev y (by simp[hop,Op.operands])]
    have h2:hi.map s2.ev=hi.map s.ev:=by cases hi with|none=>rfl|some y=>simp[hev y (by simp[hop,Op.operands])]
    have h3:mx.map s2.ev=mx.map s.ev:=by cases mx with|none=>rfl|some y=>simp[hev y (by simp[hop,Op.operands])]
    simp only[eff,hop,h0,h1,h2,h3,zF9,zGB]
    repeat' (first|rfl|split)
   case h_14 hop=>
    simp only[hop,Op.operands,List.forall_mem_cons]at hev;simp only[eff,hop,hev.1]
    split<;>rfl
   case h_15 t n ps hop=>
    have hm:(ps.toList.map fun p=>(p.1,s2.ev p.2))=ps.toList.map fun p=>(p.1,s.ev p.2):=List.map_congr_left fun p hp=>by
     rw[hev p.2 (by simp only[hop,Op.operands];simp only[List.mem_map];exact⟨p,hp,rfl⟩)]
    have hi:zLl C o=false:=by simpa using ht
    simp only[eff,hop,hm,hi,YAB,if_false]
    repeat' (first|rfl|split)
   case h_16 hop=>exact absurd hop (hc _)
  refine⟨(zGD hs (s1:=s) ⟨fun _ _=>rfl,fun _ _ h _=>h⟩ h).1,?_⟩
  rw[key s1 hev,h];rfl
end
end Go.Ab
/- Regions whose order the world draws, second part: two steps that do not meet change places. No condition. -/
set_option linter.unusedSimpArgs false
namespace Go.Ab
open Go.RowKit (Below)
section
variable {P : Program} {C : Cfg} {ops : Array Oper}
theorem zEz(o:Oper):(cls C o= .a/\((∃t,o.op= .alloc t)\/(∃t x,o.op= .box t x)\/∃t,o.op= .makeMap t none))\/(cls C o= .w/\∃t a x,o.op= .store t a x)\/
 (∃args ts,o.op= .call {callee:= .builtin .append,args:=args,argTypes:=ts}/\(cls C o= .p/\zLl C o=false\/cls C o= .i/\zLl C o=true))\/
 (((∀t,o.op≠ .alloc t)/\∀t,o.op≠ .makeMap t none)/\(∀t x,o.op≠ .box t x)/\(∀args ts,o.op≠ .call {callee:= .builtin .append,args:=args,argTypes:=ts})/\(cls C o= .t/\tOp C o=true\/cls C o= .q/\zV3 C o=true/\tOp C o=false\/cls C o= .z\/cls C o= .q/\rdOp C o=true\/cls C o= .m/\mwOp C o=true)):=by
 unfold cls
 split
 ·rename_i t hop;exact .inl ⟨rfl,.inl ⟨t,hop⟩⟩
 ·rename_i t x hop;exact .inl ⟨rfl,.inr (.inl ⟨t,x,hop⟩)⟩
 ·rename_i t hop;exact .inl ⟨rfl,.inr (.inr ⟨t,hop⟩)⟩
 ·rename_i t a x hop;exact .inr (.inl ⟨rfl,t,a,x,hop⟩)
 ·rename_i args ts hop
  refine .inr (.inr (.inl ⟨args,ts,hop,?_⟩))
  split
  ·rename_i h;exact .inr ⟨rfl,h⟩
  ·rename_i h;exact .inl ⟨rfl,by simpa using h⟩
 ·rename_i h1 h2 h5 h3 h4
  refine .inr (.inr (.inr ⟨⟨h1,h5⟩,h2,fun args ts h=>h4 _ _ h,?_⟩))
  split
  ·rename_i h;exact .inl ⟨rfl,h⟩
  ·split
   ·rename_i h h';exact .inr (.inl ⟨rfl,h',by simpa using h⟩)
   ·split
    ·rename_i h;exact .inr (.inr (.inr (.inl ⟨rfl,h⟩)))
    ·split
     ·rename_i h;exact .inr (.inr (.inr (.inr ⟨rfl,h⟩)))
     ·exact .inr (.inr (.inl rfl))
theorem zF7{k:Nat}{o:Oper}{s:AState}(h1:(∀t,o.op≠ .alloc t)/\∀t,o.op≠ .makeMap t none)(h2:∀t x,o.op≠ .box t x)(h3:∀args ts,o.op≠ .call {callee:= .builtin .append,args:=args,argTypes:=ts}):effD C k o s=eff C o s:=by
 unfold effD
 split
 ·rename_i t hop;exact absurd hop (h1.1 t)
 ·rename_i t x hop;exact absurd hop (h2 t x)
 ·rename_i t hop;exact absurd hop (h1.2 t)
 ·rename_i args ts hop;exact absurd hop (h3 _ _)
 ·rfl
theorem zF4{t:Nat}{s:AState}{a x:AV}(ha:slOK a=true)(hx:slOK x=true){out:Out}(h:zF2 C false t s a x=some out):
 ∃od:Od,OdAt od s/\out.s=act0 od s/\(∀r X y,od=some (r,X,y)->(∀x,X=some x->∃n z,x= .tok n z)/\∃n z,y= .tok n z)/\
  ∀s1:AState,s1.b=s.b->OdAt od s1->zF2 C false t s1 a x=some ⟨out.c,out.v,act0 od s1⟩:=by
 cases a<;>simp only[slOK,YAB]at ha
 cases x<;>simp only[slOK,YAB]at hx
 rename_i es tk xs tk'
 unfold zF2 at h
 split at h
 case h_2=>cases h
 rename_i e sz by_ ze hty
 split at h
 case h_2=>cases h
 rename_i le xs' cx hle hxs
 simp only[zGG,YAM,YAY]at hxs
 obtain⟨rfl,rfl⟩:=hxs
 simp only at h
 split at h
 ·rename_i r
  split at h
  case h_2=>cases h
  rename_i n size ho
  simp only[YAM]at h
  subst h
  refine⟨some (r,some (.tok n size),.tok (es.length+xs.length) size),?_,rfl,?_,?_⟩
  ·intro r' X y hr;simp only[YAM,YAY]at hr;obtain⟨rfl,rfl,rfl⟩:=hr;exact⟨ho,by simp⟩
  ·intro r' X y hr;simp only[YAM,YAY]at hr;obtain⟨rfl,rfl,rfl⟩:=hr;exact⟨fun x hx=>⟨n,size,by cases hx;rfl⟩,_,_,rfl⟩
  ·intro s1 _ h1
   simp only[zF2,hty,hle,zGG,(h1 _ _ _ rfl).1,act0]
 ·split at h
  ·simp only[YAM]at h
   subst h
   refine⟨none,(fun _ _ _ h=>by cases h),rfl,(fun _ _ _ h=>by cases h),?_⟩
   intro s1 _ _
   simp only[zF2,hty,hle,zGG,act0]
  ·rename_i x0 xs0
   simp only[YAB,if_false,YAM]at h
   subst h
   refine⟨some (s.b+s.L.length,none,.tok (es.length+(x0::xs0).length) le.size),?_,rfl,?_,?_⟩
   ·intro r' X y hr;simp only[YAM,YAY]at hr;obtain⟨rfl,rfl,rfl⟩:=hr;exact⟨zQz s,fun _=>rfl⟩
   ·intro r' X y hr;simp only[YAM,YAY]at hr;obtain⟨rfl,rfl,rfl⟩:=hr;exact⟨fun x hx=>(by cases hx),_,_,rfl⟩
   ·intro s1 _ h1
    have:=(h1 _ _ _ rfl).2 rfl
    simp only[zF2,hty,hle,zGG,act0,YAB,if_false,this]
 ·split at h
  ·simp only[YAM]at h
   subst h
   refine⟨none,(fun _ _ _ h=>by cases h),rfl,(fun _ _ _ h=>by cases h),?_⟩
   intro s1 _ _
   simp only[zF2,hty,hle,zGG,act0]
  ·rename_i x0 xs0
   simp only[YAB,if_false,YAM]at h
   subst h
   refine⟨some (s.b+s.L.length,none,.tok (es.length+(x0::xs0).length) le.size),?_,rfl,?_,?_⟩
   ·intro r' X y hr;simp only[YAM,YAY]at hr;obtain⟨rfl,rfl,rfl⟩:=hr;exact⟨zQz s,fun _=>rfl⟩
   ·intro r' X y hr;simp only[YAM,YAY]at hr;obtain⟨rfl,rfl,rfl⟩:=hr;exact⟨fun x hx=>(by cases hx),_,_,rfl⟩
   ·intro s1 _ h1
    have:=(h1 _ _ _ rfl).2 rfl
    simp only[zF2,hty,hle,zGG,act0,YAB,if_false,this]
 ·cases h
theorem zF3{t:Nat}{s:AState}{inpl:Bool}{r ver len:Nat}{x:AV}(hx:slOK x=true){out:Out}(h:zF2 C inpl t s (.ms r ver len) x=some out):
 ∃X y,s.obj r=some X/\out.s=s.setObj r y/\∀s1:AState,s1.b=s.b->s1.obj r=some X->zF2 C inpl t s1 (.ms r ver len) x=some ⟨out.c,out.v,s1.setObj r y⟩:=by
 cases x<;>simp only[slOK,YAB]at hx
 rename_i xs tk'
 unfold zF2 at h
 split at h
 case h_2=>cases h
 rename_i e sz by_ ze hty
 simp only[zGG]at h
 split at h
 case h_2=>cases h
 rename_i le xs' cx hle hxs
 simp only[YAM,YAY]at hxs
 obtain⟨rfl,rfl⟩:=hxs
 split at h
 case h_2=>cases h
 rename_i v' size es ho
 simp only[YAM]at h
 subst h
 refine⟨.arr v' size es,.arr (ver+1) size (es.take len++xs),ho,rfl,fun s1 hb h1=> ?_⟩
 unfold zF2
 rw[hty]
 simp only[zGG,hle,h1,hb]
def YlX(P:Program)(C:Cfg)(k:Nat)(o:Oper)(s s':AState)(od:Od)(v:AV):Prop:=
 OdAt od s/\s'=act od o.dst v s/\
 (∀s1:AState,s1.b=s.b->(∀x∈o.op.operands.toList,s1.ev x=s.ev x)->OdAt od s1->(cls C o= .q\/cls C o= .m->RdAg o s s1)->xopD P C k o (· =act od o.dst v s1) s1)/\
 (cls C o= .t\/cls C o= .q->od=none)/\(cls C o= .a->∀r X y,od=some (r,X,y)->X=some .dead/\((∃cs,y= .box cs)\/y= .map [])/\zQq v=some r)/\
 (cls C o= .p->∀r X y,od=some (r,X,y)->(∀x,X=some x->∃n z,x= .tok n z)/\∃n z,y= .tok n z)/\
 (cls C o= .w->∀r X y,od=some (r,X,y)->(∃x,X=some x/\x.mute=false)/\y.mute=false/\∀t,adrT o=some t->zQq (s.env t)=some r)/\
 (cls C o= .m->∀r X y,od=some (r,X,y)->(∃es,X=some (.map es))/\∃es,y= .map es)
theorem zTQ{o:Oper}{f:Operand}{args:Array Operand}{ts:Array Nat}(hop:o.op= .call {callee:= .value f,args:=args,argTypes:=ts})(h:rdF C f=true):cls C o= .q:=by
 cases f with
 |func g=>
  simp only[rdF]at h
  simp[cls,hop,tOp,zV3,rdOp,rdF,h]
 |_=>simp[rdF]at h
theorem zPg{o:Oper}{f:Operand}{args:Array Operand}{ts:Array Nat}(hop:o.op= .call {callee:= .value f,args:=args,argTypes:=ts})(h:mwF C f=true):cls C o= .m:=by
 cases f with
 |func g=>
  simp only[mwF,YAA,YAD]at h
  simp[cls,hop,tOp,zV3,rdOp,rdF,mwOp,mwF,h]
 |_=>simp[mwF]at h
theorem zb0{o:Oper}{f:Operand}{args:Array Operand}{ts:Array Nat}(hop:o.op= .call {callee:= .value f,args:=args,argTypes:=ts})(h:zwF C f=true):cls C o= .z:=by
 cases f with
 |func g=>
  simp only[zwF,YAA,YAD]at h
  simp[cls,hop,tOp,zV3,rdOp,rdF,mwOp,mwF,h]
 |_=>simp[zwF]at h
theorem zQ2(s:AState):OdAt none s:=by intro _ _ _ h;cases h
theorem zQ3{s:AState}{r:Nat}{X y:AObj}(h:s.obj r=some X):OdAt (some (r,some X,y)) s:=by
 intro r' X' y' hr;simp only[YAM,YAY]at hr;obtain⟨rfl,rfl,rfl⟩:=hr;exact⟨h,by simp⟩
theorem zbf{k:Nat}{o:Oper}{s s':AState}(hz:cls C o≠ .z)(h:xopD P C k o (· =s') s):∃od v,YlX P C k o s s' od v:=by
 by_cases hcall:∃f args ts,o.op= .call {callee:= .value f,args:=args,argTypes:=ts}
 ·obtain⟨f,args,ts,hop⟩:=hcall
  unfold xopD at h
  simp only[hop]at h
  split at h
  case h_2=>cases h
  rename_i g hg
  have hmap:∀s1:AState,(∀x∈o.op.operands.toList,s1.ev x=s.ev x)->args.toList.map s1.ev=args.toList.map s.ev:=fun s1 hev=>
   List.map_congr_left fun p hp=>hev p (by simp only[hop,Op.operands,Call.operands];simp at hp⊢;exact .inr hp)
  have hevf:∀s1:AState,(∀x∈o.op.operands.toList,s1.ev x=s.ev x)->s1.ev f= .fn g:=fun s1 hev=>by
   rw[hev f (by simp[hop,Op.operands,Call.operands]),hg]
  have hadr:adrT o=none:=by simp[adrT,hop]
  obtain⟨r,as,h2,⟨h1,h3⟩|⟨h0,h1,h3⟩|⟨h0,m,es,h1,h3⟩|⟨h0,_⟩⟩:=h
  rotate_left 3
  ·exact absurd (zb0 hop h0) hz
  ·refine⟨none,r,⟨zQ2 s,h3.symm,?_,fun _=>rfl,fun _ _ _ _ h=>(by cases h),fun _ _ _ _ h=>(by cases h),fun _ _ _ _ h=>(by cases h),fun _ _ _ _ h=>(by cases h)⟩⟩
   intro s1 _ hev _ _
   unfold xopD
   simp only[hop]
   rw[hevf s1 hev]
   exact⟨r,as,by rw[hmap s1 hev];exact h2,.inl ⟨h1,rfl⟩⟩
  ·refine⟨none,r,⟨zQ2 s,h3.symm,?_,fun _=>rfl,fun _ _ _ _ h=>(by cases h),fun _ _ _ _ h=>(by cases h),fun _ _ _ _ h=>(by cases h),fun _ _ _ _ h=>(by cases h)⟩⟩
   intro s1 _ hev _ hrd
   have hrd:=hrd (.inl (zTQ hop h0))
   unfold xopD
   simp only[hop]
   rw[hevf s1 hev]
   exact⟨r,as,by rw[hmap s1 hev];exact h2,.inr (.inl ⟨h0,fun F hF=>h1 F fun q x hq hm=>hF q x (hrd q x (fun t ht=>by rw[hadr]at ht;cases ht) hq hm (fun ht=>by rw[hadr]at ht;cases ht)) hm,rfl⟩)⟩
  ·obtain⟨⟨es0,hm0⟩,hbel,hcalls⟩:=h1
   have hcm:=zPg hop h0
   refine⟨some (m,some (.map es0),.map es),r,⟨zQ3 hm0,h3.symm,?_,by rw[hcm];simp,by rw[hcm];simp,by rw[hcm];simp,by rw[hcm];simp,fun _ r' X y hr=> ?_⟩⟩
   ·intro s1 _ hev hod hrd
    have hrd:=hrd (.inr hcm)
    unfold xopD
    simp only[hop]
    rw[hevf s1 hev]
    exact⟨r,as,by rw[hmap s1 hev];exact h2,.inr (.inr (.inl ⟨h0,m,es,⟨⟨es0,(hod _ _ _ rfl).1⟩,hbel,fun F hF=>hcalls F fun q x hq hm=>hF q x (hrd q x (fun t ht=>by rw[hadr]at ht;cases ht) hq hm (fun ht=>by rw[hadr]at ht;cases ht)) hm⟩,rfl⟩))⟩
   ·simp only[YAM,YAY]at hr;obtain⟨rfl,rfl,rfl⟩:=hr;exact⟨⟨_,rfl⟩,_,rfl⟩
 ·have hx:∀(k:Nat) (K:AState->Prop) (s:AState),xopD P C k o K s=match effD C k o s with
   |some ⟨c,v,s'⟩=>c/\K (s'.put o.dst v)
   |none=>False:=by
   intro k K s
   unfold xopD
   split
   ·rename_i f args ts hop;exact absurd ⟨f,args,ts,hop⟩ hcall
   ·rfl
  rw[hx]at h
  split at h
  case h_2=>cases h
  rename_i c v s0 heff
  obtain⟨hc,rfl⟩:=h
  rcases zEz (C:=C) o with ⟨hcl,hh|hh|hh⟩|⟨hcl,hh⟩|⟨args,ts,hop,hh⟩|⟨hna,hnb,hnp,hh⟩
  ·obtain⟨t,hop⟩:=hh
   simp only[effD,hop]at heff
   split at heff
   case h_2=>cases heff
   rename_i l hT ho
   simp only[YAM,Out.mk.injEq]at heff
   obtain⟨rfl,rfl,rfl⟩:=heff
   refine⟨some (k,some .dead,.box (cellsOf l.zero)),_,⟨zQ3 ho,rfl,?_,by simp[hcl],?_,by simp[hcl],by simp[hcl],by simp[hcl]⟩⟩
   ·intro s1 hb _ hobj _
    rw[hx]
    simp only[effD,hop,hT,(hobj _ _ _ rfl).1]
    exact⟨by rw[hb];exact hc,rfl⟩
   ·intro _ r X y hr;simp only[YAM,YAY]at hr;obtain⟨rfl,rfl,rfl⟩:=hr;exact⟨rfl,.inl ⟨_,rfl⟩,rfl⟩
  ·obtain⟨t,x,hop⟩:=hh
   simp only[effD,hop]at heff
   split at heff
   case h_2=>cases heff
   rename_i ho
   simp only[YAM,Out.mk.injEq]at heff
   obtain⟨rfl,rfl,rfl⟩:=heff
   refine⟨some (k,some .dead,.box (cellsOf (s.ev x))),_,⟨zQ3 ho,rfl,?_,by simp[hcl],?_,by simp[hcl],by simp[hcl],by simp[hcl]⟩⟩
   ·intro s1 hb hev hobj _
    rw[hx]
    have:=hev x (by simp[hop,Op.operands])
    simp only[effD,hop,(hobj _ _ _ rfl).1,this]
    exact⟨by rw[hb];exact hc,rfl⟩
   ·intro _ r X y hr;simp only[YAM,YAY]at hr;obtain⟨rfl,rfl,rfl⟩:=hr;exact⟨rfl,.inl ⟨_,rfl⟩,rfl⟩
  ·obtain⟨t,hop⟩:=hh
   simp only[effD,hop]at heff
   split at heff
   case h_2=>cases heff
   rename_i ho
   simp only[YAM,Out.mk.injEq]at heff
   obtain⟨rfl,rfl,rfl⟩:=heff
   refine⟨some (k,some .dead,.map []),_,⟨zQ3 ho,rfl,?_,by simp[hcl],?_,by simp[hcl],by simp[hcl],by simp[hcl]⟩⟩
   ·intro s1 hb _ hobj _
    rw[hx]
    simp only[effD,hop,(hobj _ _ _ rfl).1]
    exact⟨by rw[hb];exact hc,rfl⟩
   ·intro _ r X y hr;simp only[YAM,YAY]at hr;obtain⟨rfl,rfl,rfl⟩:=hr;exact⟨rfl,.inr rfl,rfl⟩
  ·obtain⟨t,p,x,hop⟩:=hh
   rw[zF7 (by simp[hop]) (by simp[hop]) (by simp[hop])]at heff
   have hx1:∀(K:AState->Prop) (s:AState),xopD P C k o K s=match eff C o s with
    |some ⟨c,v,s'⟩=>c/\K (s'.put o.dst v)
    |none=>False:=fun K s=>by rw[hx,zF7 (by simp[hop]) (by simp[hop]) (by simp[hop])]
   have hadr:∀ {r:Nat},zQq (s.ev p)=some r->∀t,adrT o=some t->zQq (s.env t)=some r:=by
    intro r hr t' ht'
    unfold adrT at ht'
    rw[hop]at ht'
    split at ht'<;>simp_all [AState.ev]
   simp only[eff,hop]at heff
   split at heff
   case h_2=>cases heff
   rename_i l hT
   split at heff
   case h_3=>cases heff
   ·rename_i r off hev
    split at heff
    case h_2=>cases heff
    rename_i cs ho
    simp only[YAM,Out.mk.injEq]at heff
    obtain⟨rfl,rfl,rfl⟩:=heff
    refine⟨some (r,some (.box cs),.box (zVf cs off (cellsOf (s.ev x)))),_,⟨zQ3 ho,rfl,?_,by simp[hcl],by simp[hcl],by simp[hcl],?_,by simp[hcl]⟩⟩
    ·intro s1 hb hev1 hobj _
     have e1:=hev1 p (by simp[hop,Op.operands])
     have e2:=hev1 x (by simp[hop,Op.operands])
     rw[hx1]
     simp only[eff,hop,hT,e1,e2,hev,(hobj _ _ _ rfl).1]
     exact⟨by rw[hb];exact hc,rfl⟩
    ·intro _ r' X y hr;simp only[YAM,YAY]at hr;obtain⟨rfl,rfl,rfl⟩:=hr
     exact⟨⟨_,rfl,rfl⟩,rfl,hadr (by rw[hev];rfl)⟩
   ·rename_i r ver size i off hev
    split at heff
    case h_2=>cases heff
    rename_i v' sz es ho
    simp only[YAM,Out.mk.injEq]at heff
    obtain⟨rfl,rfl,rfl⟩:=heff
    refine⟨some (r,some (.arr v' sz es),.arr v' sz (es.set i (zTS (es.getD i .any) (zVf (cellsOf (es.getD i .any)) off (cellsOf (s.ev x)))))),_,⟨zQ3 ho,rfl,?_,by simp[hcl],by simp[hcl],by simp[hcl],?_,by simp[hcl]⟩⟩
    ·intro s1 hb hev1 hobj _
     have e1:=hev1 p (by simp[hop,Op.operands])
     have e2:=hev1 x (by simp[hop,Op.operands])
     rw[hx1]
     simp only[eff,hop,hT,e1,e2,hev,(hobj _ _ _ rfl).1]
     exact⟨by rw[hb];exact hc,rfl⟩
    ·intro _ r' X y hr;simp only[YAM,YAY]at hr;obtain⟨rfl,rfl,rfl⟩:=hr
     exact⟨⟨_,rfl,rfl⟩,rfl,hadr (by rw[hev];rfl)⟩
  ·rcases hh with ⟨hcl,hin⟩|⟨hcl,hin⟩
   rotate_left
   ·simp only[effD,hop]at heff
    split at heff
    case isFalse=>cases heff
    rename_i hall
    have hall0:=hall
    simp only[zCQ,hin,if_true]at hall
    split at hall
    case h_2=>cases hall
    rename_i pa px hargs
    simp only[YAA]at hall
    obtain⟨r,ver,len,hms⟩:∃r ver len,s.ev pa= .ms r ver len:=by
     revert hall;cases s.ev pa<;>simp[isMs]
    simp only[eff,hop,hin,hargs,List.map_cons,List.map_nil,hms]at heff
    unfold zF5 at heff
    split at heff<;>first|contradiction|skip
    all_goals first|(rename_i has;simp at has;done)|skip
    rename_i t t' a x _ hts has
    simp only[List.cons.injEq,and_true]at has
    obtain⟨rfl,rfl⟩:=has
    split at heff
    case isFalse=>cases heff
    rename_i htt
    obtain⟨X,y,g1,g2,g3⟩:=zF3 hall.2 heff
    simp only at g2
    refine⟨some (r,some X,y),v,⟨zQ3 g1,by rw[g2];rfl,?_,by rw[hcl];simp,by rw[hcl];simp,by rw[hcl];simp,by rw[hcl];simp,by rw[hcl];simp⟩⟩
    intro s1 hb hev hobj _
    have m1:=hev pa (by simp[hop,Op.operands,Call.operands,hargs])
    have m2:=hev px (by simp[hop,Op.operands,Call.operands,hargs])
    rw[hx]
    have hall1:zCQ C o s1 args=true:=by
     simp only[zCQ,hin,if_true,hargs,m1,m2,hall.1,hall.2,Bool.and_self]
    simp only[effD,hop,hall1,if_true,eff,hin,hargs,List.map_cons,List.map_nil,m1,m2,hms]
    rw[show ts.toList=[t,t']from hts]
    simp only[zF5,if_pos htt]
    rw[g3 s1 hb (hobj _ _ _ rfl).1]
    exact⟨hc,rfl⟩
   simp only[effD,hop]at heff
   split at heff
   case isFalse=>cases heff
   rename_i hall
   simp only[zCQ,hin,YAB,if_false]at hall
   simp only[eff,hop,hin]at heff
   unfold zF5 at heff
   split at heff<;>first|contradiction|skip
   rename_i t t' a x _ hts has
   split at heff
   case isFalse=>cases heff
   rename_i htt
   have hmap:args.toList.map s.ev=[a,x]:=has
   have hsl:slOK a=true/\slOK x=true:=by
    have h1:∀p∈args.toList.map s.ev,slOK p=true:=by
     intro p hp
     obtain⟨q,hq,rfl⟩:=List.mem_map.1 hp
     exact List.all_eq_true.1 hall q hq
    rw[hmap]at h1
    exact⟨h1 _ (by simp),h1 _ (by simp)⟩
   obtain⟨od,g1,g2,g3,g4⟩:=zF4 hsl.1 hsl.2 heff
   simp only at g2
   refine⟨od,v,⟨g1,by rw[g2];rfl,?_,by simp[hcl],by simp[hcl],fun _=>g3,by simp[hcl],by simp[hcl]⟩⟩
   intro s1 hb hev hobj _
   have hm:args.toList.map s1.ev=args.toList.map s.ev:=List.map_congr_left fun p hp=>hev p (by simp only[hop,Op.operands,Call.operands];simpa using hp)
   have hall1:(args.toList.all fun p=>slOK (s1.ev p))=true:=by
    rw[List.all_eq_true]at hall⊢
    intro p hp
    have:=hall p hp
    rw[hev p (by simp only[hop,Op.operands,Call.operands];simpa using hp)];exact this
   rw[hx]
   have hall2:zCQ C o s1 args=true:=by simp only[zCQ,hin,YAB,if_false];exact hall1
   simp only[effD,hop,hall2,if_true,eff,hin,hm,hmap]
   rw[show ts.toList=[t,t']from hts]
   simp only[zF5,if_pos htt]
   rw[g4 s1 hb hobj]
   exact⟨hc,rfl⟩
  ·rw[zF7 hna hnb hnp]at heff
   have hx1:∀(K:AState->Prop) (s:AState),xopD P C k o K s=match eff C o s with
    |some ⟨c,v,s'⟩=>c/\K (s'.put o.dst v)
    |none=>False:=fun K s=>by rw[hx,zF7 hna hnb hnp]
   rcases hh with ⟨hcl,ht⟩|⟨hcl,hs,_⟩|hh|⟨_,hh⟩|⟨_,hh⟩
   ·have hnc:∀c,o.op≠ .call c:=by
     intro c hop
     unfold tOp at ht
     rw[hop]at ht
     split at ht<;>simp_all
    have h0:=zGF ht hnc (s:=s) (s1:=s) (fun _ _=>rfl) heff
    obtain⟨h0,_⟩:=h0
    simp only at h0;subst h0
    refine⟨none,v,⟨zQ2 _,rfl,?_,fun _=>rfl,by simp[hcl],by simp[hcl],by simp[hcl],by simp[hcl]⟩⟩
    intro s1 _ hev _ _
    rw[hx1,(zGF ht hnc (s:=s0) (s1:=s1) hev heff).2]
    exact⟨hc,rfl⟩
   ·have h0:=zGD hs (s:=s) (s1:=s) ⟨fun _ _=>rfl,fun _ _ h _=>h⟩ heff
    obtain⟨h0,_⟩:=h0
    simp only at h0;subst h0
    refine⟨none,v,⟨zQ2 _,rfl,?_,fun _=>rfl,by simp[hcl],by simp[hcl],by simp[hcl],by simp[hcl]⟩⟩
    intro s1 _ hev _ hob
    have hob:=hob (.inl hcl)
    have key:eff C o s1=some ⟨c,v,s1⟩:=by
     by_cases had:∃t,adrT o=some t
     ·obtain⟨ta,hta⟩:=had
      unfold adrT at hta
      split at hta
      ·rename_i t t0 hop
       cases hta
       have e1:=hev (.tmp ta) (by simp[hop,Op.operands])
       simp only[eff,hop]at heff⊢
       split at heff
       case h_2=>cases heff
       rename_i l cs off cc hT hcs
       have:=zEO (s1:=s1) (fun r x hr ho hm hmp=>hob r x (fun t' ht'=>by simp only[adrT,hop,YAM]at ht';subst ht';exact hr) ho hm fun _=>hmp) hcs
       rw[e1,hT,this]
       simp only[YAM,Out.mk.injEq]at heff⊢
       exact⟨heff.1,heff.2.1,trivial⟩
      ·rename_i hop;simp[zV3,hop]at hs
      ·cases hta
     ·exact(zGD hs (s:=s0) (s1:=s1) ⟨hev,fun r x ho hm=>hob r x (fun t ht=>absurd ⟨t,ht⟩ had) ho hm fun hs=>absurd (Option.isSome_iff_exists.1 hs) had⟩ heff).2
    rw[hx1,key]
    exact⟨hc,rfl⟩
   ·exact absurd hh hz
   ·exfalso;unfold rdOp at hh;split at hh
    ·rename_i f args ts hop;exact hcall ⟨f,args,ts,hop⟩
    ·cases hh
   ·exfalso;unfold mwOp at hh;split at hh
    ·rename_i f args ts hop;exact hcall ⟨f,args,ts,hop⟩
    ·cases hh
theorem zXV{k:Nat}{o:Oper}{s s':AState}(hz:cls C o≠ .z)(h:St P C ops k o s s'):∃od v,Yl P C ops k o s s' od v:=by
 have lift:∀ {od v},YlX P C k o s s' od v->(∀s1,zAf ops o s s1->xopD P C k o (· =act od o.dst v s1) s1->St P C ops k o s1 (act od o.dst v s1))->Yl P C ops k o s s' od v:=
  fun hy hg=>⟨hy.1,hy.2.1,fun s1 hb he ho hq=>hg s1 he (hy.2.2.1 s1 hb (zHP he) ho hq),hy.2.2.2.1,hy.2.2.2.2.1,hy.2.2.2.2.2.1,hy.2.2.2.2.2.2.1,hy.2.2.2.2.2.2.2⟩
 unfold St zbZ at h
 split at h
 ·rename_i hg
  obtain⟨od,v,hy⟩:=zbf hz h
  exact⟨od,v,lift hy fun s1 he hx=>by unfold St zbZ;rw[hg];exact hx⟩
 ·rename_i t want hg
  split at h
  case h_3=>cases h
  ·rename_i b hb
   split at h
   ·rename_i hw
    obtain⟨od,v,hy⟩:=zbf hz h
    exact⟨od,v,lift hy fun s1 he hx=>by unfold St zbZ;rw[hg];simp only[zKz he hg,hb,if_pos hw];exact hx⟩
   ·rename_i hw
    refine⟨none,.tup [],⟨zQ2 s,h.symm,fun s1 hb1 he _ _=> ?_,fun _=>rfl,by simp,by simp,by simp,by simp⟩⟩
    unfold St zbZ
    rw[hg]
    simp only[zKz he hg,hb,if_neg hw]
    rfl
  ·rename_i hb
   refine⟨none,.tup [],⟨zQ2 s,h.symm,fun s1 hb1 he _ _=> ?_,fun _=>rfl,by simp,by simp,by simp,by simp⟩⟩
   unfold St zbZ
   rw[hg]
   simp only[zKz he hg,hb]
   rfl
 ·cases h
theorem zSw(s:AState)(d:Option Tmp)(v:AV):(s.put d v).b=s.b:=by cases d<;>rfl
theorem zS5(s:AState)(d:Option Tmp)(v:AV):(s.put d v).n=s.n:=by cases d<;>rfl
theorem zSu(s:AState)(d:Option Tmp)(v:AV):(s.put d v).H=s.H:=by cases d<;>rfl
theorem zSv(s:AState)(d:Option Tmp)(v:AV):(s.put d v).L=s.L:=by cases d<;>rfl
theorem zS7(s:AState)(d:Option Tmp)(v:AV):(s.put d v).obj=s.obj:=by cases d<;>rfl
theorem zS6(s:AState)(d:Option Tmp)(v:AV)(x:AObj):(s.put d v).new x=(s.new x).put d v:=by cases d<;>rfl
theorem zS0(s:AState){d:Option Tmp}(v:AV){t:Nat}(h:∀e,d=some e->e≠t):(s.put d v).env t=s.env t:=by
 cases d with
 |none=>rfl
 |some d=>simp only[AState.put,zaL];exact if_neg fun e=>h d rfl e.symm
theorem zVa(s:AState)(r:Nat)(x:AObj):(s.setObj r x).H.length=s.H.length:=by unfold AState.setObj;split<;>simp
theorem zVb(s:AState)(r:Nat)(x:AObj):(s.setObj r x).L.length=s.L.length:=by unfold AState.setObj;split<;>simp
theorem zBX(od:Od)(s:AState):(act0 od s).b=s.b:=by
 unfold act0;split
 ·rfl
 ·rfl
 ·exact zVX _ _ _
theorem zBZ(od:Od)(s:AState):(act0 od s).env=s.env:=by
 unfold act0;split
 ·rfl
 ·rfl
 ·exact zVZ _ _ _
theorem zBa(od:Od)(s:AState):(act0 od s).H.length=s.H.length:=by
 unfold act0;split
 ·rfl
 ·rfl
 ·exact zVa _ _ _
theorem zBc(od:Od)(d:Option Tmp)(v:AV)(s:AState):(act od d v s).b=s.b:=by unfold act;rw[zSw,zBX]
theorem zBf(od:Od){d:Option Tmp}(v:AV)(s:AState){t:Nat}(h:∀e,d=some e->e≠t):(act od d v s).env t=s.env t:=by
 unfold act;rw[zS0 _ _ h,zBZ]
theorem zBg(od:Od)(d:Option Tmp)(v:AV)(s:AState):(act od d v s).H.length=s.H.length:=by unfold act;rw[zSu,zBa]
theorem zVY(s:AState){r q:Nat}(x y:AObj)(h:r≠q):(s.setObj r x).setObj q y=(s.setObj q y).setObj r x:=by
 unfold AState.setObj
 by_cases h1:r<s.b<;>by_cases h2:q<s.b<;>simp only[h1,h2,if_true,if_false]
 ·rw[List.set_comm _ _ h]
 ·have:r-s.b≠q-s.b:=by omega
  rw[List.set_comm _ _ this]
theorem zQx{s:AState}(hb:s.b=s.H.length){r:Nat}{X:AObj}(h:s.obj r=some X):r<s.b+s.L.length:=by
 unfold AState.obj at h
 split at h
 ·omega
 ·have:=(YAS.1 h).1;omega
theorem zQG{s:AState}(hb:s.b=s.H.length){r:Nat}{X:AObj}(h:s.obj r=some X)(x y:AObj):(s.new x).setObj r y=(s.setObj r y).new x:=by
 have hlt:=zQx hb h
 unfold AState.setObj AState.new
 by_cases h1:r<s.b
 ·simp only[h1,if_true]
 ·simp only[h1,if_false]
  rw[List.set_append_left _ _ (by omega)]
theorem zTA(s:AState){d e:Option Tmp}(v u:AV)(h:∀t,d=some t->e≠some t):(s.put d v).put e u=(s.put e u).put d v:=by
 cases d with
 |none=>cases e<;>rfl
 |some d=>
  cases e with
  |none=>rfl
  |some e=>
   have hde:d≠e:=fun hh=>h d rfl (by rw[hh])
   simp only[AState.put]
   congr 1
   funext t
   simp only[zaL]
   by_cases h1:t=d
   ·subst h1;simp[hde]
   ·simp[h1]
theorem zTB(s:AState)(d:Option Tmp)(v:AV)(r:Nat)(x:AObj):(s.put d v).setObj r x=(s.setObj r x).put d v:=by
 cases d with
 |none=>rfl
 |some d=>unfold AState.setObj AState.put;simp only;split<;>rfl
theorem zBb(od:Od)(s:AState)(d:Option Tmp)(v:AV):act0 od (s.put d v)=(act0 od s).put d v:=by
 unfold act0;split
 ·rfl
 ·exact zS6 _ _ _ _
 ·exact zTB _ _ _ _ _
theorem zBY{od oe:Od}{s:AState}(hb:s.b=s.H.length)(h1:OdAt od s)(h2:∀r X y,oe=some (r,X,y)->s.obj r=X)
 (ho:∀r X y q Z z,od=some (r,X,y)->oe=some (q,Z,z)->r≠q) (hn:∀r y q z,od=some (r,none,y)->oe=some (q,none,z)->False):act0 oe (act0 od s)=act0 od (act0 oe s):=by
 match od,oe with
 |none,_=>rfl
 |some _,none=>rfl
 |some (r,none,y),some (q,none,z)=>exact(hn _ _ _ _ rfl rfl).elim
 |some (r,none,y),some (q,some Z,z)=>exact zQG hb (h2 _ _ _ rfl) y z
 |some (r,some X,y),some (q,none,z)=>exact(zQG hb (h1 _ _ _ rfl).1 z y).symm
 |some (r,some X,y),some (q,some Z,z)=>exact zVY s y z (ho _ _ _ _ _ _ rfl rfl)
theorem zBd{od oe:Od}{d e:Option Tmp}(v u:AV){s:AState}(hb:s.b=s.H.length)(h:∀t,d=some t->e≠some t)(h1:OdAt od s)(h2:∀r X y,oe=some (r,X,y)->s.obj r=X)
 (ho:∀r X y q Z z,od=some (r,X,y)->oe=some (q,Z,z)->r≠q) (hn:∀r y q z,od=some (r,none,y)->oe=some (q,none,z)->False):act oe e u (act od d v s)=act od d v (act oe e u s):=by
 unfold act
 rw[zBb,zBb,zBY hb h1 h2 ho hn]
 exact zTA _ v u h
theorem zBi{od:Od}{d:Option Tmp}{v:AV}{s:AState}(hb:s.b=s.H.length)(h:OdAt od s){r:Nat}{X:Option AObj}{y:AObj}(hr:od=some (r,X,y)):(act od d v s).obj=fun q=>if q=r then some y else s.obj q:=by
 subst hr
 unfold act
 rw[zS7]
 cases X with
 |none=>
  have:=(h _ _ _ rfl).2 rfl
  subst this
  exact zQy s y
 |some X=>exact zQ0 hb (h _ _ _ rfl).1
theorem zBj{d:Option Tmp}{v:AV}{s:AState}:(act none d v s).obj=s.obj:=by unfold act;rw[zS7];rfl
theorem zBh{od:Od}{d:Option Tmp}{v:AV}{s:AState}(h:∀r y,od≠some (r,none,y)):(act od d v s).L.length=s.L.length:=by
 unfold act;rw[zSv]
 match od,h with
 |none,_=>rfl
 |some (r,none,y),h=>exact absurd rfl (h r y)
 |some (r,some X,y),_=>exact zVb _ _ _
def NoRd(o:Oper)(s:AState)(r:Nat)(x:Option AObj):Prop:=(∀y,x=some y->y.mute=true)\/(∃t,adrT o=some t/\zQq (s.env t)≠some r)\/((adrT o).isSome=true/\∃es,x=some (.map es))
theorem swap{kx ky:Nat}{x y:Oper}{s s1 s2:AState}{ox oy:Od}{vx vy:AV}(hb:s.b=s.H.length)(hap:x.apart ops y=true)(hx:Yl P C ops kx x s s1 ox vx)(hy:Yl P C ops ky y s1 s2 oy vy)
 (hne:∀r X y' q Z z,ox=some (r,X,y')->oy=some (q,Z,z)->r≠q) (hnn:∀r y q z,ox=some (r,none,y)->oy=some (q,none,z)->False)
 (hq1:cls C y= .q\/cls C y= .m->∀r X y',ox=some (r,X,y')->NoRd y s1 r (some y')) (hq2:cls C x= .q\/cls C x= .m->∀r X y',oy=some (r,X,y')->NoRd x s r X):
 ∃s1',St P C ops ky y s s1'/\St P C ops kx x s1' s2:=by
 obtain⟨a1,a2,a3⟩:=Oper.apart_spec hap
 have hd1:∀(t:Nat),t∈y.looksAt ops->∀e,x.dst=some e->e≠t:=fun t ht e he hh=>a1 e he (hh▸ht)
 have hd2:∀(t:Nat),t∈x.looksAt ops->∀e,y.dst=some e->e≠t:=fun t ht e he hh=>a3 e he (hh▸ht)
 have hs1obj:∀r X y',ox=some (r,X,y')->s1.obj=fun q=>if q=r then some y' else s.obj q:=by
  intro r X y' hr
  rw[hx.to];exact zBi hb hx.at_ hr
 have hs1none:ox=none->s1.obj=s.obj:=fun hn=>by rw[hx.to,hn];exact zBj
 have hy1:OdAt oy s:=by
  intro r X y' hr
  have e1:=(hy.at_ _ _ _ hr).1
  have e2:=(hy.at_ _ _ _ hr).2
  refine⟨?_,fun hX=> ?_⟩
  ·cases hox:ox with
   |none=>rw[hs1none hox]at e1;exact e1
   |some q=>
    obtain⟨q,Z,z⟩:=q
    rw[hs1obj _ _ _ hox]at e1
    simpa [Ne.symm (hne _ _ _ _ _ _ hox hr)]using e1
  ·have h3:=e2 hX
   have h4:s1.L.length=s.L.length:=by
    rw[hx.to];refine zBh fun r' y'' hr'=> ?_
    subst hX;exact hnn _ _ _ _ hr' hr
   have h5:s1.b=s.b:=by rw[hx.to,zBc]
   rw[h3,h4,h5]
 have hstep1:St P C ops ky y s (act oy y.dst vy s):=by
  refine hy.stab s ?_ ?_ hy1 ?_
  ·rw[hx.to,zBc]
  ·intro t ht;rw[hx.to,zBf _ _ _ (hd1 t ht)]
  ·intro hcy r X hrd hr hm hmp
   cases hox:ox with
   |none=>rw[hs1none hox]at hr;exact hr
   |some q=>
    obtain⟨q,Z,z⟩:=q
    rw[hs1obj _ _ _ hox]at hr
    by_cases hrq:r=q
    ·subst hrq
     simp only[if_true,YAM]at hr
     subst hr
     rcases hq1 hcy _ _ _ hox with h|⟨t,h1,h2⟩|⟨h1,es,h2⟩
     ·rw[h _ rfl]at hm;cases hm
     ·exact absurd (hrd t h1) h2
     ·have:=hmp h1;rw[Option.some.inj h2]at this;cases this
    ·simpa [hrq]using hr
 have hs1'obj:∀r X y',oy=some (r,X,y')->(act oy y.dst vy s).obj=fun q=>if q=r then some y' else s.obj q:=fun r X y' hr=>zBi hb hy1 hr
 have hstep2:=hx.stab (act oy y.dst vy s) (zBc _ _ _ _) (fun t ht=>zBf _ _ _ (hd2 t ht)) (by
  intro r X y' hr
  have e1:=hx.at_ _ _ _ hr
  refine⟨?_,fun hX=> ?_⟩
  ·cases hoy:oy with
   |none=>rw[zBj];exact e1.1
   |some q=>
    obtain⟨q,Z,z⟩:=q
    rw[<-hoy,hs1'obj _ _ _ hoy]
    simp only[hne _ _ _ _ _ _ hr hoy,if_false]
    exact e1.1
  ·have h4:(act oy y.dst vy s).L.length=s.L.length:=by
    refine zBh fun r' y'' hr'=> ?_
    subst hX;exact hnn _ _ _ _ hr hr'
   rw[h4,zBc];exact e1.2 hX) (by
  intro hcx
  cases hoy:oy with
  |none=>intro r X _ hr _ _;rw[zBj];exact hr
  |some q=>
   obtain⟨q,Z,z⟩:=q
   intro r X hrd hr hm hmp
   rw[<-hoy,hs1'obj _ _ _ hoy]
   have:r≠q:=by
    intro hh;subst hh
    have h7:=(hy1 _ _ _ hoy).1
    rw[hr]at h7
    rcases hq2 hcx _ _ _ hoy with h|⟨t,h1,h2⟩|⟨h1,es,h2⟩
    ·rw[h X h7.symm]at hm;cases hm
    ·exact absurd (hrd t h1) h2
    ·have:=hmp h1;rw[h2]at h7;rw[Option.some.inj h7]at this;cases this
   simp only[this,if_false];exact hr)
 refine⟨_,hstep1,?_⟩
 have:=zBd vx vy hb a2 hx.at_ (fun r X y hr=>(hy1 r X y hr).1) hne hnn
 rw[<-hx.to,<-hy.to]at this
 rw[this]
 exact hstep2
end
end Go.Ab
/- Regions whose order the world draws, third part: every order ends where the text's does. Condition: the executor's table of types is the program's. -/
set_option linter.unusedSimpArgs false
namespace Go.Ab
open Go.RowKit (Below)
section
variable {P : Program} {C : Cfg} {ops : Array Oper} {V : View} {w : World} {s : AState} {a : Act} {o : Oper}
theorem zP9(hr:RelW V w s){k:Nat}(ho:s.obj k=some .dead)(hk:s.b<=k){cells:Array Value}{cs:List AV}(hc:RepL V cells.toList cs)(ty:TypeId):
 ∃V',V.Le V'/\V'.loc k 0=some (some w.heap.size,0)/\RelW V' (w.alloc (.cells cells ty)) (s.setObj k (.box cs)):=by
 obtain⟨V',h1,h2,h3⟩:=hr.inv.newObj k (.inr ho) (.box cs) (.cells cells ty) 0 0 (by
  intro V' hV hb hl _ hi
  refine⟨⟨w.heap.size,0,cells,ty,hl,heap_alloc_new w _,by rw[hb];exact hr.inv.base,by simpa using hc.1,fun i hi=> ?_,hi⟩,by simp[own,hl]⟩
  have:=(hc.mono hV).2 i hi
  simpa [YAF]using this)
 exact⟨V',h1,h2,hr.setObj ho h3 (fun h=>by omega)⟩
theorem zQC(hr:RelW V w s){k:Nat}(ho:s.obj k=some .dead)(hk:s.b<=k):
 ∃V',V.Le V'/\V'.loc k 0=some (some w.heap.size,0)/\RelW V' (w.alloc (.map #[] 0)) (s.setObj k (.map [])):=by
 obtain⟨V',h1,h2,h3⟩:=hr.inv.newObj k (.inr ho) (.map []) (.map #[] 0) 0 0 (by
  intro V' hV hb hl _ hi
  exact⟨⟨w.heap.size,0, #[],0,hl,heap_alloc_new w _,by rw[hb];exact hr.inv.base,⟨rfl,fun i hi=>absurd hi (by simp)⟩,hi⟩,by simp[own,hl]⟩)
 exact⟨V',h1,h2,hr.setObj ho h3 (fun h=>by omega)⟩
theorem zF8(hC:zAb P C)(hr:Rel V a w s){k:Nat}{out:Out}(h:effD C k o s=some out)(hc:out.c)(hok:zRm o=true):zAz P V a w s o out:=by
 have hk:∀x∈o.op.operands.toList,zRn x=true:=List.all_eq_true.1 hok
 unfold effD at h
 split at h
 ·rename_i t hop
  split at h
  case h_2=>cases h
  rename_i l hT ho
  simp only[YAM]at h;subst h
  obtain⟨z,hz,hzr⟩:=(hC _ _ hT).zVD w
  obtain⟨V',h1,h2,h3⟩:=zP9 hr.toW ho hc ((hzr V).zEQ (hC _ _ hT).solid) t
  refine⟨_,_,V',?_,h1,zDe w _ hr.inv.base,h3,zVZ _ _ _,zVe _ _ _,zVX _ _ _,.inl ⟨_,rfl,.bptr _ 0 _ _ h2⟩⟩
  simp only[execOp,hop,Instr.alloc,newVar,Go.newRow,Sem.run_bind,hz,Result.andThen_ok,run_newObj,Sem.run_pure,World.alloc_eq]
 ·rename_i t x hop
  split at h
  case h_2=>cases h
  rename_i ho
  simp only[YAM]at h;subst h
  obtain⟨V',h1,h2,h3⟩:=zP9 hr.toW ho hc.1 ((zHQ hr x (hk x (by simp[hop,Op.operands]))).zEQ hc.2) t
  refine⟨_,_,V',?_,h1,zDe w _ hr.inv.base,h3,zVZ _ _ _,zVe _ _ _,zVX _ _ _,.inl ⟨_,rfl,.bptr _ 0 _ _ h2⟩⟩
  simp only[execOp,hop,Instr.box,newVar,Go.newRow,Sem.run_bind,Result.andThen_ok,run_newObj,Sem.run_pure,World.alloc_eq]
 ·rename_i t hop
  split at h
  case h_2=>cases h
  rename_i ho
  simp only[YAM]at h;subst h
  obtain⟨V',h1,h2,h3⟩:=zQC hr.toW ho hc
  refine⟨_,_,V',?_,h1,zDe w _ hr.inv.base,h3,zVZ _ _ _,zVe _ _ _,zVX _ _ _,.inl ⟨_,rfl,.mp _ _ _ h2⟩⟩
  simp only[execOp,hop,Instr.makeMap,Option.map_none,Sem.run_bind,run_newObj,Result.andThen_ok,Sem.run_pure,World.alloc_eq]
 ·split at h
  ·exact zGE hC hr h hc hok
  ·cases h
 ·exact zGE hC hr h hc hok
theorem zQh{args args':List AV}(ha:args'=args\/args'=AV.normL args):(∀i,args'.getD i .any=args.getD i .any\/args'.getD i .any=(args.getD i .any).norm)/\args'.length=args.length:=by
 rcases ha with rfl|rfl
 ·exact⟨fun i=> .inl rfl,rfl⟩
 ·exact⟨fun i=> .inr (zQi _ _),zQj _⟩
theorem zEE{f:Nat}{args args':List AV}{K:AV->AState->Prop}{r:AV}(hb:s.b=s.H.length)(hbel:∀x∈s.H,x.bel s.b=true)(h:zA5 P f args' r s.obj)(ha:args'=args\/args'=AV.normL args)(hK:K r s):zAa P f args s K:=by
 obtain⟨a1,a2⟩:=zQh ha
 refine zEC (h (s.H++s.L) fun q x hq _=>by rw[zQu hb]at hq;exact hq) a1 a2 ?_
 rintro r' H'' ⟨rfl,rfl⟩ _
 have e1:(s.H++s.L).take s.b=s.H:=by rw[hb];simp
 have e2:(s.H++s.L).drop s.b=s.L:=by rw[hb];simp
 rw[e1,e2]
 exact⟨hbel,hK⟩
theorem zEB{f:Nat}{args args':List AV}{K:AV->AState->Prop}{r:AV}{m:Nat}{es:List (AV×AV)}(hb:s.b=s.H.length)(hbel:∀x∈s.H,x.bel s.b=true)(h:zAr P f args' r s.obj m es)(ha:args'=args\/args'=AV.normL args)(hK:K r (s.setObj m (.map es))):zAa P f args s K:=by
 obtain⟨a1,a2⟩:=zQh ha
 obtain⟨_,hm,hc⟩:=h
 refine zEC (hc (s.H++s.L) fun q x hq _=>by rw[zQu hb]at hq;exact hq) a1 a2 ?_
 rintro r' H'' ⟨rfl,rfl⟩ _
 have e:({s with H:=((s.H++s.L).set m (.map es)).take s.b,L:=((s.H++s.L).set m (.map es)).drop s.b}:AState)=s.setObj m (.map es):=by
  unfold AState.setObj
  rw[hb]
  split
  ·rename_i hlt
   rw[List.set_append_left _ _ hlt];simp
  ·rename_i hlt
   rw[List.set_append_right _ _ (by omega)];simp
 rw[e]
 refine⟨fun x hx=> ?_,hK⟩
 rw[hb]at hx
 by_cases hlt:m<s.H.length
 ·rw[List.set_append_left _ _ hlt]at hx
  simp only[List.length_set,List.take_left']at hx
  rcases List.mem_or_eq_of_mem_set hx with hx|rfl
  ·exact hbel x hx
  ·exact hm _
 ·rw[List.set_append_right _ _ (by omega)]at hx
  simp at hx;exact hbel x hx
theorem zEF{f:Nat}{args args':List AV}{K:AV->AState->Prop}{r:AV}{F':List AObj}(hbel:∀x∈s.H,x.bel s.b=true)(h:zBK P f args' r s F')(ha:args'=args\/args'=AV.normL args)(hK:K r {s with H:=F'.take s.b,L:=F'.drop s.b}):zAa P f args s K:=by
 obtain⟨a1,a2⟩:=zQh ha
 refine zEC h.2 a1 a2 ?_
 rintro r' H'' ⟨rfl,rfl⟩ _
 exact⟨h.1 hbel,hK⟩
theorem zbe(hC:zAb P C)(hr:Rel V a w s)(hok:zRm o=true)(hd:zF0 s.n o=true){k:Nat}{K:AState->Prop}{K':Act->World->Prop}{Q:Exit->Act->World->Prop}
 (h:xopD P C k o K s) (hK:∀V' a' w' s',V.Le V'->Below V.base w w'->Rel V' a' w' s'->s'.n=s.n->s'.b=s.b->K s'->K' a' w'):o.wp P a w K' Q:=by
 by_cases hcall:∃f args ts,o.op= .call {callee:= .value f,args:=args,argTypes:=ts}
 ·obtain⟨f,args,ts,hop⟩:=hcall
  have hx:xop P C o K s:=by
   unfold xopD at h
   unfold xop
   simp only[hop]at h⊢
   split at h
   case h_2=>cases h
   rename_i g hg
   obtain⟨r,as,h2,⟨h1,h3⟩|⟨h0,h1,h3⟩|⟨h0,m,es,h1,h3⟩|⟨h0,F',h1,h3⟩⟩:=h
   rotate_left 3
   ·simp only[hg]
    exact zEF hr.bel h1.1 h2 h3
   ·simp only[hg]
    exact zED h1 h2 h3
   ·simp only[hg]
    exact zEE hr.hb hr.bel h1 h2 h3
   ·simp only[hg]
    exact zEB hr.hb hr.bel h1 h2 h3
  exact zbh hC hr hok hd zEA hx hK
 ·have h1:match effD C k o s with
   |some ⟨c,v,s'⟩=>c/\K (s'.put o.dst v)
   |none=>False:=by
   unfold xopD at h
   split at h
   ·rename_i f args ts hop;exact absurd ⟨f,args,ts,hop⟩ hcall
   ·exact h
  split at h1
  case h_2=>cases h1
  rename_i c v s' heff
  obtain⟨hc,hKs⟩:=h1
  obtain⟨nx,w',V',g1,g2,g3,g4,g5,g6,g7,g8⟩:=zF8 hC hr heff hc hok
  have hrel:Rel V' a w' s':=hr.of_w g2 g4 g5 g6
  unfold Oper.wp
  rw[g1]
  have hn:∀x,(s'.put o.dst x).n=s.n:=fun x=>by rw[<-g6];cases o.dst<;>rfl
  have hbb:∀x,(s'.put o.dst x).b=s.b:=fun x=>by rw[<-g7];cases o.dst<;>rfl
  rcases g8 with ⟨u,rfl,hu⟩|⟨rfl,hv⟩
  ·rw[Oper.upon_value]
   exact hK V' _ w' _ g2 g3 (hrel.put hu (fun d hd'=>by rw[g6];exact zF1 hd d hd')) (hn _) (hbb _) hKs
  ·rw[Oper.upon_skip]
   simp only at hv
   subst hv
   exact hK V' _ w' _ g2 g3 (hrel.put (.any _) (fun d hd'=>by rw[g6];exact zF1 hd d hd')) (hn _) (hbb _) hKs
theorem zXT(hC:zAb P C)(hr:Rel V a w s){i:Nat}(hi:ops[i]?=some o)(hok:zRm o=true)(hd:zF0 s.n o=true){k:Nat}{s':AState}{K':Act->World->Prop}{Q:Exit->Act->World->Prop}
 (h:St P C ops k o s s') (hK:∀V' a' w',V.Le V'->Below V.base w w'->Rel V' a' w' s'->s'.n=s.n->s'.b=s.b->K' a' w'):wpOp P ops Q i K' a w:=by
 have hwant:∀t want b,guardOf ops o=some (some t,want)->s.env t= .bool b->Region.wanted o (yielded ops a.tmps)=(b==want):=by
  intro t want b h1 h2
  unfold guardOf at h1
  cases hgd:o.guard with
  |none=>rw[hgd]at h1;simp at h1
  |some gw=>
   obtain⟨j,wt⟩:=gw
   rw[hgd]at h1
   simp only[Option.map_some,YAM,YAY]at h1
   obtain⟨h3,rfl⟩:=h1
   have h4:=hr.env t
   rw[h2]at h4
   generalize hv:a.tmps.getD t undef=v at h4
   cases h4
   have h5:a.tmps[t]?=some (.bool b):=by
    rw[Array.getD_eq_getD_getElem?]at hv
    cases ht:a.tmps[t]? with
    |none=>rw[ht]at hv;simp[undef]at hv
    |some y=>rw[ht]at hv;simp at hv;rw[hv]
   simp only[Region.wanted,hgd,yielded,h3,Option.bind_some,h5]
   cases b<;>cases wt<;>rfl
 have hskip:∀t want,guardOf ops o=some (some t,want)->s.env t= .tup []->Region.wanted o (yielded ops a.tmps)=false:=by
  intro t want h1 h2
  unfold guardOf at h1
  cases hgd:o.guard with
  |none=>rw[hgd]at h1;simp at h1
  |some gw=>
   obtain⟨j,wt⟩:=gw
   rw[hgd]at h1
   simp only[Option.map_some,YAM,YAY]at h1
   obtain⟨h3,rfl⟩:=h1
   have h4:=hr.env t
   rw[h2]at h4
   generalize hv:a.tmps.getD t undef=v at h4
   cases h4
   rename_i cs hl hh
   have h5:a.tmps[t]?=some (.tuple cs)\/a.tmps[t]?=none:=by
    rw[Array.getD_eq_getD_getElem?]at hv
    cases ht:a.tmps[t]? with
    |none=>exact .inr rfl
    |some y=>rw[ht]at hv;simp at hv;rw[hv];exact .inl rfl
   simp only[Region.wanted,hgd,yielded,h3,Option.bind_some]
   rcases h5 with h5|h5<;>simp[h5]
 unfold wpOp
 simp only[hi]
 unfold St zbZ at h
 split at h
 ·rename_i hgd
  have hno:o.guard=none:=by
   unfold guardOf at hgd
   simpa using hgd
  rw[if_pos (by simp[Region.wanted,hno])]
  exact .inl (zbe hC hr hok hd h fun V' a' w' s1 h1 h2 h3 h4 h5 h6=>hK V' a' w' h1 h2 (h6▸h3) (h6▸h4) (h6▸h5))
 ·rename_i t want hgd
  split at h
  case h_3=>cases h
  ·rename_i b hev
   have hw:=hwant t want b hgd hev
   split at h
   ·rename_i hbw
    rw[if_pos (by rw[hw];simp[hbw])]
    exact .inl (zbe hC hr hok hd h fun V' a' w' s1 h1 h2 h3 h4 h5 h6=>hK V' a' w' h1 h2 (h6▸h3) (h6▸h4) (h6▸h5))
   ·rename_i hbw
    rw[if_neg (by rw[hw];simp[hbw])]
    subst h
    exact hK V _ w (.refl V) (.refl _ _) (hr.put (zTc V) (fun d hd'=>zF1 hd d hd')) (zS5 _ _ _) (zSw _ _ _)
  ·rename_i hev
   rw[if_neg (by rw[hskip t want hgd hev];simp)]
   subst h
   exact hK V _ w (.refl V) (.refl _ _) (hr.put (zTc V) (fun d hd'=>zF1 hd d hd')) (zS5 _ _ _) (zSw _ _ _)
 ·cases h
def Run(P:Program)(C:Cfg)(ops:Array Oper)(num:Nat->Nat):List Nat->AState->AState->Prop
 | [],s,s'=>s=s'
 |i::l,s,s'=>∃o s1,ops[i]?=some o/\St P C ops (num i) o s s1/\Run P C ops num l s1 s'
def objT(o:Oper):Option Tmp:=match o.op with
 | .alloc _| .box _ _| .makeMap _ none=>o.dst
 |_=>adrT o
def zP4:Cls->Cls->Bool
 | .q,.w| .w,.q| .w,.w| .a,.w| .w,.a| .a,.q=>true
 |_,_=>false
def zRU(ops:Array Oper)(j:Nat)(o:Oper)(t:Tmp):Bool:=(ops.toList.drop (j+1)).all (fun m=>decide (m.dst≠some t))&&(isAl o||decide (o.dst≠some t))
def mld(C:Cfg)(x y:Oper):Bool:=(decide (cls C x= .m)&&decide (cls C y= .q)&&(adrT y).isSome)||(decide (cls C x= .q)&&decide (cls C y= .m)&&(adrT x).isSome)
def zOp(C:Cfg)(o:Oper):Bool:=match o.op with
 | .call {callee:= .value f,..}=>zwF C f
 |_=>false
def isMU(o:Oper):Bool:=match o.op with
 | .mapUpdate _ _ _ _=>true
 |_=>false
def ldT(C:Cfg)(o:Oper):Option (Tmp×Nat):=match o.op with
 | .load t (.tmp x)=>(C.ty t).map fun l=>(x,l.size)
 |_=>none
def zTl(C:Cfg)(ops:Array Oper)(i:Nat)(y:Oper):Bool:=decide (cls C y= .t)||match ldT C y with
 |some p=>C.zld.contains p&&zRU ops i y p.1
 |none=>false
def zbt(C:Cfg)(ops:Array Oper)(j:Nat)(x:Oper)(i:Nat)(y:Oper):Bool:=match C.zfr with
 |none=>false
 |some (t0,_)=>(ops.toList.all fun m=>decide (m.dst≠some t0)&&(decide (cls C m≠ .z)||(zOp C m||isMU m)))&&((zOp C x&&zTl C ops i y)||(zTl C ops j x&&zOp C y))
def zH1(C:Cfg)(ops:Array Oper)(D:List (Tmp×Tmp))(j:Nat)(x:Oper)(i:Nat)(y:Oper):Bool:=
 x.apart ops y&&(zbt C ops j x i y||((zH0 (cls C x) (cls C y)||mld C x y)||(zP4 (cls C x) (cls C y)&&ops.toList.all (fun m=>decide (cls C m≠ .z))&&match objT x,objT y with
  |some tx,some ty=>D.contains (tx,ty)&&zRU ops j x tx&&zRU ops i y ty
  |_,_=>false)))
def Dis(v w:AV):Prop:=∀r q,zQq v=some r->zQq w=some q->r≠q
def DisL:List (Tmp×Tmp)->AState->Prop
 | [],_=>True
 |p::l,s=>Dis (s.env p.1) (s.env p.2)/\DisL l s
theorem zFn{s:AState}{p:Tmp×Tmp}:∀ {l:List (Tmp×Tmp)},DisL l s->p∈l->Dis (s.env p.1) (s.env p.2)
 | [],_,h=>by cases h
 |q::l,h,hp=>by
  rcases List.mem_cons.1 hp with rfl|hp
  ·exact h.1
  ·exact zFn h.2 hp
theorem zXN{k:Nat}{o:Oper}{s s':AState}(hz:cls C o≠ .z)(h:St P C ops k o s s'){t:Tmp}(ht:o.dst≠some t):s'.env t=s.env t:=by
 obtain⟨od,v,hy⟩:=zXV hz h
 rw[hy.to];exact zBf _ _ _ fun e he hh=>ht (by rw[he,hh])
theorem zUu{num:Nat->Nat}(hz:∀m∈ops.toList,cls C m≠ .z){t:Tmp}:∀(l:List Nat) {s s':AState},(∀m∈l,∀om,ops[m]?=some om->om.dst≠some t)->Run P C ops num l s s'->s'.env t=s.env t
 | [],s,s',_,h=>by cases h;rfl
 |i::l,s,s',ht,⟨o,s1,h1,h2,h3⟩=>by
  have:=zUu hz l (fun m hm=>ht m (YAT _ hm)) h3
  rw[this,zXN (hz o (Array.mem_toList_iff.2 (Array.mem_of_getElem? h1))) h2 (ht i YAU o h1)]
theorem zRV{j:Nat}{o:Oper}{t:Tmp}(h:zRU ops j o t=true):(∀m om,j<m->ops[m]?=some om->om.dst≠some t)/\(isAl o=true\/o.dst≠some t):=by
 simp only[zRU,YAA,List.all_eq_true,YAP,YAa]at h
 refine⟨fun m om hm ho=>h.1 om ?_,h.2⟩
 rw[List.mem_iff_getElem?]
 refine⟨m-(j+1),?_⟩
 rw[List.getElem?_drop,show j+1+(m-(j+1))=m by omega]
 simpa using ho
theorem zMA{o:Oper}(h:isAl o=true):cls C o= .a:=by
 unfold isAl at h
 split at h
 ·rename_i hop;simp[cls,hop]
 ·rename_i hop;simp[cls,hop]
 ·rename_i hop;simp[cls,hop]
 ·cases h
theorem zQs{o:Oper}(h:cls C o≠ .a):objT o=adrT o:=by
 unfold objT
 split
 ·rename_i hop;exact absurd (by simp[cls,hop]) h
 ·rename_i hop;exact absurd (by simp[cls,hop]) h
 ·rename_i hop;exact absurd (by simp[cls,hop]) h
 ·rfl
theorem zQr{o:Oper}(h:cls C o= .a):objT o=o.dst:=by
 unfold objT
 rcases zEz (C:=C) o with ⟨_,⟨t,hop⟩|⟨t,x,hop⟩|⟨t,hop⟩⟩|⟨hh,_⟩|⟨_,_,_,⟨hh,_⟩|⟨hh,_⟩⟩|⟨_,_,_,⟨hh,_⟩|⟨hh,_⟩|hh|⟨hh,_⟩|⟨hh,_⟩⟩
 ·simp[hop]
 ·simp[hop]
 ·simp[hop]
 all_goals (rw[h]at hh;cases hh)
theorem zBe{od:Od}{d:Tmp}{v:AV}{s:AState}:(act od (some d) v s).env d=v:=by
 unfold act;simp[AState.put,zaL]
theorem zRx{l:TL}{cs cs':List AV}{off:Nat}(hp:0<l.size)(hl:cs'.length=cs.length)(h:∀q,off<=q->q<off+l.size->cs'.getD q .any=cs.getD q .any):zRw l cs' off=zRw l cs off:=by
 unfold zRw
 split
 ·rw[hl]
  congr 2
  apply List.ext_getElem?
  intro i
  rw[List.getElem?_take,List.getElem?_take]
  split
  ·rename_i hi
   rw[List.getElem?_drop,List.getElem?_drop]
   have:=h (off+i) (by omega) (by omega)
   by_cases hlt:off+i<cs.length
   ·have hlt':off+i<cs'.length:=by omega
    rw[getD_lt _ hlt,getD_lt _ hlt']at this
    rw[YAI hlt,YAI hlt',this]
   ·rw[YAR (by omega),YAR (by omega)]
  ·rfl
 ·rw[hl,h off (YAV _) (by omega)]
theorem zMx{o:Oper}{p:Tmp×Nat}(hl:ldT C o=some p):p.1∈o.looksAt ops:=by
 unfold ldT at hl
 split at hl
 ·rename_i t x hop
  cases h:C.ty t with
  |none=>rw[h]at hl;cases hl
  |some l=>
   rw[h]at hl;cases hl
   exact List.mem_append_left _ (List.mem_filterMap.2 ⟨.tmp x,by simp[hop,Op.operands],rfl⟩)
 ·cases hl
theorem zMy(hC:zAb P C){k:Nat}{o:Oper}{s s' s1:AState}{p:Tmp×Nat}(hl:ldT C o=some p)(h:St P C ops k o s s')(he:zAf ops o s s1)
 (hk:(∃r off,s.env p.1= .bptr r off/\∀cs,s.obj r=some (.box cs)->∃cs',s1.obj r=some (.box cs')/\cs'.length=cs.length/\∀q,off<=q->q<off+p.2->cs'.getD q .any=cs.getD q .any)\/(∃e off,s.env p.1= .eptr e off)\/s.env p.1= .tup []):
 ∃v,s'=s.put o.dst v/\St P C ops k o s1 (s1.put o.dst v):=by
 have hx:=he _ (zMx (ops:=ops) hl)
 have key:xopD P C k o (· =s') s->∃v,s'=s.put o.dst v/\xopD P C k o (· =s1.put o.dst v) s1:=by
  intro hq
  unfold ldT at hl
  split at hl
  case h_2=>cases hl
  rename_i t x hop
  cases hT:C.ty t with
  |none=>rw[hT]at hl;cases hl
  |some l=>
   rw[hT]at hl;cases hl
   simp only at hx hk
   have hpos:=(hC _ _ hT).pos
   unfold xopD at hq⊢
   simp only[hop,effD,eff,hT,AState.ev]at hq⊢
   rw[hx]
   rcases hk with ⟨r,off,h1,h2⟩|⟨e,off,h1⟩|h1
   ·rw[h1]at hq⊢
    simp only[zEN]at hq⊢
    split at hq
    case h_2=>cases hq
    rename_i c v s2 heq
    split at heq
    case h_2=>cases heq
    rename_i l' cs' off' c' hl' hcs
    cases hl'
    split at hcs
    case h_2=>cases hcs
    rename_i cs hobj
    cases hcs
    obtain⟨cs2,g1,g2,g3⟩:=h2 _ hobj
    simp only[YAM,Out.mk.injEq]at heq
    obtain⟨rfl,rfl,rfl⟩:=heq
    have hpa:=zRx (l:=l) hpos g2 g3
    refine⟨_,hq.2.symm,?_⟩
    rw[g1]
    simp only[hpa]
    exact⟨hq.1,trivial⟩
   ·rw[h1]at hq⊢
    simp only[zEN]at hq⊢
    exact⟨_,hq.2.symm,hq.1,rfl⟩
   ·rw[h1]at hq
    simp only[zEN]at hq
 unfold St zbZ at h⊢
 split at h
 ·exact key h
 ·rename_i t want hg
  rw[zKz he hg]
  split at h
  case h_3=>cases h
  ·split at h
   ·rename_i hw
    obtain⟨v,g1,g2⟩:=key h
    exact⟨v,g1,by simp only[if_pos hw];exact g2⟩
   ·rename_i hw
    exact⟨_,h.symm,by simp only[if_neg hw]⟩
  ·exact⟨_,h.symm,rfl⟩
 ·cases h
theorem zb1{f:Operand}(h:zwF C f=true):rdF C f=false/\mwF C f=false:=by
 cases f with
 |func g=>
  simp only[zwF,YAA,YAD]at h
  simp[rdF,mwF,h]
 |_=>simp[zwF]at h
theorem zD0(F:List AObj)(r0 o0:Nat):zAE F F r0 o0:=⟨rfl,fun _=>⟨fun cs h=>⟨cs,h,rfl,fun _ _=>rfl⟩,fun cs h=>⟨cs,h,rfl,fun _ _=>rfl⟩⟩⟩
theorem st_z{k:Nat}{o:Oper}{s s':AState}(hb:s.b=s.H.length)(hz:zOp C o=true)(h:St P C ops k o s s'):∃(F':List AObj) (v:AV),s'=({s with H:=F'.take s.b,L:=F'.drop s.b}:AState).put o.dst v/\
 (∀t0 o0 r0,C.zfr=some (t0,o0)->s.env t0= .bptr r0 0->zAE (s.H++s.L) F' r0 o0)/\
 ∀s1:AState,s1.b=s.b->s1.H=s.H->s1.L=s.L->zAf ops o s s1->(∀t0 o0,C.zfr=some (t0,o0)->s1.env t0=s.env t0)->St P C ops k o s1 (({s1 with H:=F'.take s.b,L:=F'.drop s.b}:AState).put o.dst v):=by
 have hH:(s.H++s.L).take s.b=s.H:=List.take_left' hb.symm
 have hL:(s.H++s.L).drop s.b=s.L:=List.drop_left' hb.symm
 have same:∀s1:AState,s1.b=s.b->s1.H=s.H->s1.L=s.L->({s1 with H:=(s.H++s.L).take s.b,L:=(s.H++s.L).drop s.b}:AState)=s1:=fun s1 h1 h2 h3=>by rw[hH,hL,<-h2,<-h3]
 have same0:=same s rfl rfl rfl
 have key:xopD P C k o (· =s') s->∃(F':List AObj) (v:AV),s'=({s with H:=F'.take s.b,L:=F'.drop s.b}:AState).put o.dst v/\
  (∀t0 o0 r0,C.zfr=some (t0,o0)->s.env t0= .bptr r0 0->zAE (s.H++s.L) F' r0 o0)/\
  ∀s1:AState,s1.b=s.b->s1.H=s.H->s1.L=s.L->zAf ops o s s1->(∀t0 o0,C.zfr=some (t0,o0)->s1.env t0=s.env t0)->xopD P C k o (· =({s1 with H:=F'.take s.b,L:=F'.drop s.b}:AState).put o.dst v) s1:=by
  intro hq
  unfold zOp at hz
  split at hz
  case h_2=>cases hz
  rename_i f args ts hop
  obtain⟨z1,z2⟩:=zb1 hz
  obtain⟨g,rfl⟩:∃g,f= .func g:=by cases f<;>first|exact⟨_,rfl⟩|(simp[zwF]at hz)
  have hmap:∀s1:AState,zAf ops o s s1->args.toList.map s1.ev=args.toList.map s.ev:=fun s1 he=>
   List.map_congr_left fun p hp=>zHP he p (by simp only[hop,Op.operands,Call.operands];simp at hp⊢;exact .inr hp)
  unfold xopD at hq⊢
  simp only[hop,AState.ev]at hq⊢
  obtain⟨r,as,h2,⟨h1,h3⟩|⟨h0,h1,h3⟩|⟨h0,m,es,h1,h3⟩|⟨h0,F',⟨h1,h1'⟩,h3⟩⟩:=hq
  ·refine⟨s.H++s.L,r,by rw[same0];exact h3.symm,fun _ _ _ _ _=>zD0 _ _ _,fun s1 e1 e2 e3 he _=>⟨r,as,?_,.inl ⟨h1,by rw[same s1 e1 e2 e3]⟩⟩⟩
   rw[hmap s1 he];exact h2
  ·rw[z1]at h0;cases h0
  ·rw[z2]at h0;cases h0
  ·refine⟨F',r,h3.symm,fun t0 o0 r0 e1 e2=> ?_,fun s1 e1 e2 e3 he ht=>⟨r,as,?_,.inr (.inr (.inr ⟨h0,F',⟨?_,?_⟩,by rw[e1]⟩))⟩⟩
   ·unfold ZFr at h1'
    rw[e1]at h1'
    exact h1' r0 e2
   ·rw[hmap s1 he];exact h2
   ·unfold zBK at h1⊢
    rw[e1,e2,e3];exact h1
   ·unfold ZFr at h1'⊢
    cases hzf:C.zfr with
    |none=>trivial
    |some p=>
     obtain⟨t0,o0⟩:=p
     rw[hzf]at h1'
     simp only at h1'⊢
     rw[ht t0 o0 hzf,e2,e3];exact h1'
 unfold St zbZ at h
 unfold St zbZ
 split at h
 ·obtain⟨F',v,g1,g2,g3⟩:=key h
  exact⟨F',v,g1,g2,g3⟩
 ·rename_i t want hg
  split at h
  case h_3=>cases h
  ·rename_i b hbv
   split at h
   ·rename_i hw
    obtain⟨F',v,g1,g2,g3⟩:=key h
    exact⟨F',v,g1,g2,fun s1 e1 e2 e3 he ht=>by rw[zKz he hg,hbv];simp only[if_pos hw];exact g3 s1 e1 e2 e3 he ht⟩
   ·rename_i hw
    exact⟨s.H++s.L,_,by rw[same0];exact h.symm,fun _ _ _ _ _=>zD0 _ _ _,fun s1 e1 e2 e3 he ht=>by rw[zKz he hg,hbv];simp only[if_neg hw];rw[same s1 e1 e2 e3]⟩
  ·rename_i hbv
   exact⟨s.H++s.L,_,by rw[same0];exact h.symm,fun _ _ _ _ _=>zD0 _ _ _,fun s1 e1 e2 e3 he ht=>by rw[zKz he hg,hbv];simp only;rw[same s1 e1 e2 e3]⟩
 ·cases h
theorem zXO{k:Nat}{o:Oper}{s s':AState}(hz:cls C o≠ .z\/zOp C o=true\/isMU o=true)(h:St P C ops k o s s'){t:Tmp}(ht:o.dst≠some t):s'.env t=s.env t:=by
 rcases hz with hz|hz|hz
 ·exact zXN hz h ht
 rotate_left
 ·have hd:∀e,o.dst=some e->e≠t:=fun e he hh=>ht (by rw[he,hh])
  have key:xopD P C k o (· =s') s->s'.env t=s.env t:=by
   intro hq
   unfold isMU at hz
   split at hz
   case h_2=>cases hz
   rename_i mt mm mk mx hop
   unfold xopD at hq
   simp only[hop,effD,eff]at hq
   split at hq
   case h_2=>cases hq
   rename_i c v s2 heq
   rw[<-hq.2,zS0 _ _ hd]
   split at heq
   case h_2=>cases heq
   split at heq
   case h_2=>cases heq
   split at heq
   case h_2=>cases heq
   split at heq
   case h_2=>cases heq
   simp only[YAM,Out.mk.injEq]at heq
   rw[<-heq.2.2,zVZ]
  unfold St zbZ at h
  split at h
  ·exact key h
  ·split at h
   case h_3=>cases h
   ·split at h
    ·exact key h
    ·rw[<-h];exact zS0 _ _ hd
   ·rw[<-h];exact zS0 _ _ hd
  ·cases h
 ·have hd:∀e,o.dst=some e->e≠t:=fun e he hh=>ht (by rw[he,hh])
  have key:xopD P C k o (· =s') s->s'.env t=s.env t:=by
   intro hq
   unfold zOp at hz
   split at hz
   case h_2=>cases hz
   rename_i f args ts hop
   obtain⟨g,rfl⟩:∃g,f= .func g:=by cases f<;>first|exact⟨_,rfl⟩|(simp[zwF]at hz)
   unfold xopD at hq
   simp only[hop,AState.ev]at hq
   obtain⟨r,as,h2,⟨h1,h3⟩|⟨h0,h1,h3⟩|⟨h0,m,es,h1,h3⟩|⟨h0,F',h1,h3⟩⟩:=hq
   ·rw[<-h3];exact zS0 _ _ hd
   ·rw[<-h3];exact zS0 _ _ hd
   ·rw[<-h3,zS0 _ _ hd,zVZ]
   ·rw[<-h3,zS0 _ _ hd]
  unfold St zbZ at h
  split at h
  ·exact key h
  ·split at h
   case h_3=>cases h
   ·split at h
    ·exact key h
    ·rw[<-h];exact zS0 _ _ hd
   ·rw[<-h];exact zS0 _ _ hd
  ·cases h
theorem zUv{num:Nat->Nat}(hz:∀m∈ops.toList,cls C m≠ .z\/zOp C m=true\/isMU m=true){t:Tmp}:∀(l:List Nat) {s s':AState},(∀m∈l,∀om,ops[m]?=some om->om.dst≠some t)->Run P C ops num l s s'->s'.env t=s.env t
 | [],s,s',_,h=>by cases h;rfl
 |i::l,s,s',ht,⟨o,s1,h1,h2,h3⟩=>by
  have:=zUv hz l (fun m hm=>ht m (YAT _ hm)) h3
  rw[this,zXO (hz o (Array.mem_toList_iff.2 (Array.mem_of_getElem? h1))) h2 (ht i YAU o h1)]
theorem zDz{s s1:AState}{F':List AObj}{r0 o0:Nat}(hb:s.b=s.H.length)(hag:zAE (s.H++s.L) F' r0 o0)(h1:s1.b=s.b)(h2:s1.H=F'.take s.b)(h3:s1.L=F'.drop s.b):
 s1.b=s1.H.length/\(∀r cs,s.obj r=some (.box cs)->∃cs',s1.obj r=some (.box cs')/\CsAg r r0 o0 cs cs')/\(∀r cs',s1.obj r=some (.box cs')->∃cs,s.obj r=some (.box cs)/\CsAg r r0 o0 cs cs'):=by
 have hl:=hag.1
 simp only[YAJ]at hl
 have hb1:s1.b=s1.H.length:=by rw[h1,h2,List.length_take];omega
 have e1:s.obj=zLC (s.H++s.L):=zQu hb
 have e2:s1.obj=zLC F':=by rw[zQu hb1,h2,h3,List.take_append_drop]
 refine⟨hb1,fun r cs h=> ?_,fun r cs' h=> ?_⟩
 ·rw[e1]at h;rw[e2];exact(hag.2 r).1 cs h
 ·rw[e2]at h;rw[e1];exact(hag.2 r).2 cs' h
theorem bubble(hC:zAb P C){num:Nat->Nat}{D:List (Tmp×Tmp)}{i:Nat}{o:Oper}(hi:ops[i]?=some o):∀(pre:List Nat) {post:List Nat} {s s':AState},s.b=s.H.length->(pre++i::post).Pairwise (· < ·)->
 (∀j∈pre,∀oj,ops[j]?=some oj->zH1 C ops D j oj i o=true)->DisL D s'->ZLd C s'->
 Run P C ops num (pre++i::post) s s'->∃s1,St P C ops (num i) o s s1/\Run P C ops num (pre++post) s1 s'
 | [],post,s,s',hb,_,hf,_,_,⟨o',s1,h1,h2,h3⟩=>by
  rw[hi]at h1;cases h1
  exact⟨s1,h2,h3⟩
 |j::pre,post,s,s',hb,hso,hf,hD,hZ,⟨oj,s1,h1,h2,h3⟩=>by
  have hfj:=hf j (YAU) oj h1
  simp only[zH1,YAA,YAP]at hfj
  obtain⟨hap,hcl⟩:=hfj
  rcases hcl with hzf|hcl
  ·unfold zbt at hzf
   cases hzr:C.zfr with
   |none=>rw[hzr]at hzf;cases hzf
   |some tt=>
    obtain⟨t0,o0⟩:=tt
    rw[hzr]at hzf
    simp only[YAA,List.all_eq_true,YAa,YAP]at hzf
    obtain⟨hall,hxy⟩:=hzf
    unfold ZLd at hZ
    rw[hzr]at hZ
    obtain⟨r0,hZ0,hZl⟩:=hZ
    have hZ':ZLd C s':=by unfold ZLd;rw[hzr];exact⟨r0,hZ0,hZl⟩
    rw[List.cons_append,List.pairwise_cons]at hso
    have hmem:∀m om,ops[m]?=some om->om∈ops.toList:=fun m om hm=>Array.mem_toList_iff.2 (Array.mem_of_getElem? hm)
    have henv:s'.env t0=s1.env t0:=zUv (fun m hm=>(hall m hm).2) _ (fun m hm om hom=>(hall om (hmem m om hom)).1) h3
    have henv0:s1.env t0=s.env t0:=zXO ((hall oj (hmem j oj h1)).2) h2 (hall oj (hmem j oj h1)).1
    have ht0:s.env t0= .bptr r0 0:=by rw[<-henv0,<-henv];exact hZ0
    have ht1:s1.env t0= .bptr r0 0:=by rw[henv0];exact ht0
    obtain⟨a1,a2,a3⟩:=Oper.apart_spec hap
    have hso2:=hso.2
    rw[List.pairwise_append,List.pairwise_cons]at hso2
    have noz:∀ {i':Nat} {y:Oper},ops[i']?=some y->zTl C ops i' y=true->cls C y≠ .z:=fun hy' ht=>by
     unfold zTl at ht
     simp only[YAP,YAa]at ht
     rcases ht with ht|ht
     ·rw[ht];simp
     ·split at ht
      ·rename_i p hl
       unfold ldT at hl
       split at hl
       ·rename_i t x hop;simp[cls,hop,tOp,zV3]
       ·cases hl
      ·cases ht
    rcases hxy with ⟨hzx,htl⟩|⟨htl,hzy⟩
    ·obtain⟨F',v,e1,e2,e3⟩:=st_z (ops:=ops) hb hzx h2
     have hag:=e2 t0 o0 r0 hzr ht0
     obtain⟨hb1,ob1,ob2⟩:=zDz (s1:=s1) hb hag (by rw[e1,zSw]) (by rw[e1,zSu]) (by rw[e1,zSv])
     obtain⟨s2,g1,g2⟩:=bubble hC hi pre hb1 hso.2 (fun j' hj'=>hf j' (YAT _ hj')) hD hZ' h3
     have hzo:=noz hi htl
     have hen:zAf ops o s1 s:=fun t ht=>by rw[e1];exact(zS0 ({s with H:=F'.take s.b,L:=F'.drop s.b}:AState) v fun e he hh=>a1 e he (hh▸ht)).symm
     have step:∃u,s2=s1.put o.dst u/\St P C ops (num i) o s (s.put o.dst u):=by
      unfold zTl at htl
      simp only[YAP,YAa]at htl
      rcases htl with htl|htl
      ·obtain⟨oe,u,hy⟩:=zXV (by rw[htl];simp) g1
       have hn:=hy.none_ (.inl htl)
       subst hn
       exact⟨u,hy.to,hy.stab s (by rw[e1,zSw]) hen (zQ2 _) (by rw[htl];simp)⟩
      ·split at htl
       case h_2=>cases htl
       rename_i p hl
       simp only[YAA]at htl
       obtain⟨hct,honce⟩:=htl
       obtain⟨w1,w2⟩:=zRV honce
       have hpl:=zMx (ops:=ops) hl
       have f2:s'.env p.1=s2.env p.1:=zUv (fun m hm=>(hall m hm).2) _ (fun m hm om hom=>by
        rcases List.mem_append.1 hm with hm|hm
        ·have:=hf m (YAT _ hm) om hom
         simp only[zH1,YAA]at this
         exact fun hd=>(Oper.apart_spec this.1).1 _ hd hpl
        ·exact w1 m om (hso2.2.1.1 m hm) hom) g2
       have hna:o.dst≠some p.1:=by
        rcases w2 with w2|w2
        ·unfold isAl at w2;unfold ldT at hl
         split at hl
         ·rename_i hop;rw[hop]at w2;cases w2
         ·cases hl
        ·exact w2
       have f1:s2.env p.1=s1.env p.1:=zXO (.inl hzo) g1 hna
       have hok:=hZl p (by simpa using hct)
       rw[f2,f1]at hok
       refine zMy hC hl g1 hen ?_
       generalize hv:s1.env p.1=v at hok
       rcases zmR hok with ⟨r,off,rfl⟩|⟨_,_,rfl⟩|rfl
       ·refine .inl ⟨r,off,rfl,fun cs hcs=> ?_⟩
        obtain⟨cs',q1,q2,q3⟩:=ob2 r cs hcs
        exact⟨cs',q1,q2.symm,fun q k1 k2=>(q3 q (zmS hok k1 k2)).symm⟩
       ·exact .inr (.inl ⟨_,_,rfl⟩)
       ·exact .inr (.inr rfl)
     obtain⟨u,g3,g4⟩:=step
     refine⟨_,g4,oj,s2,h1,?_,g2⟩
     have:=e3 (s.put o.dst u) (zSw _ _ _) (zSu _ _ _) (zSv _ _ _) (fun t ht=>zS0 _ _ fun e he hh=>a3 e he (hh▸ht)) (fun t0' o0' hz'=>by
      rw[hzr]at hz';cases hz'
      exact zS0 _ _ fun e he hh=>(hall o (hmem i o hi)).1 (by rw[he,hh]))
     have e4:s2=({s.put o.dst u with H:=F'.take s.b,L:=F'.drop s.b}:AState).put oj.dst v:=by
      rw[g3,e1,zTA _ _ _ a2]
      cases o.dst<;>rfl
     rw[e4];exact this
    ·have hzj:=noz h1 htl
     obtain⟨od,u0,hx⟩:=zXV hzj h2
     have hb1:s1.b=s1.H.length:=by rw[hx.to,zBc,zBg];exact hb
     obtain⟨s2,g1,g2⟩:=bubble hC hi pre hb1 hso.2 (fun j' hj'=>hf j' (YAT _ hj')) hD hZ' h3
     obtain⟨F',v,e1,e2,e3⟩:=st_z (ops:=ops) hb1 hzy g1
     have hag:=e2 t0 o0 r0 hzr ht1
     have hnone:od=none:=by
      have htl':=htl
      unfold zTl at htl'
      simp only[YAP,YAa]at htl'
      rcases htl' with h|h
      ·exact hx.none_ (.inl h)
      ·split at h
       ·rename_i p hl
        refine hx.none_ (.inr ?_)
        unfold ldT at hl
        split at hl
        ·rename_i t x hop;simp[cls,hop,tOp,zV3]
        ·cases hl
       ·cases h
     subst hnone
     have hs1:s1=s.put oj.dst u0:=hx.to
     have hH1:s1.H=s.H:=by rw[hs1,zSu]
     have hL1:s1.L=s.L:=by rw[hs1,zSv]
     have hbb:s1.b=s.b:=by rw[hs1,zSw]
     rw[hH1,hL1]at hag
     have hz0:=e3 s hbb.symm hH1.symm hL1.symm (fun t ht=>by rw[hs1];exact(zS0 _ _ fun e he hh=>a1 e he (hh▸ht)).symm) (fun t0' o0' hz'=>by rw[hzr]at hz';cases hz';rw[ht0,ht1])
     rw[hbb]at hz0
     refine⟨_,hz0,oj,s2,h1,?_,g2⟩
     generalize hs3:({s with H:=F'.take s.b,L:=F'.drop s.b}:AState).put o.dst v=s3
     have hen:zAf ops oj s s3:=fun t ht=>by rw[<-hs3];exact zS0 _ _ fun e he hh=>a3 e he (hh▸ht)
     obtain⟨hb3,ob1,ob2⟩:=zDz (s1:=s3) hb hag (by rw[<-hs3,zSw]) (by rw[<-hs3,zSu]) (by rw[<-hs3,zSv])
     have fin:St P C ops (num j) oj s3 (s3.put oj.dst u0):=by
      have htl':=htl
      unfold zTl at htl'
      simp only[YAP,YAa]at htl'
      rcases htl' with h|h
      ·exact hx.stab s3 (by rw[<-hs3,zSw]) hen (zQ2 _) (by rw[h];simp)
      ·split at h
       case h_2=>cases h
       rename_i p hl
       simp only[YAA]at h
       obtain⟨hct,honce⟩:=h
       obtain⟨w1,w2⟩:=zRV honce
       have hna:oj.dst≠some p.1:=by
        rcases w2 with w2|w2
        ·unfold isAl at w2;unfold ldT at hl
         split at hl
         ·rename_i hop;rw[hop]at w2;cases w2
         ·cases hl
        ·exact w2
       have f2:s'.env p.1=s1.env p.1:=zUv (fun m hm=>(hall m hm).2) _ (fun m hm om hom=>w1 m om (hso.1 m hm) hom) h3
       have f1:s1.env p.1=s.env p.1:=zXO (.inl hzj) h2 hna
       have hok:=hZl p (by simpa using hct)
       rw[f2,f1]at hok
       have hld:∃v,s1=s.put oj.dst v/\St P C ops (num j) oj s3 (s3.put oj.dst v):=by
        refine zMy hC hl h2 hen ?_
        generalize hv:s.env p.1=v at hok
        rcases zmR hok with ⟨r,off,rfl⟩|⟨_,_,rfl⟩|rfl
        ·refine .inl ⟨r,off,rfl,fun cs hcs=> ?_⟩
         obtain⟨cs',q1,q2,q3⟩:=ob1 r cs hcs
         exact⟨cs',q1,q2,fun q k1 k2=>q3 q (zmS hok k1 k2)⟩
        ·exact .inr (.inl ⟨_,_,rfl⟩)
        ·exact .inr (.inr rfl)
       obtain⟨u1,k1,k2⟩:=hld
       cases hd:oj.dst with
       |none=>rw[hd]at k2;exact k2
       |some d=>
        rw[hd]at k2
        rw[hs1,hd]at k1
        have:u0=u1:=by
         have:=congrArg (fun s:AState=>s.env d) k1
         simpa [AState.put,upd]using this
        rw[this];exact k2
     have e4:s2=s3.put oj.dst u0:=by
      rw[e1,<-hs3,hs1,zTA _ _ _ (fun t ht he=>a2 t he ht)]
      cases oj.dst<;>rfl
     rw[e4];exact fin
  have hzx:cls C oj≠ .z:=by
   intro h
   rcases hcl with (hcl|hcl)|hcl
   ·rw[h]at hcl;simp[zH0]at hcl
   ·simp[mld,h]at hcl
   ·rw[h]at hcl;simp[zP4]at hcl
  have hzy:cls C o≠ .z:=by
   intro h
   rcases hcl with (hcl|hcl)|hcl
   ·rw[h]at hcl;revert hcl;cases cls C oj<;>simp[zH0]
   ·simp[mld,h]at hcl
   ·rw[h]at hcl;revert hcl;cases cls C oj<;>simp[zP4]
  rw[List.cons_append,List.pairwise_cons]at hso
  obtain⟨od,v,hx⟩:=zXV hzx h2
  have hb1:s1.b=s1.H.length:=by rw[hx.to,zBc,zBg];exact hb
  obtain⟨s2,g1,g2⟩:=bubble hC hi pre hb1 hso.2 (fun j' hj'=>hf j' (YAT _ hj')) hD hZ h3
  obtain⟨oe,u,hy⟩:=zXV hzy g1
  have hs1:∀r X y',od=some (r,X,y')->s1.obj r=some y':=by
   intro r X y' hr
   rw[hx.to,zBi hb hx.at_ hr];simp
  have fin:(∀r X y' q Z z,od=some (r,X,y')->oe=some (q,Z,z)->r≠q)->(∀r y q z,od=some (r,none,y)->oe=some (q,none,z)->False)->
   (cls C o= .q\/cls C o= .m->∀r X y',od=some (r,X,y')->NoRd o s1 r (some y'))->(cls C oj= .q\/cls C oj= .m->∀r X y',oe=some (r,X,y')->NoRd oj s r X)->
   ∃s1,St P C ops (num i) o s s1/\Run P C ops num (j::pre++post) s1 s':=fun k1 k2 k3 k4=>by
   obtain⟨s1',m1,m2⟩:=swap hb hap hx hy k1 k2 k3 k4
   exact⟨s1',m1,oj,s2,h1,m2,g2⟩
  rcases hcl with (hcl|hml)|hcl
  rotate_left
  ·simp only[mld,YAP,YAA,YAa]at hml
   rcases hml with ⟨⟨hcx,hcy⟩,had⟩|⟨⟨hcx,hcy⟩,had⟩
   ·have n1:=hy.none_ (.inr hcy)
    refine fin (fun r X y' q Z z _ hq=>by rw[n1]at hq;cases hq) (fun r y q z _ hq=>by rw[n1]at hq;cases hq) (fun _ r X y' hr=> ?_) (fun _ r X y' hr=>by rw[n1]at hr;cases hr)
    obtain⟨_,es,he⟩:=hx.mp_ hcx _ _ _ hr
    exact .inr (.inr ⟨had,es,by rw[he]⟩)
   ·have n1:=hx.none_ (.inr hcx)
    refine fin (fun r X y' q Z z hr _=>by rw[n1]at hr;cases hr) (fun r y q z hr _=>by rw[n1]at hr;cases hr) (fun _ r X y' hr=>by rw[n1]at hr;cases hr) (fun _ r X y' hr=> ?_)
    obtain⟨⟨es,he⟩,_⟩:=hy.mp_ hcy _ _ _ hr
    exact .inr (.inr ⟨had,es,he⟩)
  rotate_left
  ·refine fin ?_ ?_ ?_ ?_
   ·intro r X y' q Z z hr hq hrq
    subst hrq
    have e1:=(hy.at_ _ _ _ hq).1
    rw[hs1 _ _ _ hr]at e1
    cases hcx:cls C oj with
    |t=>rw[hx.none_ (.inl hcx)]at hr;cases hr
    |q=>rw[hx.none_ (.inr hcx)]at hr;cases hr
    |z=>exact hzx hcx
    |m=>
     cases hcy:cls C o with
     |t=>rw[hy.none_ (.inl hcy)]at hq;cases hq
     |_=>rw[hcx,hcy]at hcl;simp[zH0]at hcl
    |i=>
     cases hcy:cls C o with
     |t=>rw[hy.none_ (.inl hcy)]at hq;cases hq
     |_=>rw[hcx,hcy]at hcl;simp[zH0]at hcl
    |a=>
     obtain⟨_,hyc,_⟩:=hx.new_ hcx _ _ _ hr
     rcases hyc with ⟨cs,rfl⟩|rfl
     all_goals
      cases hcy:cls C o with
      |t=>rw[hy.none_ (.inl hcy)]at hq;cases hq
      |q=>rw[hy.none_ (.inr hcy)]at hq;cases hq
      |a=>have:=(hy.new_ hcy _ _ _ hq).1;rw[this]at e1;cases e1
      |p=>obtain⟨n,z',hh⟩:=(hy.app_ hcy _ _ _ hq).1 _ e1.symm;cases hh
      |_=>rw[hcx,hcy]at hcl;simp[zH0]at hcl
    |w=>
     obtain⟨_,hm,_⟩:=hx.wr_ hcx _ _ _ hr
     cases hcy:cls C o with
     |t=>rw[hy.none_ (.inl hcy)]at hq;cases hq
     |p=>obtain⟨n,z',hh⟩:=(hy.app_ hcy _ _ _ hq).1 _ e1.symm;rw[hh]at hm;cases hm
     |_=>rw[hcx,hcy]at hcl;simp[zH0]at hcl
    |p=>
     obtain⟨_,n,z',rfl⟩:=hx.app_ hcx _ _ _ hr
     cases hcy:cls C o with
     |t=>rw[hy.none_ (.inl hcy)]at hq;cases hq
     |q=>rw[hy.none_ (.inr hcy)]at hq;cases hq
     |a=>have:=(hy.new_ hcy _ _ _ hq).1;rw[this]at e1;cases e1
     |w=>obtain⟨⟨x,hx1,hx2⟩,_⟩:=hy.wr_ hcy _ _ _ hq;rw[hx1]at e1;cases e1;cases hx2
     |_=>rw[hcx,hcy]at hcl;simp[zH0]at hcl
   ·intro r y q z hr hq
    have hpx:cls C oj= .p:=by
     cases hcx:cls C oj with
     |t=>rw[hx.none_ (.inl hcx)]at hr;cases hr
     |q=>rw[hx.none_ (.inr hcx)]at hr;cases hr
     |z=>exact absurd hcx hzx
     |a=>have:=(hx.new_ hcx _ _ _ hr).1;cases this
     |w=>obtain⟨⟨x,hx1,_⟩,_⟩:=hx.wr_ hcx _ _ _ hr;cases hx1
     |m=>obtain⟨⟨x,hx1⟩,_⟩:=hx.mp_ hcx _ _ _ hr;cases hx1
     |i=>
      exfalso
      cases hcy:cls C o with
      |t=>rw[hy.none_ (.inl hcy)]at hq;cases hq
      |_=>rw[hcx,hcy]at hcl;simp[zH0]at hcl
     |p=>rfl
    have hpy:cls C o= .p:=by
     cases hcx:cls C o with
     |t=>rw[hy.none_ (.inl hcx)]at hq;cases hq
     |q=>rw[hy.none_ (.inr hcx)]at hq;cases hq
     |z=>exact absurd hcx hzy
     |a=>have:=(hy.new_ hcx _ _ _ hq).1;cases this
     |w=>obtain⟨⟨x,hx1,_⟩,_⟩:=hy.wr_ hcx _ _ _ hq;cases hx1
     |m=>obtain⟨⟨x,hx1⟩,_⟩:=hy.mp_ hcx _ _ _ hq;cases hx1
     |i=>
      exfalso
      rw[hpx,hcx]at hcl;simp[zH0]at hcl
     |p=>rfl
    rw[hpx,hpy]at hcl;simp[zH0]at hcl
   ·intro hcy r X y' hr
    left
    cases hcx:cls C oj with
    |t=>rw[hx.none_ (.inl hcx)]at hr;cases hr
    |q=>rw[hx.none_ (.inr hcx)]at hr;cases hr
    |p=>obtain⟨_,n,z',rfl⟩:=hx.app_ hcx _ _ _ hr;intro y hy';cases hy';rfl
    |_=>rcases hcy with hcy|hcy<;>(rw[hcx,hcy]at hcl;simp[zH0]at hcl)
   ·intro hcx r X y' hr
    left
    cases hcy:cls C o with
    |t=>rw[hy.none_ (.inl hcy)]at hr;cases hr
    |q=>rw[hy.none_ (.inr hcy)]at hr;cases hr
    |a=>have:=(hy.new_ hcy _ _ _ hr).1;rw[this];intro y hy';cases hy';rfl
    |p=>intro y hy';obtain⟨n,z',hh⟩:=(hy.app_ hcy _ _ _ hr).1 _ hy';rw[hh];rfl
    |_=>rcases hcx with hcx|hcx<;>(rw[hcx,hcy]at hcl;simp[zH0]at hcl)
  ·obtain⟨⟨hnd,hallz⟩,hcl⟩:=hcl
   have hz:∀m∈ops.toList,cls C m≠ .z:=fun m hm=>by simpa using List.all_eq_true.1 hallz m hm
   split at hcl
   case h_2=>cases hcl
   rename_i tx ty htx hty
   simp only[YAA]at hcl
   obtain⟨⟨hDm,ho1⟩,ho2⟩:=hcl
   obtain⟨w1,w2⟩:=zRV ho1
   obtain⟨w3,w4⟩:=zRV ho2
   have hdis:Dis (s'.env tx) (s'.env ty):=zFn hD (by simpa using hDm)
   have hji:∀m∈pre++i::post,j<m:=hso.1
   have hso2:=hso.2
   rw[List.pairwise_append,List.pairwise_cons]at hso2
   have e1:s'.env tx=s1.env tx:=zUu hz _ (fun m hm om hom=>w1 m om (hji m hm) hom) h3
   have e0:cls C oj≠ .a->s'.env tx=s.env tx:=fun hna=>by
    rw[e1,hx.to]
    refine zBf _ _ _ fun e he hh=> ?_
    rcases w2 with w2|w2
    ·exact hna (zMA w2)
    ·exact w2 (by rw[he,hh])
   have hpre:∀m∈pre,∀om,ops[m]?=some om->ty∈o.looksAt ops->om.dst≠some ty:=fun m hm om hom hl=>by
    have:=hf m (YAT _ hm) om hom
    simp only[zH1,YAA]at this
    exact fun hd=>(Oper.apart_spec this.1).1 _ hd hl
   have hpre2:∀m∈pre,∀om,ops[m]?=some om->o.dst=some ty->om.dst≠some ty:=fun m hm om hom hl hd=>by
    have:=hf m (YAT _ hm) om hom
    simp only[zH1,YAA]at this
    exact(Oper.apart_spec this.1).2.1 _ hd hl
   have f2:(ty∈o.looksAt ops\/o.dst=some ty)->s'.env ty=s2.env ty:=fun hl=>zUu hz _ (fun m hm om hom=>by
    rcases List.mem_append.1 hm with hm|hm
    ·rcases hl with hl|hl
     ·exact hpre m hm om hom hl
     ·exact hpre2 m hm om hom hl
    ·exact w3 m om (hso2.2.1.1 m hm) hom) g2
   have f1:cls C o≠ .a->ty∈o.looksAt ops->s'.env ty=s1.env ty:=fun hna hl=>by
    rw[f2 (.inl hl),hy.to]
    refine zBf _ _ _ fun e he hh=> ?_
    rcases w4 with w4|w4
    ·exact hna (zMA w4)
    ·exact w4 (by rw[he,hh])
   have looks:∀ {o:Oper} {t:Tmp},adrT o=some t->t∈o.looksAt ops:=by
    intro o t h
    unfold adrT at h
    split at h
    ·rename_i hop;cases h
     exact List.mem_append_left _ (List.mem_filterMap.2 ⟨.tmp t,by simp[hop,Op.operands],rfl⟩)
    ·rename_i hop;cases h
     exact List.mem_append_left _ (List.mem_filterMap.2 ⟨.tmp t,by simp[hop,Op.operands],rfl⟩)
    ·cases h
   have ox:cls C oj= .w\/cls C oj= .a->∀r X y',od=some (r,X,y')->zQq (s'.env tx)=some r:=by
    rintro(hc|hc) r X y' hr
    ·rw[e0 (by rw[hc];simp)]
     exact(hx.wr_ hc _ _ _ hr).2.2 _ (by rw[<-zQs (C:=C) (by rw[hc];simp)];exact htx)
    ·rw[zQr hc]at htx
     rw[e1,hx.to,htx,zBe]
     exact(hx.new_ hc _ _ _ hr).2.2
   have oy:cls C o= .w\/cls C o= .a->∀r X y',oe=some (r,X,y')->zQq (s'.env ty)=some r:=by
    rintro(hc|hc) r X y' hr
    ·have ha:adrT o=some ty:=by rw[<-zQs (C:=C) (by rw[hc];simp)];exact hty
     rw[f1 (by rw[hc];simp) (looks ha)]
     exact(hy.wr_ hc _ _ _ hr).2.2 _ ha
    ·rw[zQr hc]at hty
     rw[f2 (.inr hty),hy.to,hty,zBe]
     exact(hy.new_ hc _ _ _ hr).2.2
   have cx:cls C oj= .q\/cls C oj= .w\/cls C oj= .a:=by revert hnd;cases cls C oj<;>simp[zP4]
   have cy:cls C o= .q\/cls C o= .w\/cls C o= .a:=by revert hnd;cases cls C o<;>cases cls C oj<;>simp[zP4]
   refine fin ?_ ?_ ?_ ?_
   ·intro r X y' q Z z hr hq
    have h1':cls C oj= .w\/cls C oj= .a:=cx.resolve_left fun h=>by rw[hx.none_ (.inr h)]at hr;cases hr
    have h2':cls C o= .w\/cls C o= .a:=cy.resolve_left fun h=>by rw[hy.none_ (.inr h)]at hq;cases hq
    exact hdis _ _ (ox h1' _ _ _ hr) (oy h2' _ _ _ hq)
   ·intro r y q z hr hq
    rcases cx with h|h|h
    ·rw[hx.none_ (.inr h)]at hr;cases hr
    ·obtain⟨⟨x,hx1,_⟩,_⟩:=hx.wr_ h _ _ _ hr;cases hx1
    ·have:=(hx.new_ h _ _ _ hr).1;cases this
   ·intro hcy r X y' hr
    have h1':cls C oj= .w\/cls C oj= .a:=cx.resolve_left fun h=>by rw[hx.none_ (.inr h)]at hr;cases hr
    have ha:adrT o=some ty:=by rw[<-zQs (C:=C) (by rcases hcy with h|h<;>rw[h]<;>simp)];exact hty
    refine .inr (.inl ⟨ty,ha,fun hh=> ?_⟩)
    rw[<-f1 (by rcases hcy with h|h<;>rw[h]<;>simp) (looks ha)]at hh
    exact hdis _ _ (ox h1' _ _ _ hr) hh rfl
   ·intro hcx r X y' hr
    have h2':cls C o= .w\/cls C o= .a:=cy.resolve_left fun h=>by rw[hy.none_ (.inr h)]at hr;cases hr
    have ha:adrT oj=some tx:=by rw[<-zQs (C:=C) (by rcases hcx with h|h<;>rw[h]<;>simp)];exact htx
    refine .inr (.inl ⟨tx,ha,fun hh=> ?_⟩)
    rw[<-e0 (by rcases hcx with h|h<;>rw[h]<;>simp)]at hh
    exact hdis _ _ hh (oy h2' _ _ _ hr) rfl
def mask(o:Oper)(acc:List Nat):Nat:=o.after.toList.foldr (fun e m=>if Region.binds .any e then(2 ^ e.on|||acc.getD e.on 0)|||m else m) 0
def ancs:List Oper->List Nat->List Nat
 | [],acc=>acc
 |o::r,acc=>ancs r (acc++ [mask o acc])
theorem zO5{o:Oper}{acc:List Nat}{j:Nat}(h:(mask o acc).testBit j=true):∃e∈o.after.toList,Region.binds .any e=true/\(e.on=j\/(acc.getD e.on 0).testBit j=true):=by
 unfold mask at h
 generalize o.after.toList=es at h
 induction es with
 |nil=>simp at h
 |cons e es ih=>
  simp only[List.foldr_cons]at h
  split at h
  ·rename_i hb
   simp only[Nat.testBit_or,YAP,Nat.testBit_two_pow,YAa]at h
   rcases h with (h|h)|h
   ·exact⟨e,YAU,hb,.inl h⟩
   ·exact⟨e,YAU,hb,.inr h⟩
   ·obtain⟨e',h1,h2⟩:=ih h;exact⟨e',YAT _ h1,h2⟩
  ·obtain⟨e',h1,h2⟩:=ih h;exact⟨e',YAT _ h1,h2⟩
theorem zCP:∀(l:List Oper) (acc:List Nat) (i:Nat),i<acc.length->(ancs l acc).getD i 0=acc.getD i 0
 | [],acc,i,h=>rfl
 |o::l,acc,i,h=>by
  rw[ancs,zCP l _ i (by simp;omega)]
  simp[YAF,List.getElem?_append,h]
theorem zCO{o:Oper}{j:Nat}:∀(l:List Oper) (acc:List Nat) (i:Nat),l[i]?=some o->((ancs l acc).getD (acc.length+i) 0).testBit j=true->
 (∀e∈o.after.toList,Region.binds .any e=true->e.on<acc.length+i)->∃e∈o.after.toList,Region.binds .any e=true/\(e.on=j\/((ancs l acc).getD e.on 0).testBit j=true)
 | [],acc,i,h,_,_=>by simp at h
 |o'::l,acc,0,h,hb,hlt=>by
  simp only[List.getElem?_cons_zero,YAM]at h
  subst h
  rw[ancs,Nat.add_zero,zCP l _ _ (by simp)]at hb
  simp only[YAF,List.getElem?_append,Nat.lt_irrefl,if_false,Nat.sub_self,List.getElem?_cons_zero,Option.getD_some]at hb
  obtain⟨e,h1,h2,h3⟩:=zO5 hb
  refine⟨e,h1,h2,h3.imp id fun h3=> ?_⟩
  have:=hlt e h1 h2
  rw[ancs,zCP l _ _ (by simp;omega)]
  simpa [YAF,List.getElem?_append,show e.on<acc.length by omega]using h3
 |o'::l,acc,i+1,h,hb,hlt=>by
  have h':l[i]?=some o:=by simpa using h
  rw[ancs]at hb⊢
  have:=zCO l (acc++ [mask o' acc]) i h' (by simpa [Nat.add_assoc,Nat.add_comm 1 i]using hb) (fun e h1 h2=>by have:=hlt e h1 h2;simp;omega)
  exact this
def chk(C:Cfg)(ops:Array Oper)(D:List (Tmp×Tmp)):Bool:=
 let A:=ancs ops.toList []
 (List.range ops.size).all fun i=>match ops[i]? with
  |none=>true
  |some o=>(o.after.toList.all fun e=> !Region.binds .any e||decide (e.on<i))&&(List.range i).all fun j=>(A.getD i 0).testBit j||match ops[j]? with
   |some oj=>zH1 C ops D j oj i o
   |none=>true
theorem zEr{D:List (Tmp×Tmp)}(h:chk C ops D=true){i:Nat}{o:Oper}(hi:ops[i]?=some o):(∀e∈o.after.toList,Region.binds .any e=true->e.on<i)/\
 ∀j,j<i->((ancs ops.toList []).getD i 0).testBit j=true\/∀oj,ops[j]?=some oj->zH1 C ops D j oj i o=true:=by
 have hlt:i<ops.size:=(Array.getElem?_eq_some_iff.1 hi).1
 simp only[chk,List.all_eq_true,List.mem_range]at h
 have h1:=h i hlt
 rw[hi]at h1
 simp only[YAA,List.all_eq_true,List.mem_range,YAP,YAD,YAa]at h1
 refine⟨fun e he hb=>(h1.1 e he).resolve_left (by simp[hb]),fun j hj=>(h1.2 j hj).imp id fun h2 oj hoj=>by rw[hoj]at h2;exact h2⟩
def Closed(ops:Array Oper)(listed:Array Bool):Prop:=∀i j,listed.getD i true=true->i<ops.size->((ancs ops.toList []).getD i 0).testBit j=true->listed.getD j false=true
def todo(ops:Array Oper)(listed:Array Bool):List Nat:=(List.range ops.size).filter fun i=> !listed.getD i true
theorem zPI{listed:Array Bool}{i:Nat}:i∈todo ops listed ↔ i<ops.size/\listed.getD i true=false:=by simp[todo]
theorem zYY(listed:Array Bool):(todo ops listed).Pairwise (· < ·):=List.Pairwise.filter _ List.pairwise_lt_range
theorem zYX{listed:Array Bool}{i:Nat}(hsz:listed.size=ops.size)(hi:i<ops.size):todo ops (listed.setIfInBounds i true)=(todo ops listed).filter (· !=i):=by
 unfold todo
 rw[List.filter_filter]
 refine List.filter_congr fun j hj=> ?_
 by_cases hij:i=j
 ·subst hij;simp[hsz,hi]
 ·rw[getD_set_ne true hij]
  have:(j !=i)=true:=by simp[Ne.symm hij]
  rw[this,Bool.true_and]
theorem zHc{pre post:List Nat}{i:Nat}(h:(pre++i::post).Pairwise (· < ·)):(pre++i::post).filter (· !=i)=pre++post:=by
 rw[List.pairwise_append]at h
 obtain⟨h1,h2,h3⟩:=h
 rw[List.pairwise_cons]at h2
 rw[List.filter_append,List.filter_cons]
 have e1:pre.filter (· !=i)=pre:=List.filter_eq_self.2 fun x hx=>by
  have:=h3 x hx i YAU;simp;omega
 have e2:post.filter (· !=i)=post:=List.filter_eq_self.2 fun x hx=>by
  have:=h2.1 x hx;simp;omega
 rw[e1,e2];simp
theorem zEv{D:List (Tmp×Tmp)}{listed:Array Bool}{i:Nat}(hc:Closed ops listed)(hk:chk C ops D=true)(hsz:listed.size=ops.size)(hr:i∈Region.ready .any ops listed):Closed ops (listed.setIfInBounds i true):=by
 intro k j hk1 hk2 hbit
 obtain⟨h0,o,ho,hall⟩:=mem_ready.1 hr
 by_cases hki:k=i
 ·subst hki
  have hlt:=(zEr hk ho).1
  obtain⟨e,h1,h2,h3⟩:=zCO ops.toList [] k (by simpa using ho) (by simpa using hbit) (by simpa using hlt)
  have hl:=hall e (Array.mem_toList_iff.1 h1) h2
  rcases h3 with rfl|h3
  ·exact getD_set_true hl
  ·have helt:e.on<ops.size:=by have:=hlt e h1 h2;omega
   refine getD_set_true (hc e.on j ?_ helt h3)
   have:e.on<listed.size:=by omega
   simpa [this]using hl
 ·refine getD_set_true (hc k j ?_ hk2 hbit)
  rwa[getD_set_ne true (Ne.symm hki)]at hk1
theorem zTW{D:List (Tmp×Tmp)}{listed:Array Bool}{i j:Nat}{o oj:Oper}(hc:Closed ops listed)(hk:chk C ops D=true)(hsz:listed.size=ops.size)(hr:i∈Region.ready .any ops listed)(hi:ops[i]?=some o)(hj:ops[j]?=some oj)
 (hji:j<i) (hun:listed.getD j true=false):zH1 C ops D j oj i o=true:=by
 obtain⟨h1,h2⟩:=zEr hk hi
 rcases h2 j hji with hb|hf
 ·exfalso
  obtain⟨_,o',ho',hall⟩:=mem_ready.1 hr
  rw[hi]at ho';cases ho'
  obtain⟨e,h3,h4,h5⟩:=zCO ops.toList [] i (by simpa using hi) (by simpa using hb) (by simpa using h1)
  have hl:=hall e (Array.mem_toList_iff.1 h3) h4
  have hlt:i<ops.size:=(Array.getElem?_eq_some_iff.1 hi).1
  have helt:e.on<listed.size:=by have:=h1 e h3 h4;omega
  have hjl:listed.getD j false=true:=by
   rcases h5 with rfl|h5
   ·exact hl
   ·exact hc e.on j (by simpa [helt]using hl) (by omega) h5
  have hjs:j<listed.size:=by omega
  simp[hjs]at hun hjl
  rw[hun]at hjl;cases hjl
 ·exact hf oj hj
theorem zTX{D:List (Tmp×Tmp)}{listed:Array Bool}{i:Nat}{l:List Nat}(hk:chk C ops D=true)(hsz:listed.size=ops.size)(h:todo ops listed=i::l):i∈Region.ready .any ops listed:=by
 have hm:i∈todo ops listed:=by rw[h];exact YAU
 obtain⟨h1,h2⟩:=zPI.1 hm
 have ho:ops[i]?=some ops[i]:=Array.getElem?_eq_getElem h1
 refine mem_ready.2 ⟨h2,_,ho,fun e he hb=> ?_⟩
 have hlt:=(zEr hk ho).1 e (Array.mem_toList_iff.2 he) hb
 have hs:=zYY (ops:=ops) listed
 rw[h,List.pairwise_cons]at hs
 cases hl:listed.getD e.on true with
 |true=>
  have:e.on<listed.size:=by omega
  simpa [this]using hl
 |false=>
  have hme:e.on∈todo ops listed:=zPI.2 ⟨by omega,hl⟩
  rw[h]at hme
  rcases List.mem_cons.1 hme with h3|h3
  ·omega
  ·have:=hs.1 _ h3;omega
theorem zbK{D:List (Tmp×Tmp)}(hC:zAb P C)(hk:chk C ops D=true){n b:Nat}{num:Nat->Nat}(hok:∀o∈ops.toList,zRm o=true/\zF0 n o=true){Q:Exit->AState->Prop}{V0:View}{w0:World}:
 ∀(fuel:Nat) {listed:Array Bool} {V:View} {a:Act} {w:World} {s s':AState},(todo ops listed).length<=fuel->listed.size=ops.size->Closed ops listed->s.n=n->s.b=b->Rel V a w s->V0.LeB b V->Below V0.base w0 w->
  Run P C ops num (todo ops listed) s s'->DisL D s'->ZLd C s'->Q .normal s'->wpAny P .any ops (Post V0 w0 n b Q) fuel listed a w:=by
 intro fuel
 have hdone:∀ {listed:Array Bool},listed.size=ops.size->(Region.ready .any ops listed=[]->todo ops listed=[]):=by
  intro listed hsz hr
  cases ht:todo ops listed with
  |nil=>rfl
  |cons i l=>have:=zTX hk hsz ht;rw[hr]at this;cases this
 induction fuel with
 |zero=>
  intro listed V a w s s' hf hsz hc hn hb hr hV hB hrun hD hZ hq
  have ht:todo ops listed=[]:=List.eq_nil_of_length_eq_zero (by omega)
  rw[ht]at hrun
  simp only[Run]at hrun
  subst hrun
  refine⟨?_,V,s,hV,hB,hr,hn,hb,hq⟩
  cases hrd:Region.ready .any ops listed with
  |nil=>rfl
  |cons i l=>
   obtain⟨h1,o,ho,_⟩:=mem_ready.1 (show i∈Region.ready .any ops listed by rw[hrd];exact YAU)
   have:i∈todo ops listed:=zPI.2 ⟨(Array.getElem?_eq_some_iff.1 ho).1,h1⟩
   rw[ht]at this;cases this
 |succ fuel ih=>
  intro listed V a w s s' hf hsz hc hn hb hr hV hB hrun hD hZ hq
  refine⟨fun hrd=> ?_,fun i hi=> ?_⟩
  ·have ht:=hdone hsz hrd
   rw[ht]at hrun
   simp only[Run]at hrun
   subst hrun
   exact⟨V,s,hV,hB,hr,hn,hb,hq⟩
  ·obtain⟨h1,o,ho,hall⟩:=mem_ready.1 hi
   have hlt:i<ops.size:=(Array.getElem?_eq_some_iff.1 ho).1
   have hm:i∈todo ops listed:=zPI.2 ⟨hlt,h1⟩
   obtain⟨pre,post,hsp⟩:=List.append_of_mem hm
   have hsorted:=zYY (ops:=ops) listed
   rw[hsp]at hsorted
   have hset:todo ops (listed.setIfInBounds i true)=pre++post:=by rw[zYX hsz hlt,hsp,zHc hsorted]
   rw[hsp]at hrun
   have hpre:∀j∈pre,∀oj,ops[j]?=some oj->zH1 C ops D j oj i o=true:=by
    intro j hj oj hoj
    have hjm:j∈todo ops listed:=by rw[hsp];exact List.mem_append_left _ hj
    rw[List.pairwise_append]at hsorted
    exact zTW hc hk hsz hi ho hoj (hsorted.2.2 j hj i YAU) (zPI.1 hjm).2
   obtain⟨s1,g1,g2⟩:=bubble hC ho pre (hr.hb) hsorted hpre hD hZ hrun
   have hoo:=hok o (Array.mem_toList_iff.2 (Array.mem_of_getElem? ho))
   refine zXT hC hr ho hoo.1 (by rw[hn];exact hoo.2) g1 fun V' a' w' k1 k2 k3 k4 k5=> ?_
   refine ih ?_ (by simpa using hsz) (zEv hc hk hsz hi) (by rw[k4,hn]) (by rw[k5,hb]) k3 (hV.trans (k1.toB b)) (hB.trans (by rw[<-hV.base];exact k2)) (by rw[hset];exact g2) hD hZ hq
   rw[hset]
   rw[hsp]at hf
   simp only[YAJ,List.length_cons]at hf⊢
   omega
end
end Go.Ab
end
