/- Lemmas: further calls over objects. No condition. -/
import Derived.Test.YtdngjamjccjlmaaPRb
import Derived.Test.YtdngjamjccjlmaaPAc
section
/- Is a slice nil? Where this is not known both answers are gone on with. Condition: the executor's table of types is the program's. -/
set_option linter.unusedSimpArgs false
set_option linter.unusedVariables false
namespace Go.Ab
open Go
open Go.RowKit (Below)
section
variable {P : Program} {C : Cfg} {V : View} {w : World} {s : AState} {a : Act} {o : Oper}
theorem zeK{t e:TypeId}(hu:P.underlying t=some (.slice e))(m n m' n' d:Nat):∃b,(Op.equalIn (d+1) t (.slice none m n) (.slice none m' n')).run P w= .ok b w:=by
 simp only[Op.equalIn,Sem.run_bind,Go.run_underlying hu,Result.andThen_ok,Sem.run_pure]
 exact⟨_,rfl⟩
theorem zgY{t e:TypeId}(hu:P.underlying t=some (.slice e))(bse:Option Addr)(m n m' n':Nat):∃b,(binOp .eql t (.slice bse m n) (.slice none m' n')).run P w= .ok (.bool b) w:=by
 cases bse with
 |some x=>exact⟨false,by simp only[binOp,Sem.run_bind,zHN hu,Result.andThen_ok,Sem.run_pure]⟩
 |none=>
  obtain⟨b,hb⟩:=zeK (P:=P) (w:=w) hu m n m' n' 9999
  have hb':(Op.equal t (.slice none m n) (.slice none m' n')).run P w= .ok b w:=hb
  exact⟨b,by simp only[binOp,Sem.run_bind,hb',Result.andThen_ok,Sem.run_pure]⟩
theorem zgt(hC:zAb P C)(hr:Rel V a w s){t yt e:Nat}{x y:Operand}{l:TL}{tk:Tk}(hx:zRn x=true)(hy:zRn y=true)(hT:C.ty t=some l)(hd:l.d= .sl e)(hev:s.ev x= .sl [] tk)(hev2:s.ev y= .sl [] .full)
 (hop:o.op= .binOp .eql t x y yt):∃b,zAz P V a w s o ⟨True,.bool b,s⟩:=by
 obtain⟨d,hrd,hdd⟩:=(hC _ _ hT).desc
 rw[hd]at hdd;simp only[zAe]at hdd;subst hdd
 have hrx:=zHQ hr x hx
 have hry:=zHQ hr y hy
 rw[hev]at hrx
 rw[hev2]at hry
 generalize hv:a.eval x=u at hrx
 generalize hv2:a.eval y=u2 at hry
 cases hrx with
 |sl bse len cap es tok size b o' val hl hcap hm hb hs himm hrr ht hf=>
  cases hry with
  |sl bse' len' cap' es' tok' size' b' o'' val' hl' hcap' hm' hb' hs' himm' hrr' ht' hf'=>
   obtain⟨hf1,_⟩:=hf'
   obtain⟨_,hnone⟩:=hf1 rfl
   have h0:len'=0:=by simpa using hl'.symm
   have hbn:=hnone h0
   subst hbn
   obtain⟨bb,hbb⟩:=zgY (P:=P) (w:=w) hrd bse len cap len' cap'
   refine⟨bb,.val hr (u:= .bool bb) ?_ (.bool bb)⟩
   have hg:(eqGuard .eql t x y (.slice bse len cap) (.slice none len' cap')).run P w= .ok () w:=rfl
   simp only[execOp,hop,hv,hv2,Sem.run_bind,hg,Result.andThen_ok,hbb,Sem.run_pure]
theorem zd7(hC:zAb P C){id:Nat}{o1 o2:Oper}{Q:Exit->AState->Prop}{v:AV}{t yt e:Nat}{x y:Operand}{l:TL}{tk:Tk}
 (hok:zFG s.n (.region id #[o1,o2] false)=true) (h1:guardOf #[o1,o2] o1=none) (h2:o2.guard=none) (e1:∀K,K (s.put o1.dst v)->xop P C o1 K s)
 (hT:C.ty t=some l) (hd:l.d= .sl e) (hop:o2.op= .binOp .eql t x y yt) (hev:(s.put o1.dst v).ev x= .sl [] tk) (hev2:(s.put o1.dst v).ev y= .sl [] .full)
 (h:∀b,Q .normal ((s.put o1.dst v).put o2.dst (.bool b))):AWp P (.region id #[o1,o2] false) Q s:=by
 intro V a w hr
 simp only[zFG,List.all_eq_true,YAA]at hok
 have hk1:=hok o1 (by simp)
 have hk2:=hok o2 (by simp)
 refine wp_region ?_
 show wpOps P #[o1,o2] _ [0,1] a w
 rw[wpOps_cons]
 refine zbb hC hr (i:=0) rfl hk1.1 hk1.2 zEA (K:=fun s'=>s'=s.put o1.dst v) ?_ fun V' a' w' s' g1 g2 g3 g4 g4b g5=> ?_
 ·unfold xguard
  rw[h1]
  exact e1 _ rfl
 subst g5
 rw[wpOps_cons]
 unfold wpOp
 simp only[List.getElem?_toArray,List.getElem?_cons_succ,List.getElem?_cons_zero]
 rw[if_pos (by simp[Region.wanted,h2])]
 refine .inl ?_
 have hks:∀z∈o2.op.operands.toList,zRn z=true:=List.all_eq_true.1 hk2.1
 obtain⟨b,nx,w2,V2,hrun,hV,hB,hW,j1,j2,j3,hor⟩:=zgt hC g3 (hks x (by simp[hop,Op.operands])) (hks y (by simp[hop,Op.operands])) hT hd hev hev2 hop
 have hrel:=g3.of_w hV hW j1 j2
 unfold Oper.wp
 rw[hrun]
 rcases hor with ⟨u,rfl,hu⟩|⟨_,hv⟩
 ·rw[Oper.upon_value]
  exact⟨V2,_,g1.toB _|>.trans (hV.toB _),g2.trans (by rw[<-g1.base];exact hB),hrel.put hu (fun d hd'=>by rw[g4];exact zF1 hk2.2 d hd'),by cases o2.dst<;>exact g4,by cases o2.dst<;>exact g4b,h b⟩
 ·cases hv
end
end Go.Ab
end
section
/- Calls that hand back slices with their owners, the locals struck. Conditions stand ahead of each part. -/
set_option linter.unusedSimpArgs false
set_option linter.unusedVariables false
namespace Go.Ab
open Go
section
variable {P : Program} {C : Cfg} {e : Nat -> AV} {F : List AObj} {b n : Nat}
def retO(C:Cfg)(rs:List ResultVar)(R:AV->List AObj->Prop)(e:Exit)(s:AState):Prop:=
 (match e with| .normal| .ret=>True|_=>False)/\
 match zCc C s rs with
 |some (c,vs)=>c/\(zYm vs).bel s.b=true/\R (zYm vs) s.H
 |none=>False
theorem zlo(hC:zAb P C){f:Nat}{fn:Func}{c:Code}{args:List AV}{H:List AObj}{R:AV→List AObj→Prop}(hf:P.funcs[f]?=some fn)(hb:fn.body=some c)(hname:(fn.name== "runtime.NumGoroutine")=false)
 (hn:args.length<=fn.ntmps) (hok:zFG fn.ntmps c=true) (h:AV.zRR args->Go P C (retO C fn.results.toList R) [.code c] (FS (fun t=>args.getD t .any) H H.length fn.ntmps)):zAA P f args H R:=by
 refine zBS ⟨fn,hf,by simp[hb],hname⟩ fun hok'=>acalls hC hf hb hname hn hok ?_
 have h1:=h hok'
 have h2:FS (fun t=>args.getD t .any) H H.length fn.ntmps=zLe args H fn.ntmps:=by simp[FS,zLe]
 rw[h2]at h1
 exact zBG c (fun e s' h2=>by
  obtain⟨h3,h4⟩:=h2
  refine⟨h3,?_⟩
  split at h4
  ·rename_i c vs hares
   try rw[hares]
   exact⟨h4.1,.inr ⟨h4.2.1,h4.2.2⟩⟩
  ·exact h4.elim) h1
theorem znE{rs:List ResultVar}{R:AV->List AObj->Prop}:retO C rs R .ret (FS e F b n)=match zCc C (FS e F b n) rs with
 |some (c,vs)=>c/\(zYm vs).bel b=true/\R (zYm vs) (F.take b)
 |none=>False:=by
 simp only[retO,fs_H,true_and,fs_b]
theorem znD{rs:List ResultVar}{R:AV->List AObj->Prop}:retO C rs R .normal (FS e F b n)=match zCc C (FS e F b n) rs with
 |some (c,vs)=>c/\(zYm vs).bel b=true/\R (zYm vs) (F.take b)
 |none=>False:=by
 simp only[retO,fs_H,true_and,fs_b]
end
theorem eO{P:Program}{C:Cfg}{f:Nat}{fn:Func}{c:Code}{args:List AV}{rs:Array ResultVar}(hC:zAb P C)(hf:P.funcs[f]?=some fn)(hs:fn.results=rs){H:List AObj}{R:AV→List AObj→Prop}(h:AV.zRR args→Go P C (retO C rs.toList R) [.code c] (FS (fun t=>args.getD t .any) H H.length fn.ntmps))(hb:fn.body=some c:=by exact rfl)(hname:(fn.name== "runtime.NumGoroutine")=false:=by decide)(hn:args.length≤fn.ntmps:=by exact YAL rfl)(hok:zFG fn.ntmps c=true:=by decide):zAA P f args H R:=by subst hs;exact zlo hC hf hb hname hn hok h
end Go.Ab
end
