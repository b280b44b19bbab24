/- Lemmas: the way of patterns of the document, last part. No condition. -/
import Derived.Test.YtdngjamjccjlmaaGreatX5
import Derived.Test.YtdngjamjccjlmaaGreatX6
import Derived.Test.YtdngjamjccjlmaaGreatPAf
import Derived.Test.YtdngjamjccjlmaaGreatPQc
import Derived.Test.YtdngjamjccjlmaaGreatPZb
import Derived.Test.YtdngjamjccjlmaaGreatPRy
import Derived.Test.YtdngjamjccjlmaaGreatQN
import Derived.Test.YtdngjamjccjlmaaGreatPW
import Derived.Test.YtdngjamjccjlmaaGreatPZa
set_option linter.unusedSimpArgs false
set_option linter.unusedVariables false
set_option maxHeartbeats 4000000
set_option maxRecDepth 100000
namespace Go.Proofs.YtdngjamjccjlmaaGreat
open Go Go.Ab
open Nat renaming reduceEqDiff -> yA, reduceAdd -> yB, reduceLeDiff -> yD, reduceBEq -> yG, reduceLT -> yC, reduceMul -> yE, reducePow -> yF
open AV renaming belL -> yO, bel -> yN, normL -> yQ, norm -> yP
attribute [local irreducible] zA0 zAA zAa zAi zAj GoIf GoGb zAk GoO GoD GoX GoDX GoG GoDG GoGv zAl Go zAB
section
section
variable {F : List AObj} {s r : Nat} {lim lv : Int}
theorem zmP(hs:s<F.length)(hr:r<F.length)(B A X0 X1 X T1 T2:AObj):
 stF (F++ [X0,X1,X]) s r B A++ [T1]++ [T2]=sxd (F++ [X0,X1,X,T1,T2]) s r F.length (F.length+3) (F.length+4) (F.length+2) B A X0 T1 T2 X:=by
 have e1:(((((F++ [X0,X1,X,T1,T2]).set F.length X0).set (F.length+3) T1).set (F.length+4) T2).set (F.length+2) X)=F++ [X0,X1,X,T1,T2]:=by
  rw[List.set_append_right _ _ (by omega),List.set_append_right _ _ (by omega),List.set_append_right _ _ (by omega),List.set_append_right _ _ (by omega)]
  simp
 unfold sxd
 rw[e1,zW9 (zN3 hs) (zN3 hr),zW9 (zN3 (zN3 hs)) (zN3 (zN3 hr))]
 simp
theorem znG(hs:s<F.length)(hr:r<F.length)(hne:r≠s)(hl:¬lv<0){q:Pt}(hq:okA q=true){n:Nat}{σ:Sto}(hg:GoodS σ)(hlim:σ.cnt<=lim)(hn:n<σ.L.length){e:Int}{x:IS}(h:PatR lim lv q n (IS.of σ) (e,x))(X0 X1:AObj):
 zAA Tryz.prog 36 [.bptr (F.length+2) 0,embP q,.int .i64 n,.int .i64 lv,.sl [] .full,.sl [] .full] (hpR (F++ [X0,X1,bxJ s (IS.of σ) 0]) s r σ.v σ.L.st lim σ.cnt)
  fun v G=>v= .tup [.sl (x.nm.map ST) (.own (F.length+3)),.sl (x.nd.map NI) (.own (F.length+4))]/\G=hJ (F++ [X0,X1,bxJ s (IS.of σ) 0,.tok 0 1,.tok 0 1]) s r F.length (F.length+3) (F.length+4) (F.length+2) lim X0 x e:=by
 have hD:=zMv hs hr hne X0 X1 (bxJ s (IS.of σ) 0) (.tok 0 1) (.tok 0 1)
 have d:=(zml hl q hq (y:=X0) hD n (IS.of σ) (e,x) hg hlim hn h).1
 have e0:(hpR (F++ [X0,X1,bxJ s (IS.of σ) 0]) s r σ.v σ.L.st lim σ.cnt).length=F.length+3:=by simp[hpR]
 refine(zlp (k:=4) (size:=1) rfl (zlp (k:=5) (size:=1) rfl ?_)).mono fun v G h=>h.2.2
 rw[YAJ,e0]
 simp only[List.set_cons_succ,List.set_cons_zero,List.length_cons,List.length_nil]
 unfold hpR
 rw[zmP hs hr]
 exact d
def hU(F:List AObj)(s r:Nat)(lim:Int)(X0 X1 b0:AObj)(x:IS)(e:Int):List AObj:=hJ (F++ [X0,X1,b0,.tok 0 1,.tok 0 1]) s r F.length (F.length+3) (F.length+4) (F.length+2) lim X0 x e
theorem zmH(X0 X1 b0:AObj)(x:IS)(e:Int):hU F s r lim X0 X1 b0 x e=stF (F++ [X0,X1,bxJ s x e,arT x.nm,arI x.nd]) s r (bxR r x.σ.v x.σ.L.st.length lim x.σ.cnt) (arR x.σ.v x.σ.L.st):=by
 unfold hU hJ sxd
 congr 1
 rw[List.set_append_right _ _ (by omega),List.set_append_right _ _ (by omega),List.set_append_right _ _ (by omega),List.set_append_right _ _ (by omega)]
 simp
@[simp] theorem zmI (X0 X1 b0:AObj) (x:IS) (e:Int):(hU F s r lim X0 X1 b0 x e).length=F.length+5:=by rw[zmH];simp
theorem hU_P(hs:s<F.length)(hr:r<F.length)(X0 b0:AObj)(x:IS)(e:Int):(∀X1,(hU F s r lim X0 X1 b0 x e).length=F.length+5)/\(∀X1,(hU F s r lim X0 X1 b0 x e)[F.length]?=some X0)/\(∀X1,(hU F s r lim X0 X1 b0 x e)[F.length+1]?=some X1)/\
 (∀X1,(hU F s r lim X0 X1 b0 x e)[F.length+2]?=some (bxJ s x e))/\(∀X1 z,(hU F s r lim X0 X1 b0 x e).set (F.length+1) z=hU F s r lim X0 z b0 x e)/\
 (∀X1,(hU F s r lim X0 X1 b0 x e).take F.length=hpR F s r x.σ.v x.σ.L.st lim x.σ.cnt)/\(∀X1,(F.length<=(hU F s r lim X0 X1 b0 x e).length)=True):=by
 simp only[zmH]
 refine⟨fun _=>by simp,fun _=> ?_,fun _=> ?_,fun _=> ?_,fun _ z=> ?_,fun _=>zXK hs hr,fun _=>by simp⟩
 ·rw[zXC (by omega) (by omega),zCT rfl];rfl
 ·rw[zXC (by omega) (by omega),zCU rfl];rfl
 ·rw[zXC (by omega) (by omega),zCU rfl];rfl
 ·rw[zXG (by omega) (by omega),zCY rfl];rfl
theorem zmG(hs:s<F.length)(hr:r<F.length)(hne:r≠s){K:List AObj}{v:Nat}{S:St}{cnt:Int}{X0 X1 b0:AObj}{x:IS}{e:Int}(hb:∀z∈(hpR (F++K) s r v S lim cnt).take F.length,z.bel F.length=true):
 ∀z∈(hU F s r lim X0 X1 b0 x e).take F.length,z.bel F.length=true:=by
 rw[(hU_P hs hr X0 b0 x e).2.2.2.2.2.1]
 unfold hpR at hb
 rw[zXK hs hr]at hb
 have h0:∀(bx ar:AObj),(stF F s r bx ar).take F.length=stF F s r bx ar:=fun _ _=>List.take_of_length_le (by rw[zXB];exact YAV _)
 rw[<-h0]at hb
 have:=zXA hs hr hne (fun _ h=>zeB (v':=x.σ.v) (n':=x.σ.L.st.length) (lim':=lim) (cnt':=x.σ.cnt) h) (zd4 _ x.σ.v x.σ.L.st) hb
 rw[h0]at this
 exact this
theorem znH(hs:s<F.length)(hr:r<F.length)(hne:r≠s)(hl:¬lv<0){q:Pt}(hq:chkP q=true)(hsz:zV6 q<=1000000){n:Nat}{σ:Sto}(hg:GoodS σ)(hlim:σ.cnt<=lim)(hn:n<σ.L.length){e:Int}{x:IS}(h:PatR lim lv q n (IS.of σ) (e,x)):
 zAd Tryz.prog 14 [.bptr s 0,embP q,.int .i64 n,.int .i64 lv] (hpR F s r σ.v σ.L.st lim σ.cnt) (zLn e x) (hpR F s r x.σ.v x.σ.L.st lim x.σ.cnt):=by
 have q1:=zTH q hsz
 rw[<-zEk,hq]at q1
 have q2:=fun J:List AObj=>zfl (F:=F++J) (v:=σ.v) (S:=σ.L.st) (lim:=lim) (cnt:=σ.cnt) (zN3 hs) (zN3 hr) hne (n:=n) (by rw[Mem.zXR];exact hn)
 have d:=fun X0 X1:AObj=>znG (lim:=lim) hs hr hne hl (zRK hq) hg hlim hn h X0 X1
 have hP:=fun X0 b0:AObj=>hU_P (lim:=lim) hs hr X0 b0 x e
 have c1:(lv<0)=False:=by simp[hl]
 unfold bxJ IS.of at d
 unfold zAd
 refine eD C_ok Tryz.func14 Tryz.results14 fun ok=> ?_
 repeat' (first
  |((first|apply bG|apply bH);simp only[yP,yQ,W2P];first|refine zIf (q1) (.inl rfl) ?_|refine zIB (q2 _) (.inl rfl) ?_)
  |skip)<;>simp only[↓zaL,WY,yA,yB,yD,reduceCtorEq,W1,W1P,WS,hpR,bxR,arR,stP hs hr hne,c1]
 refine fsCall (d _ _) (.inl rfl) fun v G hG hlen=> ?_
 obtain⟨rfl,rfl⟩:=hG
 refine⟨fun hb=>zmG (lim:=lim) hs hr hne hb,?_⟩
 rw[<-hU]
 unfold zLn badA
 by_cases he:e=0
 ·subst he
  simp only[if_true]
  repeat' simp only[↓zaL,WY,yA,yB,W1,WS,hP,bxJ,hpR,bxR,arR,zTh,YAO,yN,yO,zXu,zQM,zXs,zQK]
 ·simp only[if_neg he]
  have e1:(e !=0)=true:=by simpa using he
  repeat' (first
   |refine zKi (id:=6) C_ok (fun _=>trivial) mixed [(51,10)] 0 Tryz.f14.ntmps (by first|(simp;done)|(simp;omega)) rfl (by kernel_rfl) (by decide) ?_
   |skip)<;>simp only[↓zaL,WY,yA,yB,W1,WS,hP,bxJ,hpR,bxR,arR,zTh,e1,yN,yO]
theorem znF(hs:s<F.length)(hr:r<F.length)(hne:r≠s){q:Pt}(hsz:zV6 q<=1000000){n:Nat}{v:Nat}{S:St}{cnt:Int}(hn:n<S.length)(h:chkP q=false\/lv<0):
 zAd Tryz.prog 14 [.bptr s 0,embP q,.int .i64 n,.int .i64 lv] (hpR F s r v S lim cnt) (.tup [.sl [] .no,.sl [] .no,badA 0 0 0 0 0,.int .i64 1]) (hpR F s r v S lim cnt):=by
 have q1:=zTH q hsz
 rw[<-zEk]at q1
 have q2:=fun J:List AObj=>zfl (F:=F++J) (v:=v) (S:=S) (lim:=lim) (cnt:=cnt) (zN3 hs) (zN3 hr) hne hn
 unfold badA
 unfold zAd
 cases hc:chkP q with
 |false=>
  rw[hc]at q1
  refine eD C_ok Tryz.func14 Tryz.results14 fun ok=> ?_
  have h:=YAN
  repeat' (first
   |((first|apply bG|apply bH);simp only[yQ,W2P];refine zIf (q1) (.inl rfl) ?_)
   |skip)<;>simp only[↓zaL,WY,yA,yB,W1,W1P,WS,hpR,bxR,arR,stP hs hr hne,zTh,yN,yO]
 |true=>
  rw[hc]at q1 h
  have hlv:lv<0:=by simpa using h
  have c1:(lv<0)=True:=by simp[hlv]
  refine eD C_ok Tryz.func14 Tryz.results14 fun ok=> ?_
  repeat' (first
   |((first|apply bG|apply bH);simp only[yP,yQ,W2P];first|refine zIf (q1) (.inl rfl) ?_|refine zIB (q2 _) (.inl rfl) ?_)
   |skip)<;>simp only[↓zaL,WY,yA,yB,reduceCtorEq,W1,W1P,WS,hpR,bxR,arR,stP hs hr hne,zTh,yN,c1,yO]
theorem zmO(hs:s<F.length)(hr:r<F.length)(hne:r≠s){q:Pt}{n:Nat}{σ:Sto}(hg:GoodS σ)(hn:n<σ.L.length)(h:chkP q=false\/lv<0):
 zAd Tryz.prog 13 [.bptr s 0,embP q,.int .i64 n,.int .i64 lv] (σ.heap F s r lim) (.tup [.sl [] .no,.sl [] .no,badA 0 0 0 0 0,.int .i64 1]) (σ.heap F s r lim):=by
 have q1:=zEi q
 have q2:=fun J:List AObj=>zUI (F:=F++J) (v:=σ.v) (lim:=lim) (cnt:=σ.cnt) (rd:=σ.rd) (zN3 hs) (zN3 hr) hne hg.si.wf n hn
 have c2:((σ.L.st.root n:Int)<0)=False:=by simp
 have e1:((1:Int) !=0)=true:=rfl
 unfold badA Sto.heap
 unfold zAd
 cases hc:chkP q with
 |false=>
  rw[if_neg (by simp[hc])]at q1
  refine eD C_ok Tryz.func13 Tryz.results13 fun ok=> ?_
  have h:=YAN
  repeat' (first
   |((first|apply bG|apply bH);simp only[yQ,W2P];refine zIf (q1) (.inl rfl) ?_)
   |skip)<;>simp only[↓zaL,WY,yA,yB,W1,W1P,WS,hpS,bxS,arS,stP hs hr hne,zTh,yN,e1,yO]
 |true=>
  rw[if_pos hc]at q1
  rw[hc]at h
  have hlv:lv<0:=by simpa using h
  have c1:(lv<0)=True:=by simp[hlv]
  refine eD C_ok Tryz.func13 Tryz.results13 fun ok=> ?_
  repeat' (first
   |((first|apply bG|apply bH);simp only[yP,yQ,W2P];first|refine zIf (q1) (.inl rfl) ?_|refine zIB (q2 _) (.inl rfl) ?_)
   |skip)<;>simp only[↓zaL,WY,yA,yB,reduceCtorEq,W1,W1P,WS,hpS,bxS,arS,stP hs hr hne,zTh,yN,c1,c2,YAO,yO]
theorem zmK(hs:s<F.length)(hr:r<F.length)(hne:r≠s){K K':List AObj}{v v':Nat}{S S':St}{cnt lim' cnt':Int}(hb:∀z∈(hpR (F++K) s r v S lim cnt).take F.length,z.bel F.length=true):
 ∀z∈(hpR (F++K') s r v' S' lim' cnt').take F.length,z.bel F.length=true:=by
 unfold hpR at hb⊢
 rw[zXK hs hr]at hb⊢
 have h0:∀(bx ar:AObj),(stF F s r bx ar).take F.length=stF F s r bx ar:=fun _ _=>List.take_of_length_le (by rw[zXB];exact YAV _)
 rw[<-h0]at hb⊢
 exact zXA hs hr hne (fun _ h=>zeB h) (zd4 _ _ _) hb
def CPr:Cfg:= {C with inpl:=fun d=>d==13}
theorem zlg:zAb Tryz.prog CPr:=C_ok
theorem zlh(t:Nat):CPr.ty t=C.ty t:=rfl
theorem zlf(t:Nat):CPr.inpl t=(t==13):=rfl
def zl4(n i:Nat):List Int:=List.replicate i (-1)++List.replicate (n-i) 0
theorem zl7{n i:Nat}(h:i<n):(zl4 n i).set i (-1)=zl4 n (i+1):=by
 unfold zl4
 rw[List.set_append_right _ _ (by simp),List.length_replicate,Nat.sub_self,show n-i=(n-(i+1))+1 by omega,List.replicate_succ,List.set_cons_zero,List.replicate_succ']
 simp
theorem zl6{n i:Nat}(h:i<=n):(zl4 n i).length=n:=by simp[zl4];omega
theorem zl5(vs:List Int):zl4 vs.length vs.length=esZ vs []:=by
 simp only[zl4,Nat.sub_self,List.replicate_zero,List.append_nil,esZ]
 induction vs with
 |nil=>rfl
 |cons v vs ih=>simp only[List.length_cons,List.replicate_succ,List.map_cons,ih];rfl
theorem zmi(hs:s<F.length)(hr:r<F.length)(hne:r≠s){t:T}(hsz:nodes t.ty<=1000000){x y:MkS}{n e:Int}(hZ:x.Z=[])(h:zlm s r (F.length+1) lim (t.zaU []) t.ty x y n e)(hmax:(t.zaU []).length<=1000000):
 zAd Tryz.prog 11 [.bptr s 0,emb t.ty] (hpR F s r x.v x.L.st lim x.cnt) (.tup [.int .i64 n,.int .i64 e]) (hpR F s r y.v y.L.st lim y.cnt):=by
 have qv:=zTI t.ty (Nat.le_trans hsz (by decide))
 rw[zaa,T.zaX]at qv
 obtain⟨es',_,hlen,d⟩:=h
 rw[hZ]at d
 generalize t.zaU []=vs at*
 have d2:=fun(X Y:AObj)=>d (F++ [X,Y]) (zN3 hs) (zN3 hr) (by simp)
 have es:∀(X Y Z:AObj),(F++ [X,Y]).set (F.length+1) Z=F++ [X,Z]:=fun X Y Z=>by rw[List.set_append_right _ _ (by omega),Nat.add_sub_cancel_left];rfl
 simp only[es]at d2
 have w2:Int.toNat (vs.length:Int)=vs.length:=by simp
 have n17:((0:Int)<=(vs.length:Int))=True:=by simp
 have n18:((vs.length:Int)*((8:Nat):Int)<=((140737488355328:Nat):Int))=True:=by simp only[YAb,iff_true];omega
 have n16:((vs.length:Int)*8<=140737488355328)=True:=by simp only[YAb,iff_true];omega
 have hml:vs.length<=maxLen:=by rw[zPC];omega
 generalize t.ty=t at*
 unfold zAd
 refine eD zlg Tryz.func11 Tryz.results11 fun ok=> ?_
 repeat' (first
  |((first|apply bG|apply bH);simp only[yQ,W2];refine zIf (qv) (.inl rfl) ?_)
  |skip)<;>simp only[↓zaL,WY,yA,yB,W1,WS,zlh,zlf,yG,hpR,bxR,arR,stP hs hr hne,w2,n17,n18]
 refine zCN [8,0,3,6,7] ?_
 simp only[List.map_cons,List.map_nil,↓zaL,WY,yA,reduceCtorEq,WS]
 refine zJ1 1 (fun i:Nat=> [(8,.int .i64 i)]) (fun i=>hpR (F++ [.box (cellsOf (emb t)),arV (zl4 vs.length i)]) s r x.v x.L.st lim x.cnt) (fun i=>i<=vs.length) (fun i=>vs.length-i) zlg 0 rfl ?_ (YAX _) (by decide) ?_
 ·simp only[hpR,bxR,arR,arV,zl4,List.replicate_zero,List.nil_append,Nat.sub_zero,List.map_replicate,I64,zGy]
 rintro i hi
 simp only[List.drop_succ_cons,List.drop_zero,List.cons_append,List.nil_append]
 have hfl:=zl6 hi
 by_cases hlt:i<vs.length
 ·have hset:=zmM (zl4 vs.length i) i (-1)
  rw[zl7 hlt]at hset
  have hge:=zmL (es:=zl4 vs.length i) (i:=i) (by rw[hfl];exact hlt)
  repeat' simp only[↓zaL,↓zHC,WY,yA,reduceCtorEq,W1,WS,zlh,zlf,yG,hpR,bxR,arR,arV,stP hs hr hne,yN,hlt,hfl,hset,hge]
  refine⟨i+1,hlt,by omega,zap ?_ ?_⟩
  ·rfl
  ·simp only[WK,↓zaL,↓zHC,yA,yP,zbX hlt hml]
 ·obtain rfl:i=vs.length:=by omega
  have hlt':(vs.length<vs.length)=False:=by simp
  rw[zl5]
  have dd:=d2 (.box (cellsOf (emb t))) (.arr 0 1 [])
  rw[zGy]at dd⊢
  repeat' simp only[↓zaL,↓zHC,WY,yA,yB,reduceCtorEq,W1,WS,zlh,zlf,yG,hpR,bxR,arR,arV,stP hs hr hne,Int.lt_irrefl]
  refine zIA dd (.inl rfl) (fun hb=>zmK hs hr hne hb) ?_
  repeat' simp only[↓zaL,↓zHC,WY,yA,yB,reduceCtorEq,WS,hpR,bxR,arR,arV,stP hs hr hne,zTh,yN,yO]
  all_goals first|rfl|trace_state
end
end
section
def piH(n:Nat)(H:List AObj)(X0 X1:AObj)(lim:Int)(y x:MkS)(rd:Int)(Z:List (Int×Int))(J:List AObj:=[]):List AObj:=
 dH (H++X0::X1:: .dead:: .dead:: .dead:: .dead:: .map (embM Z)::J) (n+2) (n+3) (n+4) (n+5) y.v y.L lim y.cnt rd x.v x.L.st lim x.cnt
theorem zmv(H:List AObj)(X0 X1:AObj)(lim:Int)(y x:MkS)(rd:Int)(Z:List (Int×Int))(J:List AObj):piH H.length H X0 X1 lim y x rd Z J=H++X0::X1::bxS (H.length+3) y.v y.L.length lim y.cnt rd::arS y.v y.L::bxR (H.length+5) x.v x.L.st.length lim x.cnt::arR x.v x.L.st:: .map (embM Z)::J:=by
 unfold piH dH qua stF
 rw[zCY rfl,zCY rfl,zCY rfl,zCY rfl]
 rfl
theorem piD{J:List AObj}(H:List AObj)(X0 X1 A:AObj):QuaD (H++X0::X1:: .dead:: .dead:: .dead:: .dead::A::J) (H.length+2) (H.length+3) (H.length+4) (H.length+5):=
 ⟨by simp,by simp,by simp,by simp,⟨by omega,by omega,by omega⟩,by omega,by omega,by omega⟩
theorem zmx{H:List AObj}{X0 X1:AObj}{lim rd lvl:Int}{t:Ty}{x y:MkS}{n e:Int}(h:zdq (H.length+2) (H.length+3) (H.length+6) lim rd lvl t x y n e)(x':MkS):
 zAd Tryz.prog 10 [.bptr (H.length+2) 0,emb t,.int .i64 lvl,.mp (H.length+6)] (piH H.length H X0 X1 lim x x' rd x.Z) (.tup [.int .i64 n,.int .i64 e]) (piH H.length H X0 X1 lim y x' rd y.Z):=by
 have:=zeD (piD (J:=[]) H X0 X1 .dead) (m:=H.length+6) (by simp) (by omega) (by omega) h x'.v x'.L.st lim x'.cnt
 rw[zCY rfl,zCY rfl]at this
 exact this
theorem zlv:∀(k:Nat) (σ:Sto),(alk k σ).v=σ.v
 |0,σ=>rfl
 |k+1,σ=>zlv k σ
theorem zmJ{q:Pt}(h:zLI q=false):zV6 q<=401:=zLJ h
theorem zmy{H:List AObj}{X0 X1:AObj}{lim rd:Int}{t:T}{x y:MkS}{n e:Int}(hZ:x.Z=[])(hsz:nodes t.ty<=1000000)(hmax:(t.zaU []).length<=1000000)(h:zlm (H.length+4) (H.length+5) (H.length+8) lim (t.zaU []) t.ty x y n e)(y':MkS)(Z:List (Int×Int)):
 zAd Tryz.prog 11 [.bptr (H.length+4) 0,emb t.ty] (piH H.length H X0 X1 lim y' x rd Z) (.tup [.int .i64 n,.int .i64 e]) (piH H.length H X0 X1 lim y' y rd Z):=by
 unfold piH
 rw[dH_R (piD H X0 X1 _),dH_R (piD H X0 X1 _)]
 refine zmi (by simp) (by simp) (by omega) hsz hZ ?_ hmax
 have e1:((((H++ [X0,X1,.dead,.dead,.dead,.dead,.map (embM Z)]).set (H.length+2) (bxS (H.length+3) y'.v y'.L.length lim y'.cnt rd)).set (H.length+3) (arS y'.v y'.L))).length+1=H.length+8:=by simp
 rw[e1];exact h
theorem zmw{H:List AObj}{X0 X1:AObj}{lim rd lv:Int}{q:Pt}{y:MkS}{n:Nat}{Z:List (Int×Int)}(h401:zV6 q<=401)(hg:GoodS (y.sto rd))(hs:StV y.L.st)(hn:n<y.L.length)(hw:(y.L.st.tT n).wD<=60)(hlen:y.L.length<=100)(hc0:0<=y.cnt)(hc:y.cnt<=100)(hlim:y.cnt<=lim)(hrd:rd=0):
 ∃(N:List ByteArray) (D:List Nat) (f t w l r e:Int) (z:MkS) (rd2:Int),z.Z=y.Z/\
  zAd Tryz.prog 13 [.bptr (H.length+2) 0,embP q,.int .i64 n,.int .i64 lv] (piH H.length H X0 X1 lim y y rd Z) (.tup [.sl (N.map ST) .no,.sl (D.map NI) .no,badA f t w l r,.int .i64 e]) (piH H.length H X0 X1 lim z y rd2 Z)/\
  (∀J,zAd Tryz.prog 14 [.bptr (H.length+4) 0,embP q,.int .i64 n,.int .i64 lv] (piH H.length H X0 X1 lim z y rd2 Z J) (.tup [.sl (N.map ST) .no,.sl (D.map NI) .no,badA f t w l r,.int .i64 e]) (piH H.length H X0 X1 lim z z rd2 Z J))/\
  GoodS (z.sto rd2)/\z.L.length<=1000000/\rd2<=900000000000:=by
 by_cases hbad:chkP q=false\/lv<0
 ·refine⟨[],[],0,0,0,0,0,1,y,rd,rfl,?_,?_,hg,by omega,by omega⟩
  ·exact dS (fun G hs hr=>zmO (lim:=lim) hs hr (by omega) (σ:=y.sto rd) hg hn hbad) (piD H X0 X1 _) y.v y.L.st lim y.cnt
  ·exact fun J=>dR (fun G hs hr=>znF (lim:=lim) hs hr (by omega) (by omega) (v:=y.v) (S:=y.L.st) (cnt:=y.cnt) (by rw[Mem.zXR];exact hn) hbad) (piD (J:=J) H X0 X1 _) y.v y.L lim y.cnt rd
 ·have hq:chkP q=true:=by
   cases h:chkP q with
   |true=>rfl
   |false=>exact absurd (.inl h) hbad
  have hl:¬lv<0:=fun h=>hbad (.inr h)
  have hfr:=zeL y.L.st
  rw[Mem.zXR]at hfr
  have h0:(IS.of (y.sto rd)).nm.length=0:=rfl
  have h00:(IS.of (y.sto rd)).nd.length=0:=rfl
  have h1:(IS.of (y.sto rd)).len=y.L.length:=rfl
  have h2:(IS.of (y.sto rd)).σ.cnt=y.cnt:=rfl
  have h3:(IS.of (y.sto rd)).σ.rd=rd:=rfl
  have h4:(IS.of (y.sto rd)).σ.L.st=y.L.st:=rfl
  obtain⟨e,x,hP,hE⟩:=zmt (lim:=lim) hl q (zRK hq) n (IS.of (y.sto rd)) hg hs hn (by rw[h4];omega) (by rw[h1,h4];omega) (by rw[h4];omega) (by rw[h2];exact hc0) (by rw[h2,h4];omega) (by rw[h3];omega) (by rw[h0];omega) (by rw[h00];omega)
  rw[h4]at hE
  have hx:x.len<=1000000/\x.σ.rd<=900000000000:=by
   rcases hE.er with ⟨_,a,b⟩|he
   ·exact⟨by omega,by omega⟩
   ·obtain⟨_,_,a,_,_,_,b,_⟩:=hE.ok (by omega)
    rw[h1]at a
    rw[h3]at b
    exact⟨by omega,by omega⟩
  have c5:∀z,zAd Tryz.prog 13 [.bptr (H.length+2) 0,embP q,.int .i64 n,.int .i64 lv] (piH H.length H X0 X1 lim y y rd Z) (zLn e x) (piH H.length H X0 X1 lim ⟨x.σ.v,x.σ.L,x.σ.cnt,z⟩ y x.σ.rd Z):=fun z=>
   dS (fun G hs hr=>zLx (lim:=lim) hs hr (by omega) hl hq (σ:=y.sto rd) hg hn hP) (piD H X0 X1 _) y.v y.L.st lim y.cnt
  have c6:∀z J,zAd Tryz.prog 14 [.bptr (H.length+4) 0,embP q,.int .i64 n,.int .i64 lv] (piH H.length H X0 X1 lim ⟨x.σ.v,x.σ.L,x.σ.cnt,z⟩ y x.σ.rd Z J) (zLn e x) (piH H.length H X0 X1 lim ⟨x.σ.v,x.σ.L,x.σ.cnt,z⟩ ⟨x.σ.v,x.σ.L,x.σ.cnt,z⟩ x.σ.rd Z J):=fun z J=>
   dR (fun G hs hr=>znH (lim:=lim) hs hr (by omega) hl hq (by omega) (σ:=y.sto rd) hg hlim hn hP) (piD (J:=J) H X0 X1 _) x.σ.v x.σ.L lim x.σ.cnt x.σ.rd
  by_cases he:e=0
  ·have ei:zLn e x= .tup [.sl (x.nm.map ST) .no,.sl (x.nd.map NI) .no,badA 0 0 0 0 0,.int .i64 0]:=by unfold zLn;rw[if_pos he]
   rw[ei]at c5 c6
   exact⟨x.nm,x.nd,0,0,0,0,0,0,⟨x.σ.v,x.σ.L,x.σ.cnt,y.Z⟩,x.σ.rd,rfl,c5 _,c6 _,hE.good,hx.1,hx.2⟩
  ·have ei:zLn e x= .tup [.sl (([]:List ByteArray).map ST) .no,.sl (([]:List Nat).map NI) .no,badA x.bf x.bt x.bw x.bl x.br,.int .i64 e]:=by unfold zLn;rw[if_neg he];rfl
   rw[ei]at c5 c6
   exact⟨[],[],x.bf,x.bt,x.bw,x.bl,x.br,e,⟨x.σ.v,x.σ.L,x.σ.cnt,y.Z⟩,x.σ.rd,rfl,c5 _,c6 _,hE.good,hx.1,hx.2⟩
theorem pi0{lim:Int}(h:0<=lim):GoodS ((⟨4,mem0,0,[]⟩:MkS).sto 0)/\StV mem0.st:=by
 have nv:∀i,mem0.st.kind i≠6:=fun i=>by
  match i with
  |0|1|2|3|4=>decide
  |i+5=>show(0:Int)≠6;decide
 exact⟨⟨SI.mem0,fun n h=>absurd h (nv n)⟩,fun v _ h=>absurd h (nv v)⟩
theorem zmh(D:List Nat):zA0 Tryz.prog 16 [.sl (D.map NI) .no,.sl (D.map NI) .no] (.bool true):=by
 have e:D.map NI=(D.map fun n:Nat=>(n:Int)).map I64:=by rw[List.map_map];rfl
 have:=zeV (D.map fun n:Nat=>(n:Int)) (D.map fun n:Nat=>(n:Int))
 rw[<-e]at this
 simpa using this
theorem zmu(limit level:Int)(t:Ty)(q:Pt):zA0 Tryz.prog 3 [.int .i64 limit,.int .i64 level,emb t,embP q] (.bool true):=by
 have hsm1:zA0 Tryz.prog 5 [.sl [emb t] .no] (.bool (small [t])):=zWQ [t]
 cases h1:zLI q with
 |true=>
  refine eP C_ok Tryz.func3 Tryz.results3 fun ok H=> ?_
  repeat' (first
   |((first|apply bG|apply bH);simp only[yQ,W2P];refine zIf (zLK _) (.inl rfl) ?_)
   |skip)<;>simp only[↓zaL,WZ,yA,yB,W1,W1P,h1]
 |false=>
 cases h2:small [t]with
 |false=>
  refine eP C_ok Tryz.func3 Tryz.results3 fun ok H=> ?_
  repeat' (first
   |((first|apply bG|apply bH);simp only[yP,yQ,W2,W2P];first|refine zIf (zLK _) (.inl rfl) ?_|refine zIf (hsm1) (.inl rfl) ?_)
   |skip)<;>simp only[↓zaL,WZ,yA,yB,yD,yE,yF,W1,W1P,h1,h2]
 |true=>
 have nt:=zkd h2 (t:=t) (by simp)
 cases h3:right t with
 |false=>
  refine eP C_ok Tryz.func3 Tryz.results3 fun ok H=> ?_
  repeat' (first
   |((first|apply bG|apply bH);simp only[yP,yQ,W2,W2P];first|refine zIf (zLK _) (.inl rfl) ?_|refine zIf (hsm1) (.inl rfl) ?_|refine zIf (zUa _) (.inl rfl) ?_)
   |skip)<;>simp only[↓zaL,WZ,yA,yB,yD,yE,yF,W1,W1P,h1,h2,h3]
 |true=>
 have qz:=zgS t (Nat.le_trans nt (by decide))
 by_cases h4:((nodes t:Nat):Int)>60
 ·have h4':(((nodes t:Nat):Int)>60)=True:=by simp[h4]
  refine eP C_ok Tryz.func3 Tryz.results3 fun ok H=> ?_
  repeat' (first
   |((first|apply bG|apply bH);simp only[yP,yQ,W2,W2P];first|refine zIf (zLK _) (.inl rfl) ?_|refine zIf (hsm1) (.inl rfl) ?_|refine zIf (zUa _) (.inl rfl) ?_|refine zIf (qz) (.inl rfl) ?_)
   |skip)<;>simp only[↓zaL,WZ,yA,yB,yD,yE,yF,W1,W1P,h1,h2,h3,h4']
 have h4':(((nodes t:Nat):Int)>60)=False:=by simp only[YAb,iff_false];exact h4
 have hq401:=zmJ h1
 obtain⟨t,rfl,ht⟩:=T.zRB h3
 rw[zQb]at h4 nt
 have hvn:=zQe t [] List.nodup_nil
 obtain⟨lim,hl0,hcase⟩:∃lim:Int,0<=lim/\(((limit>300)=True/\zNK 65536=lim)\/((limit>300)=False/\zNK limit=lim)):=by
  by_cases hlim:limit>300
  ·exact⟨_,by decide,.inl ⟨by simp[hlim],rfl⟩⟩
  ·exact⟨zNK limit,by unfold zNK;omega,.inr ⟨by simp[hlim],rfl⟩⟩
 obtain⟨X0,hX0⟩:∃X0,X0=AObj.box (cellsOf (emb t.ty)):=⟨_,rfl⟩
 obtain⟨X1,hX1⟩:∃X1,X1=AObj.box (cellsOf (embP q)):=⟨_,rfl⟩
 refine eP C_ok Tryz.func3 Tryz.results3 fun ok H=> ?_
 rw[zLh]
 have n1':∀n,zNK n=lim->zAA Tryz.prog 8 [.int .i64 n] (H++ [X0,X1]) fun x G=>x= .bptr (H.length+2) 0/\G=H++ [X0,X1,bxS (H.length+3) 4 5 lim 0 0,arS 4 mem0]:=fun n e=>by
  have:=zQD (H++ [X0,X1]) n
  rw[e]at this
  simp only[YAJ,List.length_cons,List.length_nil,List.append_assoc,List.cons_append,List.nil_append]at this
  exact this
 have n2':∀n,zNK n=lim->zAd Tryz.prog 9 [.int .i64 n] (H++ [X0,X1,bxS (H.length+3) 4 5 lim 0 0,arS 4 mem0]) (.bptr (H.length+4) 0) (H++ [X0,X1,bxS (H.length+3) 4 5 lim 0 0,arS 4 mem0,bxR (H.length+5) 4 5 lim 0,arR 4 mem0.st]):=fun n e=>by
  have:=zgI (H++ [X0,X1,bxS (H.length+3) 4 5 lim 0 0,arS 4 mem0]) n
  rw[e]at this
  simp only[YAJ,List.length_cons,List.length_nil,List.append_assoc,List.cons_append,List.nil_append]at this
  exact this
 have hvl:(t.zaU []).length<=600:=by
  have:=zgn h2 (t:=t.ty) (by simp)
  simp only[zWJ,YAD,YAE,decide_eq_false_iff_not]at this
  rw[<-T.zaX];exact Nat.le_trans (YAV _) (by unfold zaa at this;omega)
 obtain⟨g0,s0⟩:=pi0 hl0
 obtain⟨y,n,e,mE,mR,o⟩:=zmf (s:=H.length+2) (r:=H.length+3) (m:=H.length+6) (s2:=H.length+4) (r2:=H.length+5) (m2:=H.length+8) (lim:=lim) (rd:=0) (vs:=t.zaU []) (by omega) (by omega) (by omega) (by omega) (by omega) (by omega) hvn (by rw[zPC];omega) t ⟨4,mem0,0,[]⟩ g0 s0 (fun k n e=>by cases e) (by show 5+t.size<=_;omega) (YAQ _) hl0 (by show 0+(t.size:Int)<=_;omega) (fun n hn=>zPK.2 hn)
 have b1:=o.lenB;have b2:=o.cntA;have b3:=o.cntB;have b4:=o.lm
 have hll:(⟨4,mem0,0,[]⟩:MkS).L.length=5:=rfl
 have hcc:(⟨4,mem0,0,[]⟩:MkS).cnt=0:=rfl
 rw[hll]at b1
 rw[hcc]at b2 b3
 have m1:=zmx (X0:=X0) (X1:=X1) mE ⟨4,mem0,0,[]⟩
 have m2:=zmy (X0:=X0) (X1:=X1) (rd:=0) rfl (by rw[zQb];omega) (by omega) mR y y.Z
 rw[zmv,zmv]at m1 m2
 have hlm:∀l:List ByteArray,zA0 Tryz.prog 15 [.sl (l.map ST) .no,.sl (l.map ST) .no] (.bool true):=zYR
 have e7:((7:Int) !=0)=true:=rfl
 have hes:(ByteArray.empty==ByteArray.empty)=true:=by decide
 have fin:∀l':Int,zNK l'=lim->True:=fun _ _=>trivial
 rcases o.bad with rfl|⟨rfl,rfl⟩
 ·have hn:=o.lt rfl
  have hwd:=o.wd rfl
  obtain⟨N,D,bf,bt,bw,bl,br,e,z,rd2,hZ,c5,c6,gz,hz1,hz2⟩:=zmw (H:=H) (X0:=X0) (X1:=X1) (lim:=lim) (lv:=level) (q:=q) (Z:=y.Z) hq401 o.good o.stv hn (by omega) (by omega) b2 (by omega) b4 rfl
  have c7:∀J,zAd Tryz.prog 17 [.bptr (H.length+2) 0,.bptr (H.length+4) 0] (piH H.length H X0 X1 lim z z rd2 y.Z J) (.bool true) (piH H.length H X0 X1 lim ⟨(alk z.L.length (z.sto rd2)).v,(alk z.L.length (z.sto rd2)).L,(alk z.L.length (z.sto rd2)).cnt,z.Z⟩ ⟨(alk z.L.length (z.sto rd2)).v,(alk z.L.length (z.sto rd2)).L,(alk z.L.length (z.sto rd2)).cnt,z.Z⟩ (alk z.L.length (z.sto rd2)).rd y.Z J):=fun J=>by
   have:=zdu (piD (J:=J) H X0 X1 (.map (embM y.Z))) (u:=z.v) (lim:=lim) (lim2:=lim) (z.sto rd2) gz.si hz1 hz2
   unfold piH
   rw[zlv]
   unfold Sto.both at this
   rw[zlv]at this
   exact this
  have qt:=zYR N
  have qi:=zmh D
  rw[zmv,zmv]at c5
  simp only[zmv]at c6 c7
  unfold badA at c5 c6
  have hX0':=hX0
  have hX1':=hX1
  rcases hcase with ⟨cl,ec⟩|⟨cl,ec⟩
  all_goals
   have qa:=n1' _ ec
   have qb:=n2' _ ec
   simp only[hX0,hX1,zGy,zGi]at qa qb m1 m2 c5 c6 c7
   repeat' (first
    |((first|apply bG|apply bH);simp only[yP,yQ,W2,W2P];first|refine zIf (zLK _) (.inl rfl) ?_|refine zIf (hsm1) (.inl rfl) ?_|refine zIf (zUa _) (.inl rfl) ?_|refine zIf (qz) (.inl rfl) ?_)
    |skip)<;>simp only[↓zaL,WY,yA,yB,yD,reduceCtorEq,yE,yF,W1,W1P,WS,h1,h2,h3,h4',cl]
   refine zIA qa (.inl rfl) (fun hb=>by rw[List.take_left' rfl];simpa using hb) ?_
   repeat' (first
    |((first|apply bG|apply bH);simp only[yP,yQ,W2,W2P,zXu,zQM];first|refine zIf (qt) (.inl rfl) ?_|refine zIf (qi) (.inl rfl) ?_|refine zIf (zao) (.inl rfl) ?_|refine zIA (qb) (.inl rfl) (fun hb=>by rw[List.take_left' rfl]at hb⊢;exact hb) ?_|refine zIA (m1) (.inl rfl) (fun hb=>by rw[List.take_left' rfl]at hb⊢;exact hb) ?_|refine zIA (m2) (.inl rfl) (fun hb=>by rw[List.take_left' rfl]at hb⊢;exact hb) ?_|refine zIA (c5) (.inl rfl) (fun hb=>by rw[List.take_left' rfl]at hb⊢;exact hb) ?_|refine zIA (c6 _) (.inl rfl) (fun hb=>by rw[List.take_left' rfl]at hb⊢;exact hb) ?_|refine zIA (c7 _) (.inl rfl) (fun hb=>by rw[List.take_left' rfl]at hb⊢;exact hb) ?_)
    |skip)<;>simp only[↓zaL,WY,yA,yB,yC,reduceCtorEq,W1,W1P,WS,implies_true,yN,yO,YAO,hes]
   all_goals exact List.take_left' rfl
 ·rcases hcase with ⟨cl,ec⟩|⟨cl,ec⟩
  all_goals
   have qa:=n1' _ ec
   have qb:=n2' _ ec
   simp only[hX0,hX1,zGy,zGi]at qa qb m1 m2
   repeat' (first
    |((first|apply bG|apply bH);simp only[yP,yQ,W2,W2P];first|refine zIf (zLK _) (.inl rfl) ?_|refine zIf (hsm1) (.inl rfl) ?_|refine zIf (zUa _) (.inl rfl) ?_|refine zIf (qz) (.inl rfl) ?_)
    |skip)<;>simp only[↓zaL,WY,yA,yB,yD,reduceCtorEq,yE,yF,W1,W1P,WS,h1,h2,h3,h4',cl]
   refine zIA qa (.inl rfl) (fun hb=>by rw[List.take_left' rfl];simpa using hb) ?_
   repeat' (first
    |((first|apply bG|apply bH);simp only[yP,yQ,W2];first|refine zIf (zao) (.inl rfl) ?_|refine zIA (qb) (.inl rfl) (fun hb=>by rw[List.take_left' rfl]at hb⊢;exact hb) ?_|refine zIA (m1) (.inl rfl) (fun hb=>by rw[List.take_left' rfl]at hb⊢;exact hb) ?_|refine zIA (m2) (.inl rfl) (fun hb=>by rw[List.take_left' rfl]at hb⊢;exact hb) ?_)
    |skip)<;>simp only[↓zaL,WY,yA,yB,reduceCtorEq,W1,WS,YAO,e7]
   all_goals exact List.take_left' rfl
end
end Go.Proofs.YtdngjamjccjlmaaGreat
