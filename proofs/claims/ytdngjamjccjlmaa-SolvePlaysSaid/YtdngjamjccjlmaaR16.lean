/- The document's store, walked: two nodes are made to agree. No condition. -/
import Derived.Test.YtdngjamjccjlmaaR15
set_option linter.unusedSimpArgs false
set_option linter.unusedVariables false
set_option maxHeartbeats 16000000
set_option maxRecDepth 100000
namespace Go.Proofs.Ytdngjamjccjlmaa
open Go Go.Ab
open Nat renaming reduceEqDiff -> yA, reduceAdd -> yB, reduceLT -> yC, reduceLeDiff -> yD, reduceMul -> yE, reducePow -> yF, reduceBEq -> yG
open Int renaming reduceAdd -> yH, reduceLT -> yI, reduceToNat -> yJ, reduceBEq -> yK, reduceBNe -> yL, reduceLE -> yM
attribute [local irreducible] zA0 zAA zAa zAi zAj GoIf GoGb zAk GoO GoD GoX GoDX GoG GoDG GoGv zAl Go zAB
def CAr:Cfg:= {C with inpl:=fun d=>d==28,rdr:=CR.rdr}
theorem zdW:zAb Try.prog CAr:=C_ok
theorem zdX(t:Nat):CAr.ty t=C.ty t:=rfl
theorem zdV(t:Nat):CAr.inpl t=(t==28):=rfl
structure AkS where
 ver:Nat
 ps:List (Nat×Nat)
 stk:List (Nat×Nat)
 m:Nat
 σ:Sto
 K:List AObj
structure AkI (lim:Int) (res:Int×Int×Int×Sto) (x:AkS):Prop where
 good:GoodS x.σ
 lt:Lt2 x.σ.L.length x.stk
 es:x.ps.take x.stk.length=x.stk.reverse
 run:RunB lim x.m x.stk x.σ res
 cnt:x.σ.cnt<=lim
section
variable {F : List AObj} {p q : Nat} {lim : Int}
theorem zhC(hs:p<F.length)(hr:q<F.length)(K:List AObj)(x1 x2 x3 x4:AObj):qua (F++(.dead:: .dead::K)) p q (F.length+1) F.length x1 x2 x3 x4=stF (F++(x4::x3::K)) p q x1 x2:=by
 unfold qua
 rw[zCY rfl,zCX rfl];rfl
theorem wK_D(hs:p<F.length)(hr:q<F.length)(hne:q≠p)(K:List AObj):QuaD (F++(.dead:: .dead::K)) p q (F.length+1) F.length:=
 ⟨by simp;omega,by simp;omega,by simp,by simp,⟨fun e=>hne e.symm,by omega,by omega⟩,by omega,by omega,by omega⟩
theorem zgP{e:Nat->AV}{b m:Nat}{G:List AObj}{σ:Sto}(hne:q≠p)(hw:Wf σ.L.st)(n:Nat)(hn:n<σ.L.length)(hG:G[p]?=some (bxR q σ.v σ.L.st.length lim σ.cnt)/\G[q]?=some (arR σ.v σ.L.st)):zA5 Try.prog 102 [.bptr p 0,.int .i64 n] (.int .i64 (σ.L.st.root n)) (FS e G b m).obj:=
 qcalls_st (s:=p) (r:=q) (bx:=bxR q σ.v σ.L.st.length lim σ.cnt) (ar:=arR σ.v σ.L.st) (fun F' h1 h2=>zgO h1 h2 hne hw n (by rw[Mem.zXR];exact hn)) (by rw[zIP];exact hG.1) (by rw[zIP];exact hG.2) rfl rfl
theorem zfz(hs:p<F.length)(hr:q<F.length)(hne:q≠p){σ:Sto}(hg:GoodS σ)(hL:σ.L.length<=1000000){n:Nat}(hn:n<σ.L.length){lv:Int}(hl:0<=lv):
 zAd Try.prog 103 [.bptr p 0,.int .i64 n,.int .i64 lv] (σ.zeM F p q lim) (.int .i64 0) ((σ.low n lv).zeM F p q lim):=by
 have h:=zf1 (F:=F) (v:=σ.v) (lim:=lim) (cnt:=σ.cnt) hs hr hne hg.si.wf (by rw[Mem.zXR];exact hL) n (by rw[Mem.zXR];exact hn) lv (by omega)
 unfold Sto.zeM
 have e:(σ.low n lv).L.st=lowS σ.L.st lv (σ.L.st.vars n):=by rw[Sto.low,zeh,zPY]
 rw[e];exact h
theorem zfD{ps stk z:List (Nat×Nat)}(hle:stk.length<=ps.length)(h:ps.take stk.length=stk.reverse):(psh ps stk.length z).take (z++stk).length=(z++stk).reverse:=by
 unfold psh
 by_cases c:z=[]
 ·subst c;simp[h]
 ·rw[if_neg c,List.take_of_length_le (by simp;omega),h,List.reverse_append]
theorem zd8{σ:Sto}(hg:GoodS σ)(hL:σ.L.length<=800000)(hcb:0<=σ.cnt/\σ.cnt<=800000)(hlim:σ.cnt<=lim){x y:Nat}(hx:x<σ.L.length)(hy:y<σ.L.length)(ex:σ.L.st.root x=x)(ey:σ.L.st.root y=y)(h6:σ.L.st.kind x=6)(hxy:x≠y)(hy4:y≠4):(σ.become lim x y).2.2.cnt<=lim:=
 (zfh (F:=[.dead,.dead,.dead,.dead]) (p:=0) (q:=1) (w:=2) (a:=3) ⟨by decide,by decide,by decide,by decide,⟨by decide,by decide,by decide⟩,by decide,by decide,by decide⟩ hg hL hcb hlim hx hy ex ey h6 hxy hy4 true 0 0 [] (by simp) (by decide)).2
theorem zgW{res:Int×Int×Int×Sto}:∀(m:Nat) {stk:List (Nat×Nat)} {σ:Sto},GoodS σ->σ.cnt<=lim->Lt2 σ.L.length stk->RunB lim m stk σ res->res.2.2.2.cnt<=lim:=by
 intro m
 induction m with
 |zero=>intro stk σ hg hc hlt h;cases stk with
  |nil=>have e:res=(0,0,0,σ):=h;subst e;exact hc
  |cons p stk=>exact h.elim
 |succ m ih=>intro stk σ hg hc hlt h;cases stk with
  |nil=>have e:res=(0,0,0,σ):=h;subst e;exact hc
  |cons pp stk=>
   obtain⟨p1,p2⟩:=pp
   obtain⟨⟨o1,o2,o3,o4,o5⟩,hrun⟩:=h
   obtain⟨hp1,hp2⟩:=hlt _ YAU
   have hlt':Lt2 σ.L.length stk:=fun q hq=>hlt q (YAT _ hq)
   have hkeep:=zXm (lim:=lim) hg (p:=(p1,p2)) ⟨hp1,hp2⟩ hlt'
   simp only at hp1 hp2
   have hxl:σ.L.st.root p1<σ.L.length:=by have:=hg.si.wf.root_lt p1 (by rw[Mem.zXR];exact hp1);rwa[Mem.zXR]at this
   have hyl:σ.L.st.root p2<σ.L.length:=by have:=hg.si.wf.root_lt p2 (by rw[Mem.zXR];exact hp2);rwa[Mem.zXR]at this
   have ex:=hg.si.wf.zUQ p1
   have ey:=hg.si.wf.zUQ p2
   by_cases hxy:σ.L.st.root p1=σ.L.st.root p2
   ·rw[zXk,if_pos hxy]at hrun hkeep
    exact ih hkeep.1.good hc hkeep.2 hrun
   by_cases hx4:σ.L.st.root p1=4
   ·rw[zXk,if_neg hxy,if_pos hx4]at hrun hkeep
    exact ih hkeep.1.good hc hkeep.2 hrun
   by_cases hy4:σ.L.st.root p2=4
   ·rw[zXk,if_neg hxy,if_neg hx4,if_pos hy4]at hrun hkeep
    exact ih hkeep.1.good hc hkeep.2 hrun
   by_cases h61:σ.L.st.kind (σ.L.st.root p1)=6
   ·have qc:=zd8 (lim:=lim) hg (by omega) ⟨o3,by omega⟩ hc hxl hyl ex ey h61 hxy hy4
    rw[zXk,if_neg hxy,if_neg hx4,if_neg hy4,if_pos h61]at hrun hkeep
    simp only at hrun hkeep
    generalize σ.become lim (σ.L.st.root p1) (σ.L.st.root p2)=B at*
    obtain⟨mo,e,σ'⟩:=B
    simp only at hrun hkeep qc
    by_cases he:e=0
    ·subst he
     rw[if_neg (by simp)]at hrun hkeep
     cases mo with
     |none=>exact ih hkeep.1.good qc hkeep.2 hrun
     |some n=>exact ih hkeep.1.good qc hkeep.2 hrun
    ·rw[if_pos he]at hrun
     simp only at hrun
     subst hrun
     exact qc
   by_cases h62:σ.L.st.kind (σ.L.st.root p2)=6
   ·have qc:=zd8 (lim:=lim) hg (by omega) ⟨o3,by omega⟩ hc hyl hxl ey ex h62 (fun e=>hxy e.symm) hx4
    rw[zXk,if_neg hxy,if_neg hx4,if_neg hy4,if_neg h61,if_pos h62]at hrun hkeep
    simp only at hrun hkeep
    generalize σ.become lim (σ.L.st.root p2) (σ.L.st.root p1)=B at*
    obtain⟨mo,e,σ'⟩:=B
    simp only at hrun hkeep qc
    by_cases he:e=0
    ·subst he
     rw[if_neg (by simp)]at hrun hkeep
     cases mo with
     |none=>exact ih hkeep.1.good qc hkeep.2 hrun
     |some n=>exact ih hkeep.1.good qc hkeep.2 hrun
    ·rw[if_pos he]at hrun
     simp only at hrun
     subst hrun
     exact qc
   rw[zXk,if_neg hxy,if_neg hx4,if_neg hy4,if_neg h61,if_neg h62]at hrun hkeep
   by_cases hkk:σ.L.st.kind (σ.L.st.root p1)=σ.L.st.kind (σ.L.st.root p2)
   ·rw[if_neg (by simp[hkk])]at hrun hkeep
    simp only at hrun hkeep
    exact ih hkeep.1.good hc hkeep.2 hrun
   ·rw[if_pos hkk]at hrun
    simp only at hrun
    subst hrun
    exact hc
theorem zhE(hs:p<F.length)(hr:q<F.length)(hne:q≠p){σ:Sto}(hgood:GoodS σ)(hlim:σ.cnt<=lim){x y:Nat}(hx:x<σ.L.length)(hy:y<σ.L.length){m:Nat}{res:Int×Int×Int×Sto}(hres:RunB lim m [(x,y)] σ res):
 zAd Try.prog 49 [.bptr p 0,.int .i64 x,.int .i64 y] (σ.zeM F p q lim) (.tup [.int .i64 res.1,.int .i64 res.2.1,.int .i64 res.2.2.1]) (res.2.2.2.zeM F p q lim)/\res.2.2.2.cnt<=lim:=by
 have q1:=zfl (F:=F) (v:=σ.v) (S:=σ.L.st) (lim:=lim) (cnt:=σ.cnt) hs hr hne (n:=x) (by rw[Mem.zXR];exact hx)
 have q2:=zfl (F:=F) (v:=σ.v) (S:=σ.L.st) (lim:=lim) (cnt:=σ.cnt) hs hr hne (n:=y) (by rw[Mem.zXR];exact hy)
 refine⟨?_,zgW m hgood hlim (fun q hq=>by simp only[List.mem_singleton]at hq;subst hq;exact⟨hx,hy⟩) hres⟩
 unfold Sto.zeM
 unfold zAd
 refine zBN zdW Try.func49 rfl (by decide) (YAL rfl) (by decide) fun ok=> ?_
 rw[Try.results49]
 have h:=YAN
 repeat' (first
  |(with_reducible first|apply bA|apply bB|apply bC|apply bD|apply bE|apply bF)<;>intro h
  |((first|apply bG|apply bH);simp only[AV.norm,AV.zQg,W2,zdX,zdV,yG,isMs,zWF,hpR,bxR,arR,stP hs hr hne,zTh,zTg,AV.bel,ze0,AV.belL];first|refine zIB (q1) (.inl rfl) ?_|refine zIB (q2) (.inl rfl) ?_)
  |refine zKh (id:=5) zdW (fun _=>trivial) mixed 1 Try.f49.ntmps (by first|(simp;done)|(simp;omega)) rfl (by kernel_rfl) (by decide) ?_
  |refine zKh (id:=6) zdW (fun _=>trivial) mixed 0 Try.f49.ntmps (by first|(simp;done)|(simp;omega)) rfl (by kernel_rfl) (by decide) ?_
  |refine zKh (id:=7) zdW (fun _=>trivial) mixed 0 Try.f49.ntmps (by first|(simp;done)|(simp;omega)) rfl (by kernel_rfl) (by decide) ?_
  |skip)<;>simp only[h,↓zaL,↓zHC,WY,reduceIte,yA,yB,yC,yD,reduceCtorEq,yE,yF,W1,WS,zdX,zdV,yG,isMs,zWF,hpR,bxR,arR,stP hs hr hne,zTh,zTg,AV.bel,ze0,AV.belL]
 refine zCN [0,9] ?_
 simp only[List.map_cons,List.map_nil,↓zaL,↓zHC,WY,reduceIte,yA,yB,yC,yD,reduceCtorEq,yE,yF,W1,WS]
 refine zJ1 0 (fun x:AkS=> []) (fun x=>wK (F++(.dead:: .dead::x.K)) p q (F.length+1) F.length lim x.σ x.ver x.stk.length x.ps) (AkI lim res) (fun x=>x.m) zdW ⟨0,[(x,y)],[(x,y)],m,σ,[]⟩ rfl ?_ ⟨hgood,fun q hq=>by simp only[List.mem_singleton]at hq;subst hq;exact⟨hx,hy⟩,rfl,hres,hlim⟩ (by decide) ?_
 ·unfold wK;rw[zhC hs hr];rfl
 clear hres hx hy q1 q2 hgood h hlim
 rintro⟨ver,ps,stk,m,σ,K⟩ ⟨hg,hlt,hes,hrun,hcnt⟩
 simp only at hg hlt hes hrun hcnt
 simp only[List.drop_succ_cons,List.drop_zero,List.cons_append,List.nil_append]
 have hD:=wK_D hs hr hne K
 have hloc:=zhC hs hr
 have htk0:∀x1 x2 x3 x4,(qua (F++(.dead:: .dead::K)) p q (F.length+1) F.length x1 x2 x3 x4).take F.length=stF F p q x1 x2:=fun x1 x2 x3 x4=>by rw[hloc];exact zXK hs hr
 have htkJ:∀J x1 x2 x3 x4,(qua (F++(.dead:: .dead::K)++J) p q (F.length+1) F.length x1 x2 x3 x4).take F.length=stF F p q x1 x2:=fun J x1 x2 x3 x4=>by
  rw[List.append_assoc,List.cons_append,List.cons_append,hloc];exact zXK hs hr
 obtain⟨G,hG⟩:∃G,G=F++(.dead:: .dead::K):=⟨_,rfl⟩
 rw[<-hG]at hD htk0 htkJ⊢
 have hGl:F.length+2<=G.length:=by rw[hG];simp
 have hb1:(F.length<=G.length)=True:=by simp;omega
 have hbk:∀k,(F.length<=G.length+k)=True:=fun k=>by simp;omega
 cases stk with
 |nil=>
  have e:res=(0,0,0,σ):=by cases m<;>exact hrun
  subst e
  have c0:(((0:Nat):Int)>0)=False:=by simp
  simp only[List.length_nil]
  have h:=YAN
  repeat' (first
   |(with_reducible first|apply bA|apply bB|apply bC|apply bD|apply bE|apply bF)<;>intro h
   |refine zKh (id:=5) zdW (fun _=>trivial) mixed 1 Try.f49.ntmps (by first|(simp;done)|(simp;omega)) rfl (by kernel_rfl) (by decide) ?_
   |refine zKh (id:=6) zdW (fun _=>trivial) mixed 0 Try.f49.ntmps (by first|(simp;done)|(simp;omega)) rfl (by kernel_rfl) (by decide) ?_
   |refine zKh (id:=7) zdW (fun _=>trivial) mixed 0 Try.f49.ntmps (by first|(simp;done)|(simp;omega)) rfl (by kernel_rfl) (by decide) ?_
   |skip)<;>simp only[h,↓zaL,↓zHC,WY,reduceIte,yA,yB,yC,yD,reduceCtorEq,yE,yF,W1,WS,zdX,zdV,yG,isMs,zWF,wK,bxR,arR,bxK,arK,quaP hD,zTh,zTg,AV.bel,ze0,c0,AV.belL,Int.lt_irrefl,htk0,htkJ,hb1,hbk]
 |cons pp stk=>
  obtain⟨p1,p2⟩:=pp
  cases m with
  |zero=>exact hrun.elim
  |succ m=>
  obtain⟨⟨o1,o2,o3,o4,o5⟩,hrun⟩:=hrun
  obtain⟨hp1,hp2⟩:=hlt _ YAU
  have hlt':Lt2 σ.L.length stk:=fun q hq=>hlt q (YAT _ hq)
  simp only at hp1 hp2
  have hkeep:=zXm (lim:=lim) hg (p:=(p1,p2)) ⟨hp1,hp2⟩ hlt'
  have hne':stk.length<ps.length:=by
   have:=congrArg List.length hes
   simp only[List.length_take,List.length_reverse,List.length_cons]at this
   omega
  have hget:(ps.map prI).getD stk.length .any=prI (p1,p2):=by
   have:=congrArg (fun l=>l[stk.length]?) hes
   simp only[List.length_cons]at this
   rw[List.getElem?_take_of_lt (by omega)]at this
   rw[YAF,List.getElem?_map,this]
   simp
  have hes':ps.take stk.length=stk.reverse:=by
   have:=congrArg (List.take stk.length) hes
   rw[List.take_take]at this
   rw[show min stk.length (((p1,p2)::stk).length)=stk.length by simp]at this
   rw[this];simp
  have hle':(stk.length<=ps.length)=True:=by simp only[YAb,iff_true];omega
  have hrg:(stk.length<stk.length+1)=True:=by simp
  have w1:IntKind.wrap .i64 (((stk.length+1:Nat):Int)-1)=(stk.length:Int):=by rw[zbT (by omega) (by omega)];omega
  have c0:(((stk.length+1:Nat):Int)>0)=True:=by simp only[YAb,iff_true];omega
  have c2:((stk.length:Int)<=((stk.length+1:Nat):Int))=True:=by simp only[YAb,iff_true];omega
  simp only[List.length_cons]
  have hxl:σ.L.st.root p1<σ.L.length:=by have:=hg.si.wf.root_lt p1 (by rw[Mem.zXR];exact hp1);rwa[Mem.zXR]at this
  have hyl:σ.L.st.root p2<σ.L.length:=by have:=hg.si.wf.root_lt p2 (by rw[Mem.zXR];exact hp2);rwa[Mem.zXR]at this
  have ex:=hg.si.wf.zUQ p1
  have ey:=hg.si.wf.zUQ p2
  by_cases hxy:σ.L.st.root p1=σ.L.st.root p2
  ·have b0:((σ.L.st.root p1:Int)==(σ.L.st.root p2:Int))=true:=by rw[hxy];exact beq_self_eq_true _
   rw[zXk,if_pos hxy]at hrun hkeep
   have h:=YAN
   repeat' (first
    |(with_reducible first|apply bA|apply bB|apply bC|apply bD|apply bE|apply bF)<;>intro h
    |((first|apply bG|apply bH);simp only[AV.norm,AV.zQg,W2,W3,yH,yI,yJ,yK,yL,yM,zdX,zdV,yG,isMs,zWF,wK,bxR,arR,bxK,arK,quaP hD,zTh,zTg,AV.bel,ze0,c0,c2,w1,hget,hne',hle',hrg,prI,AV.belL,htk0,htkJ,hb1,hbk,b0];first|refine zIk rfl (zgP (lim:=lim) hne hg.si.wf p1 hp1 (by simp[quaP hD,bxR,arR])) (.inl rfl) ?_|refine zIk rfl (zgP (lim:=lim) hne hg.si.wf p2 hp2 (by simp[quaP hD,bxR,arR])) (.inl rfl) ?_)
    |refine zKh (id:=5) zdW (fun _=>trivial) mixed 1 Try.f49.ntmps (by first|(simp;done)|(simp;omega)) rfl (by kernel_rfl) (by decide) ?_
    |refine zKh (id:=6) zdW (fun _=>trivial) mixed 0 Try.f49.ntmps (by first|(simp;done)|(simp;omega)) rfl (by kernel_rfl) (by decide) ?_
    |refine zKh (id:=7) zdW (fun _=>trivial) mixed 0 Try.f49.ntmps (by first|(simp;done)|(simp;omega)) rfl (by kernel_rfl) (by decide) ?_
    |refine zJ9 ?_ zdW Try.f49.ntmps rfl (by decide)
    |skip)<;>simp only[h,↓zaL,↓zHC,WY,reduceIte,yA,yB,yC,yD,reduceCtorEq,yE,yF,W1,WS,W3,yH,yI,yJ,yK,yL,yM,zdX,zdV,yG,isMs,zWF,wK,bxR,arR,bxK,arK,quaP hD,zTh,zTg,AV.bel,ze0,c0,c2,w1,hget,hne',hle',hrg,prI,AV.belL,htk0,htkJ,hb1,hbk,b0,zFY]
   refine⟨⟨ver,ps,stk,m,σ,K++ [.box [.int .i64 p1,.int .i64 p2]]⟩,⟨hkeep.1.good,hkeep.2,hes',hrun,hcnt⟩,Nat.lt_succ_self m,zap ?_ ?_⟩
   ·simp only[wK,bxR,arR,bxK,arK,hG,List.append_assoc,List.cons_append,List.nil_append,YAJ,Nat.add_comm]
   ·simp only[WK,↓zaL,↓zHC,yA,reduceIte,AV.bel,AV.belL,AObj.bel,AV.norm,AV.zQg,yB,yC]
  have b0:((σ.L.st.root p1:Int)==(σ.L.st.root p2:Int))=false:=by rw[YAZ];omega
  by_cases hx4:σ.L.st.root p1=4
  ·have b1:((σ.L.st.root p1:Int)==4)=true:=by rw[beq_iff_eq];omega
   have q3:=fun(F:List AObj) (w a:Nat) (hD:QuaD F p q w a) ver len ps=>dK (lim:=lim) (fun G hs hr=>zfz (F:=G) (lim:=lim) hs hr hne hg (by omega) hyl (lv:=0) (by decide)) hD ver len ps
   rw[zXk,if_neg hxy,if_pos hx4]at hrun hkeep
   have h:=YAN
   repeat' (first
    |(with_reducible first|apply bA|apply bB|apply bC|apply bD|apply bE|apply bF)<;>intro h
    |((first|apply bG|apply bH);simp only[AV.norm,AV.zQg,W2,W3,yH,yI,yJ,yK,yL,yM,zdX,zdV,yG,isMs,zWF,wK,bxR,arR,bxK,arK,quaP hD,zTh,zTg,AV.bel,ze0,c0,c2,w1,hget,hne',hle',hrg,prI,AV.belL,htk0,htkJ,hb1,hbk,b0,b1];first|refine zIk rfl (zgP (lim:=lim) hne hg.si.wf p1 hp1 (by simp[quaP hD,bxR,arR])) (.inl rfl) ?_|refine zIk rfl (zgP (lim:=lim) hne hg.si.wf p2 hp2 (by simp[quaP hD,bxR,arR])) (.inl rfl) ?_|refine zIA (q3 _ _ _ (by first|exact hD|exact hD.app _) _ _ _) (.inl rfl) (fun hb=>kdB (by first|exact hD|exact hD.app _) hb) ?_)
    |refine zKh (id:=5) zdW (fun _=>trivial) mixed 1 Try.f49.ntmps (by first|(simp;done)|(simp;omega)) rfl (by kernel_rfl) (by decide) ?_
    |refine zKh (id:=6) zdW (fun _=>trivial) mixed 0 Try.f49.ntmps (by first|(simp;done)|(simp;omega)) rfl (by kernel_rfl) (by decide) ?_
    |refine zKh (id:=7) zdW (fun _=>trivial) mixed 0 Try.f49.ntmps (by first|(simp;done)|(simp;omega)) rfl (by kernel_rfl) (by decide) ?_
    |refine zJ9 ?_ zdW Try.f49.ntmps rfl (by decide)
    |skip)<;>simp only[h,↓zaL,↓zHC,WY,reduceIte,yA,yB,yC,yD,reduceCtorEq,yE,yF,W1,WS,W3,yH,yI,yJ,yK,yL,yM,zdX,zdV,yG,isMs,zWF,wK,bxR,arR,bxK,arK,quaP hD,zTh,zTg,AV.bel,ze0,c0,c2,w1,hget,hne',hle',hrg,prI,AV.belL,htk0,htkJ,hb1,hbk,b0,b1,zFY]
   refine⟨⟨ver,ps,stk,m,(σ.low (σ.L.st.root p2) 0),K++ [.box [.int .i64 p1,.int .i64 p2]]⟩,⟨hkeep.1.good,hkeep.2,hes',hrun,hcnt⟩,Nat.lt_succ_self m,zap ?_ ?_⟩
   ·simp only[wK,bxR,arR,bxK,arK,hG,List.append_assoc,List.cons_append,List.nil_append,YAJ,Nat.add_comm]
   ·simp only[WK,↓zaL,↓zHC,yA,reduceIte,AV.bel,AV.belL,AObj.bel,AV.norm,AV.zQg,yB,yC]
  have b1:((σ.L.st.root p1:Int)==4)=false:=by rw[YAZ];omega
  by_cases hy4:σ.L.st.root p2=4
  ·have b2:((σ.L.st.root p2:Int)==4)=true:=by rw[beq_iff_eq];omega
   have q3:=fun(F:List AObj) (w a:Nat) (hD:QuaD F p q w a) ver len ps=>dK (lim:=lim) (fun G hs hr=>zfz (F:=G) (lim:=lim) hs hr hne hg (by omega) hxl (lv:=0) (by decide)) hD ver len ps
   rw[zXk,if_neg hxy,if_neg hx4,if_pos hy4]at hrun hkeep
   have h:=YAN
   repeat' (first
    |(with_reducible first|apply bA|apply bB|apply bC|apply bD|apply bE|apply bF)<;>intro h
    |((first|apply bG|apply bH);simp only[AV.norm,AV.zQg,W2,W3,yH,yI,yJ,yK,yL,yM,zdX,zdV,yG,isMs,zWF,wK,bxR,arR,bxK,arK,quaP hD,zTh,zTg,AV.bel,ze0,c0,c2,w1,hget,hne',hle',hrg,prI,AV.belL,htk0,htkJ,hb1,hbk,b0,b1,b2];first|refine zIk rfl (zgP (lim:=lim) hne hg.si.wf p1 hp1 (by simp[quaP hD,bxR,arR])) (.inl rfl) ?_|refine zIk rfl (zgP (lim:=lim) hne hg.si.wf p2 hp2 (by simp[quaP hD,bxR,arR])) (.inl rfl) ?_|refine zIA (q3 _ _ _ (by first|exact hD|exact hD.app _) _ _ _) (.inl rfl) (fun hb=>kdB (by first|exact hD|exact hD.app _) hb) ?_)
    |refine zKh (id:=5) zdW (fun _=>trivial) mixed 1 Try.f49.ntmps (by first|(simp;done)|(simp;omega)) rfl (by kernel_rfl) (by decide) ?_
    |refine zKh (id:=6) zdW (fun _=>trivial) mixed 0 Try.f49.ntmps (by first|(simp;done)|(simp;omega)) rfl (by kernel_rfl) (by decide) ?_
    |refine zKh (id:=7) zdW (fun _=>trivial) mixed 0 Try.f49.ntmps (by first|(simp;done)|(simp;omega)) rfl (by kernel_rfl) (by decide) ?_
    |refine zJ9 ?_ zdW Try.f49.ntmps rfl (by decide)
    |skip)<;>simp only[h,↓zaL,↓zHC,WY,reduceIte,yA,yB,yC,yD,reduceCtorEq,yE,yF,W1,WS,W3,yH,yI,yJ,yK,yL,yM,zdX,zdV,yG,isMs,zWF,wK,bxR,arR,bxK,arK,quaP hD,zTh,zTg,AV.bel,ze0,c0,c2,w1,hget,hne',hle',hrg,prI,AV.belL,htk0,htkJ,hb1,hbk,b0,b1,b2,zFY]
   refine⟨⟨ver,ps,stk,m,(σ.low (σ.L.st.root p1) 0),K++ [.box [.int .i64 p1,.int .i64 p2]]⟩,⟨hkeep.1.good,hkeep.2,hes',hrun,hcnt⟩,Nat.lt_succ_self m,zap ?_ ?_⟩
   ·simp only[wK,bxR,arR,bxK,arK,hG,List.append_assoc,List.cons_append,List.nil_append,YAJ,Nat.add_comm]
   ·simp only[WK,↓zaL,↓zHC,yA,reduceIte,AV.bel,AV.belL,AObj.bel,AV.norm,AV.zQg,yB,yC]
  have b2:((σ.L.st.root p2:Int)==4)=false:=by rw[YAZ];omega
  have k1:=fun(F:List AObj) (w a:Nat) (hD:QuaD F p q w a) ver len ps=>dK (lim:=lim) (fun G hs hr=>zfq (F:=G) (v:=σ.v) (lim:=lim) (cnt:=σ.cnt) hs hr hne hg.si.wf (σ.L.st.root p1) (by rw[Mem.zXR];exact hxl)) hD ver len ps
  have k2:=fun(F:List AObj) (w a:Nat) (hD:QuaD F p q w a) ver len ps=>dK (lim:=lim) (fun G hs hr=>zfq (F:=G) (v:=σ.v) (lim:=lim) (cnt:=σ.cnt) hs hr hne hg.si.wf (σ.L.st.root p2) (by rw[Mem.zXR];exact hyl)) hD ver len ps
  rw[ex]at k1
  rw[ey]at k2
  by_cases h61:σ.L.st.kind (σ.L.st.root p1)=6
  ·have b3:(σ.L.st.kind (σ.L.st.root p1)==6)=true:=by rw[beq_iff_eq];exact h61
   have q3:=fun(F:List AObj) (w a:Nat) (hD:QuaD F p q w a)=>(zfh (lim:=lim) hD hg (by omega) ⟨o3,by omega⟩ hcnt hxl hyl ex ey h61 hxy hy4 true ver stk.length ps (by omega) (by omega)).1
   have qc:=(zfh (lim:=lim) hD hg (by omega) ⟨o3,by omega⟩ hcnt hxl hyl ex ey h61 hxy hy4 true ver stk.length ps (by omega) (by omega)).2
   rw[zXk,if_neg hxy,if_neg hx4,if_neg hy4,if_pos h61]at hrun hkeep
   simp only at hrun hkeep
   generalize σ.become lim (σ.L.st.root p1) (σ.L.st.root p2)=B at*
   obtain⟨mo,e,σ'⟩:=B
   simp only at hrun q3 hkeep qc
   by_cases he:e=0
   ·subst he
    have b4:((0:Int) !=0)=false:=rfl
    rw[if_neg (by simp)]at hrun hkeep
    cases mo with
    |none=>
     simp only[zB,List.length_nil,Nat.add_zero,psh,if_true]at q3
     have h:=YAN
     repeat' (first
      |(with_reducible first|apply bA|apply bB|apply bC|apply bD|apply bE|apply bF)<;>intro h
      |((first|apply bG|apply bH);simp only[AV.norm,AV.zQg,W2,W3,yH,yI,yJ,yK,yL,yM,zdX,zdV,yG,isMs,zWF,wK,bxR,arR,bxK,arK,quaP hD,zTh,zTg,AV.bel,ze0,c0,c2,w1,hget,hne',hle',hrg,prI,AV.belL,htk0,htkJ,hb1,hbk,b0,b1,b2,b3,b4];first|refine zIk rfl (zgP (lim:=lim) hne hg.si.wf p1 hp1 (by simp[quaP hD,bxR,arR])) (.inl rfl) ?_|refine zIk rfl (zgP (lim:=lim) hne hg.si.wf p2 hp2 (by simp[quaP hD,bxR,arR])) (.inl rfl) ?_|refine zIB (k1 _ _ _ (by first|exact hD|exact hD.app _) _ _ _) (.inl rfl) ?_|refine zIA (q3 _ _ _ (by first|exact hD|exact hD.app _)) (.inl rfl) (fun hb=>kdB (by first|exact hD|exact hD.app _) hb) ?_)
      |refine zKh (id:=5) zdW (fun _=>trivial) mixed 1 Try.f49.ntmps (by first|(simp;done)|(simp;omega)) rfl (by kernel_rfl) (by decide) ?_
      |refine zKh (id:=6) zdW (fun _=>trivial) mixed 0 Try.f49.ntmps (by first|(simp;done)|(simp;omega)) rfl (by kernel_rfl) (by decide) ?_
      |refine zKh (id:=7) zdW (fun _=>trivial) mixed 0 Try.f49.ntmps (by first|(simp;done)|(simp;omega)) rfl (by kernel_rfl) (by decide) ?_
      |refine zJ9 ?_ zdW Try.f49.ntmps rfl (by decide)
      |skip)<;>simp only[h,↓zaL,↓zHC,WY,reduceIte,yA,yB,yC,yD,reduceCtorEq,yE,yF,W1,WS,W3,yH,yI,yJ,yK,yL,yM,zdX,zdV,yG,isMs,zWF,wK,bxR,arR,bxK,arK,quaP hD,zTh,zTg,AV.bel,ze0,c0,c2,w1,hget,hne',hle',hrg,prI,AV.belL,htk0,htkJ,hb1,hbk,b0,b1,b2,b3,b4,zFY]
     refine⟨⟨ver,ps,stk,m,σ',K++ [.box [.int .i64 p1,.int .i64 p2]]⟩,⟨hkeep.1.good,hkeep.2,hes',hrun,qc⟩,Nat.lt_succ_self m,zap ?_ ?_⟩
     ·simp only[wK,bxR,arR,bxK,arK,hG,List.append_assoc,List.cons_append,List.nil_append,YAJ,Nat.add_comm]
     ·simp only[WK,↓zaL,↓zHC,yA,reduceIte,AV.bel,AV.belL,AObj.bel,AV.norm,AV.zQg,yB,yC]
    |some n=>
     simp only at hrun hkeep
     simp only[zB,if_true]at q3
     generalize (σ'.L.st.kids n).zip (σ'.L.st.kids (σ.L.st.root p2))=z at*
     have h:=YAN
     repeat' (first
      |(with_reducible first|apply bA|apply bB|apply bC|apply bD|apply bE|apply bF)<;>intro h
      |((first|apply bG|apply bH);simp only[AV.norm,AV.zQg,W2,W3,yH,yI,yJ,yK,yL,yM,zdX,zdV,yG,isMs,zWF,wK,bxR,arR,bxK,arK,quaP hD,zTh,zTg,AV.bel,ze0,c0,c2,w1,hget,hne',hle',hrg,prI,AV.belL,htk0,htkJ,hb1,hbk,b0,b1,b2,b3,b4];first|refine zIk rfl (zgP (lim:=lim) hne hg.si.wf p1 hp1 (by simp[quaP hD,bxR,arR])) (.inl rfl) ?_|refine zIk rfl (zgP (lim:=lim) hne hg.si.wf p2 hp2 (by simp[quaP hD,bxR,arR])) (.inl rfl) ?_|refine zIB (k1 _ _ _ (by first|exact hD|exact hD.app _) _ _ _) (.inl rfl) ?_|refine zIA (q3 _ _ _ (by first|exact hD|exact hD.app _)) (.inl rfl) (fun hb=>kdB (by first|exact hD|exact hD.app _) hb) ?_)
      |refine zKh (id:=5) zdW (fun _=>trivial) mixed 1 Try.f49.ntmps (by first|(simp;done)|(simp;omega)) rfl (by kernel_rfl) (by decide) ?_
      |refine zKh (id:=6) zdW (fun _=>trivial) mixed 0 Try.f49.ntmps (by first|(simp;done)|(simp;omega)) rfl (by kernel_rfl) (by decide) ?_
      |refine zKh (id:=7) zdW (fun _=>trivial) mixed 0 Try.f49.ntmps (by first|(simp;done)|(simp;omega)) rfl (by kernel_rfl) (by decide) ?_
      |refine zJ9 ?_ zdW Try.f49.ntmps rfl (by decide)
      |skip)<;>simp only[h,↓zaL,↓zHC,WY,reduceIte,yA,yB,yC,yD,reduceCtorEq,yE,yF,W1,WS,W3,yH,yI,yJ,yK,yL,yM,zdX,zdV,yG,isMs,zWF,wK,bxR,arR,bxK,arK,quaP hD,zTh,zTg,AV.bel,ze0,c0,c2,w1,hget,hne',hle',hrg,prI,AV.belL,htk0,htkJ,hb1,hbk,b0,b1,b2,b3,b4,zFY]
     refine⟨⟨(ver+z.length),(psh ps stk.length z),(z++stk),m,σ',K++ [.box [.int .i64 p1,.int .i64 p2]]⟩,⟨hkeep.1.good,hkeep.2,zfD (by omega) hes',hrun,qc⟩,Nat.lt_succ_self m,zap ?_ ?_⟩
     ·simp only[wK,bxR,arR,bxK,arK,hG,List.append_assoc,List.cons_append,List.nil_append,YAJ,Nat.add_comm]
     ·simp only[WK,↓zaL,↓zHC,yA,reduceIte,AV.bel,AV.belL,AObj.bel,AV.norm,AV.zQg,yB,yC]
   ·have b4:(e !=0)=true:=by rw[bne_iff_ne];exact he
    rw[if_pos he]at hrun
    simp only at hrun
    subst hrun
    have h:=YAN
    repeat' (first
     |(with_reducible first|apply bA|apply bB|apply bC|apply bD|apply bE|apply bF)<;>intro h
     |((first|apply bG|apply bH);simp only[AV.norm,AV.zQg,W2,W3,yH,yI,yJ,yK,yL,yM,zdX,zdV,yG,isMs,zWF,wK,bxR,arR,bxK,arK,quaP hD,zTh,zTg,AV.bel,ze0,c0,c2,w1,hget,hne',hle',hrg,prI,AV.belL,htk0,htkJ,hb1,hbk,b0,b1,b2,b3,b4];first|refine zIk rfl (zgP (lim:=lim) hne hg.si.wf p1 hp1 (by simp[quaP hD,bxR,arR])) (.inl rfl) ?_|refine zIk rfl (zgP (lim:=lim) hne hg.si.wf p2 hp2 (by simp[quaP hD,bxR,arR])) (.inl rfl) ?_|refine zIB (k1 _ _ _ (by first|exact hD|exact hD.app _) _ _ _) (.inl rfl) ?_|refine zIA (q3 _ _ _ (by first|exact hD|exact hD.app _)) (.inl rfl) (fun hb=>kdB (by first|exact hD|exact hD.app _) hb) ?_)
     |refine zKh (id:=5) zdW (fun _=>trivial) mixed 1 Try.f49.ntmps (by first|(simp;done)|(simp;omega)) rfl (by kernel_rfl) (by decide) ?_
     |refine zKh (id:=6) zdW (fun _=>trivial) mixed 0 Try.f49.ntmps (by first|(simp;done)|(simp;omega)) rfl (by kernel_rfl) (by decide) ?_
     |refine zKh (id:=7) zdW (fun _=>trivial) mixed 0 Try.f49.ntmps (by first|(simp;done)|(simp;omega)) rfl (by kernel_rfl) (by decide) ?_
     |refine zJ9 ?_ zdW Try.f49.ntmps rfl (by decide)
     |skip)<;>simp only[h,↓zaL,↓zHC,WY,reduceIte,yA,yB,yC,yD,reduceCtorEq,yE,yF,W1,WS,W3,yH,yI,yJ,yK,yL,yM,zdX,zdV,yG,isMs,zWF,wK,bxR,arR,bxK,arK,quaP hD,zTh,zTg,AV.bel,ze0,c0,c2,w1,hget,hne',hle',hrg,prI,AV.belL,htk0,htkJ,hb1,hbk,b0,b1,b2,b3,b4,zFY]
  have b3:(σ.L.st.kind (σ.L.st.root p1)==6)=false:=by rw[YAZ];exact h61
  by_cases h62:σ.L.st.kind (σ.L.st.root p2)=6
  ·have b3':(σ.L.st.kind (σ.L.st.root p2)==6)=true:=by rw[beq_iff_eq];exact h62
   have q3:=fun(F:List AObj) (w a:Nat) (hD:QuaD F p q w a)=>(zfh (lim:=lim) hD hg (by omega) ⟨o3,by omega⟩ hcnt hyl hxl ey ex h62 (fun e=>hxy e.symm) hx4 false ver stk.length ps (by omega) (by omega)).1
   have qc:=(zfh (lim:=lim) hD hg (by omega) ⟨o3,by omega⟩ hcnt hyl hxl ey ex h62 (fun e=>hxy e.symm) hx4 false ver stk.length ps (by omega) (by omega)).2
   rw[zXk,if_neg hxy,if_neg hx4,if_neg hy4,if_neg h61,if_pos h62]at hrun hkeep
   simp only at hrun hkeep
   generalize σ.become lim (σ.L.st.root p2) (σ.L.st.root p1)=B at*
   obtain⟨mo,e,σ'⟩:=B
   simp only at hrun q3 hkeep qc
   by_cases he:e=0
   ·subst he
    have b4:((0:Int) !=0)=false:=rfl
    rw[if_neg (by simp)]at hrun hkeep
    cases mo with
    |none=>
     simp only[zB,List.length_nil,Nat.add_zero,psh,if_true]at q3
     have h:=YAN
     repeat' (first
      |(with_reducible first|apply bA|apply bB|apply bC|apply bD|apply bE|apply bF)<;>intro h
      |((first|apply bG|apply bH);simp only[AV.norm,AV.zQg,W2,W3,yH,yI,yJ,yK,yL,yM,zdX,zdV,yG,isMs,zWF,wK,bxR,arR,bxK,arK,quaP hD,zTh,zTg,AV.bel,ze0,c0,c2,w1,hget,hne',hle',hrg,prI,AV.belL,htk0,htkJ,hb1,hbk,b0,b1,b2,b3,b3',b4];first|refine zIk rfl (zgP (lim:=lim) hne hg.si.wf p1 hp1 (by simp[quaP hD,bxR,arR])) (.inl rfl) ?_|refine zIk rfl (zgP (lim:=lim) hne hg.si.wf p2 hp2 (by simp[quaP hD,bxR,arR])) (.inl rfl) ?_|refine zIB (k1 _ _ _ (by first|exact hD|exact hD.app _) _ _ _) (.inl rfl) ?_|refine zIB (k2 _ _ _ (by first|exact hD|exact hD.app _) _ _ _) (.inl rfl) ?_|refine zIA (q3 _ _ _ (by first|exact hD|exact hD.app _)) (.inl rfl) (fun hb=>kdB (by first|exact hD|exact hD.app _) hb) ?_)
      |refine zKh (id:=5) zdW (fun _=>trivial) mixed 1 Try.f49.ntmps (by first|(simp;done)|(simp;omega)) rfl (by kernel_rfl) (by decide) ?_
      |refine zKh (id:=6) zdW (fun _=>trivial) mixed 0 Try.f49.ntmps (by first|(simp;done)|(simp;omega)) rfl (by kernel_rfl) (by decide) ?_
      |refine zKh (id:=7) zdW (fun _=>trivial) mixed 0 Try.f49.ntmps (by first|(simp;done)|(simp;omega)) rfl (by kernel_rfl) (by decide) ?_
      |refine zJ9 ?_ zdW Try.f49.ntmps rfl (by decide)
      |skip)<;>simp only[h,↓zaL,↓zHC,WY,reduceIte,yA,yB,yC,yD,reduceCtorEq,yE,yF,W1,WS,W3,yH,yI,yJ,yK,yL,yM,zdX,zdV,yG,isMs,zWF,wK,bxR,arR,bxK,arK,quaP hD,zTh,zTg,AV.bel,ze0,c0,c2,w1,hget,hne',hle',hrg,prI,AV.belL,htk0,htkJ,hb1,hbk,b0,b1,b2,b3,b3',b4,zFY]
     refine⟨⟨ver,ps,stk,m,σ',K++ [.box [.int .i64 p1,.int .i64 p2]]⟩,⟨hkeep.1.good,hkeep.2,hes',hrun,qc⟩,Nat.lt_succ_self m,zap ?_ ?_⟩
     ·simp only[wK,bxR,arR,bxK,arK,hG,List.append_assoc,List.cons_append,List.nil_append,YAJ,Nat.add_comm]
     ·simp only[WK,↓zaL,↓zHC,yA,reduceIte,AV.bel,AV.belL,AObj.bel,AV.norm,AV.zQg,yB,yC]
    |some n=>
     simp only at hrun hkeep
     simp only[zB,YAB,if_false]at q3
     generalize (σ'.L.st.kids (σ.L.st.root p1)).zip (σ'.L.st.kids n)=z at*
     have h:=YAN
     repeat' (first
      |(with_reducible first|apply bA|apply bB|apply bC|apply bD|apply bE|apply bF)<;>intro h
      |((first|apply bG|apply bH);simp only[AV.norm,AV.zQg,W2,W3,yH,yI,yJ,yK,yL,yM,zdX,zdV,yG,isMs,zWF,wK,bxR,arR,bxK,arK,quaP hD,zTh,zTg,AV.bel,ze0,c0,c2,w1,hget,hne',hle',hrg,prI,AV.belL,htk0,htkJ,hb1,hbk,b0,b1,b2,b3,b3',b4];first|refine zIk rfl (zgP (lim:=lim) hne hg.si.wf p1 hp1 (by simp[quaP hD,bxR,arR])) (.inl rfl) ?_|refine zIk rfl (zgP (lim:=lim) hne hg.si.wf p2 hp2 (by simp[quaP hD,bxR,arR])) (.inl rfl) ?_|refine zIB (k1 _ _ _ (by first|exact hD|exact hD.app _) _ _ _) (.inl rfl) ?_|refine zIB (k2 _ _ _ (by first|exact hD|exact hD.app _) _ _ _) (.inl rfl) ?_|refine zIA (q3 _ _ _ (by first|exact hD|exact hD.app _)) (.inl rfl) (fun hb=>kdB (by first|exact hD|exact hD.app _) hb) ?_)
      |refine zKh (id:=5) zdW (fun _=>trivial) mixed 1 Try.f49.ntmps (by first|(simp;done)|(simp;omega)) rfl (by kernel_rfl) (by decide) ?_
      |refine zKh (id:=6) zdW (fun _=>trivial) mixed 0 Try.f49.ntmps (by first|(simp;done)|(simp;omega)) rfl (by kernel_rfl) (by decide) ?_
      |refine zKh (id:=7) zdW (fun _=>trivial) mixed 0 Try.f49.ntmps (by first|(simp;done)|(simp;omega)) rfl (by kernel_rfl) (by decide) ?_
      |refine zJ9 ?_ zdW Try.f49.ntmps rfl (by decide)
      |skip)<;>simp only[h,↓zaL,↓zHC,WY,reduceIte,yA,yB,yC,yD,reduceCtorEq,yE,yF,W1,WS,W3,yH,yI,yJ,yK,yL,yM,zdX,zdV,yG,isMs,zWF,wK,bxR,arR,bxK,arK,quaP hD,zTh,zTg,AV.bel,ze0,c0,c2,w1,hget,hne',hle',hrg,prI,AV.belL,htk0,htkJ,hb1,hbk,b0,b1,b2,b3,b3',b4,zFY]
     refine⟨⟨(ver+z.length),(psh ps stk.length z),(z++stk),m,σ',K++ [.box [.int .i64 p1,.int .i64 p2]]⟩,⟨hkeep.1.good,hkeep.2,zfD (by omega) hes',hrun,qc⟩,Nat.lt_succ_self m,zap ?_ ?_⟩
     ·simp only[wK,bxR,arR,bxK,arK,hG,List.append_assoc,List.cons_append,List.nil_append,YAJ,Nat.add_comm]
     ·simp only[WK,↓zaL,↓zHC,yA,reduceIte,AV.bel,AV.belL,AObj.bel,AV.norm,AV.zQg,yB,yC]
   ·have b4:(e !=0)=true:=by rw[bne_iff_ne];exact he
    rw[if_pos he]at hrun
    simp only at hrun
    subst hrun
    have h:=YAN
    repeat' (first
     |(with_reducible first|apply bA|apply bB|apply bC|apply bD|apply bE|apply bF)<;>intro h
     |((first|apply bG|apply bH);simp only[AV.norm,AV.zQg,W2,W3,yH,yI,yJ,yK,yL,yM,zdX,zdV,yG,isMs,zWF,wK,bxR,arR,bxK,arK,quaP hD,zTh,zTg,AV.bel,ze0,c0,c2,w1,hget,hne',hle',hrg,prI,AV.belL,htk0,htkJ,hb1,hbk,b0,b1,b2,b3,b3',b4];first|refine zIk rfl (zgP (lim:=lim) hne hg.si.wf p1 hp1 (by simp[quaP hD,bxR,arR])) (.inl rfl) ?_|refine zIk rfl (zgP (lim:=lim) hne hg.si.wf p2 hp2 (by simp[quaP hD,bxR,arR])) (.inl rfl) ?_|refine zIB (k1 _ _ _ (by first|exact hD|exact hD.app _) _ _ _) (.inl rfl) ?_|refine zIB (k2 _ _ _ (by first|exact hD|exact hD.app _) _ _ _) (.inl rfl) ?_|refine zIA (q3 _ _ _ (by first|exact hD|exact hD.app _)) (.inl rfl) (fun hb=>kdB (by first|exact hD|exact hD.app _) hb) ?_)
     |refine zKh (id:=5) zdW (fun _=>trivial) mixed 1 Try.f49.ntmps (by first|(simp;done)|(simp;omega)) rfl (by kernel_rfl) (by decide) ?_
     |refine zKh (id:=6) zdW (fun _=>trivial) mixed 0 Try.f49.ntmps (by first|(simp;done)|(simp;omega)) rfl (by kernel_rfl) (by decide) ?_
     |refine zKh (id:=7) zdW (fun _=>trivial) mixed 0 Try.f49.ntmps (by first|(simp;done)|(simp;omega)) rfl (by kernel_rfl) (by decide) ?_
     |refine zJ9 ?_ zdW Try.f49.ntmps rfl (by decide)
     |skip)<;>simp only[h,↓zaL,↓zHC,WY,reduceIte,yA,yB,yC,yD,reduceCtorEq,yE,yF,W1,WS,W3,yH,yI,yJ,yK,yL,yM,zdX,zdV,yG,isMs,zWF,wK,bxR,arR,bxK,arK,quaP hD,zTh,zTg,AV.bel,ze0,c0,c2,w1,hget,hne',hle',hrg,prI,AV.belL,htk0,htkJ,hb1,hbk,b0,b1,b2,b3,b3',b4,zFY]
  have b3':(σ.L.st.kind (σ.L.st.root p2)==6)=false:=by rw[YAZ];exact h62
  rw[zXk,if_neg hxy,if_neg hx4,if_neg hy4,if_neg h61,if_neg h62]at hrun hkeep
  by_cases hkk:σ.L.st.kind (σ.L.st.root p1)=σ.L.st.kind (σ.L.st.root p2)
  ·have b4:(σ.L.st.kind (σ.L.st.root p1) !=σ.L.st.kind (σ.L.st.root p2))=false:=by rw[bne_eq_false_iff_eq];exact hkk
   rw[if_neg (by simp[hkk])]at hrun hkeep
   simp only at hrun hkeep
   obtain⟨klen,klo,khi⟩:=hg.si.wf.zMh (by rw[Mem.zXR];exact hxl) (by rw[Mem.zXR];exact hyl) hxy hkk h61
   have b5:((0:Int) !=0)=false:=rfl
   have kk1:=fun(F:List AObj) (w a:Nat) (hD:QuaD F p q w a) ver len ps=>dK (lim:=lim) (fun G hs hr=>zfo (F:=G) (v:=σ.v) (lim:=lim) (cnt:=σ.cnt) hs hr hne hg.si.wf (σ.L.st.root p1) (by rw[Mem.zXR];exact hxl)) hD ver len ps
   have kk2:=fun(F:List AObj) (w a:Nat) (hD:QuaD F p q w a) ver len ps=>dK (lim:=lim) (fun G hs hr=>zfo (F:=G) (v:=σ.v) (lim:=lim) (cnt:=σ.cnt) hs hr hne hg.si.wf (σ.L.st.root p2) (by rw[Mem.zXR];exact hyl)) hD ver len ps
   rw[ex]at kk1
   rw[ey]at kk2
   rcases zYu klen klo khi with ⟨a,c,e1,e2⟩|⟨a,b,c,d,e1,e2⟩
   ·rw[e1]at kk1 hrun hkeep
    rw[e2]at kk2 hrun hkeep
    simp only[kidI,List.map_cons,List.map_nil,I64]at kk1 kk2
    simp only[List.zip_cons_cons,List.zip_nil_left,List.cons_append,List.nil_append]at hrun hkeep
    have k9:=fun(F:List AObj) (w a':Nat) (hD:QuaD F p q w a')=>zfm (lim:=lim) hD σ ver stk.length ps a c (by omega) (by omega)
    have h:=YAN
    repeat' (first
     |(with_reducible first|apply bA|apply bB|apply bC|apply bD|apply bE|apply bF)<;>intro h
     |((first|apply bG|apply bH);simp only[AV.norm,AV.zQg,W2,W3,yH,yI,yJ,yK,yL,yM,zdX,zdV,yG,isMs,zWF,wK,bxR,arR,bxK,arK,quaP hD,zTh,zTg,AV.bel,ze0,c0,c2,w1,hget,hne',hle',hrg,prI,AV.belL,htk0,htkJ,hb1,hbk,b0,b1,b2,b3,b3',b4,b5];first|refine zIk rfl (zgP (lim:=lim) hne hg.si.wf p1 hp1 (by simp[quaP hD,bxR,arR])) (.inl rfl) ?_|refine zIk rfl (zgP (lim:=lim) hne hg.si.wf p2 hp2 (by simp[quaP hD,bxR,arR])) (.inl rfl) ?_|refine zIB (k1 _ _ _ (by first|exact hD|exact hD.app _) _ _ _) (.inl rfl) ?_|refine zIB (k2 _ _ _ (by first|exact hD|exact hD.app _) _ _ _) (.inl rfl) ?_|refine zIB (kk1 _ _ _ (by first|exact hD|exact hD.app _) _ _ _) (.inl rfl) ?_|refine zIB (kk2 _ _ _ (by first|exact hD|exact hD.app _) _ _ _) (.inl rfl) ?_|refine zIA (k9 _ _ _ (by first|exact hD|exact hD.app _)) (.inl rfl) (fun hb=>kdB (by first|exact hD|exact hD.app _) hb) ?_)
     |refine zKh (id:=5) zdW (fun _=>trivial) mixed 1 Try.f49.ntmps (by first|(simp;done)|(simp;omega)) rfl (by kernel_rfl) (by decide) ?_
     |refine zKh (id:=6) zdW (fun _=>trivial) mixed 0 Try.f49.ntmps (by first|(simp;done)|(simp;omega)) rfl (by kernel_rfl) (by decide) ?_
     |refine zKh (id:=7) zdW (fun _=>trivial) mixed 0 Try.f49.ntmps (by first|(simp;done)|(simp;omega)) rfl (by kernel_rfl) (by decide) ?_
     |refine zJ9 ?_ zdW Try.f49.ntmps rfl (by decide)
     |skip)<;>simp only[h,↓zaL,↓zHC,WY,reduceIte,yA,yB,yC,yD,reduceCtorEq,yE,yF,W1,WS,W3,yH,yI,yJ,yK,yL,yM,zdX,zdV,yG,isMs,zWF,wK,bxR,arR,bxK,arK,quaP hD,zTh,zTg,AV.bel,ze0,c0,c2,w1,hget,hne',hle',hrg,prI,AV.belL,htk0,htkJ,hb1,hbk,b0,b1,b2,b3,b3',b4,b5,zFY]
    refine⟨⟨(ver+1),(ps.take stk.length++ [(a,c)]),((a,c)::stk),m,σ,K++ [.box [.int .i64 p1,.int .i64 p2]]⟩,⟨hkeep.1.good,hkeep.2,(by rw[hes',List.take_of_length_le (by simp)];simp),hrun,hcnt⟩,Nat.lt_succ_self m,zap ?_ ?_⟩
    ·simp only[wK,bxR,arR,bxK,arK,hG,List.append_assoc,List.cons_append,List.nil_append,YAJ,List.length_cons,Nat.add_comm,Nat.add_assoc,yB]
    ·simp only[WK,↓zaL,↓zHC,yA,reduceIte,AV.bel,AV.belL,AObj.bel,AV.norm,AV.zQg,yB,yC]
   ·rw[e1]at kk1 hrun hkeep
    rw[e2]at kk2 hrun hkeep
    simp only[kidI,List.map_cons,List.map_nil,I64]at kk1 kk2
    simp only[List.zip_cons_cons,List.zip_nil_left,List.cons_append,List.nil_append]at hrun hkeep
    have k9:=fun(F:List AObj) (w a':Nat) (hD:QuaD F p q w a')=>zfn (lim:=lim) hD σ ver stk.length ps a b c d (by omega) (by omega)
    have h:=YAN
    repeat' (first
     |(with_reducible first|apply bA|apply bB|apply bC|apply bD|apply bE|apply bF)<;>intro h
     |((first|apply bG|apply bH);simp only[AV.norm,AV.zQg,W2,W3,yH,yI,yJ,yK,yL,yM,zdX,zdV,yG,isMs,zWF,wK,bxR,arR,bxK,arK,quaP hD,zTh,zTg,AV.bel,ze0,c0,c2,w1,hget,hne',hle',hrg,prI,AV.belL,htk0,htkJ,hb1,hbk,b0,b1,b2,b3,b3',b4,b5];first|refine zIk rfl (zgP (lim:=lim) hne hg.si.wf p1 hp1 (by simp[quaP hD,bxR,arR])) (.inl rfl) ?_|refine zIk rfl (zgP (lim:=lim) hne hg.si.wf p2 hp2 (by simp[quaP hD,bxR,arR])) (.inl rfl) ?_|refine zIB (k1 _ _ _ (by first|exact hD|exact hD.app _) _ _ _) (.inl rfl) ?_|refine zIB (k2 _ _ _ (by first|exact hD|exact hD.app _) _ _ _) (.inl rfl) ?_|refine zIB (kk1 _ _ _ (by first|exact hD|exact hD.app _) _ _ _) (.inl rfl) ?_|refine zIB (kk2 _ _ _ (by first|exact hD|exact hD.app _) _ _ _) (.inl rfl) ?_|refine zIA (k9 _ _ _ (by first|exact hD|exact hD.app _)) (.inl rfl) (fun hb=>kdB (by first|exact hD|exact hD.app _) hb) ?_)
     |refine zKh (id:=5) zdW (fun _=>trivial) mixed 1 Try.f49.ntmps (by first|(simp;done)|(simp;omega)) rfl (by kernel_rfl) (by decide) ?_
     |refine zKh (id:=6) zdW (fun _=>trivial) mixed 0 Try.f49.ntmps (by first|(simp;done)|(simp;omega)) rfl (by kernel_rfl) (by decide) ?_
     |refine zKh (id:=7) zdW (fun _=>trivial) mixed 0 Try.f49.ntmps (by first|(simp;done)|(simp;omega)) rfl (by kernel_rfl) (by decide) ?_
     |refine zJ9 ?_ zdW Try.f49.ntmps rfl (by decide)
     |skip)<;>simp only[h,↓zaL,↓zHC,WY,reduceIte,yA,yB,yC,yD,reduceCtorEq,yE,yF,W1,WS,W3,yH,yI,yJ,yK,yL,yM,zdX,zdV,yG,isMs,zWF,wK,bxR,arR,bxK,arK,quaP hD,zTh,zTg,AV.bel,ze0,c0,c2,w1,hget,hne',hle',hrg,prI,AV.belL,htk0,htkJ,hb1,hbk,b0,b1,b2,b3,b3',b4,b5,zFY]
    refine⟨⟨(ver+1+1),(ps.take stk.length++ [(b,d),(a,c)]),((a,c)::(b,d)::stk),m,σ,K++ [.box [.int .i64 p1,.int .i64 p2]]⟩,⟨hkeep.1.good,hkeep.2,(by rw[hes',List.take_of_length_le (by simp)];simp),hrun,hcnt⟩,Nat.lt_succ_self m,zap ?_ ?_⟩
    ·simp only[wK,bxR,arR,bxK,arK,hG,List.append_assoc,List.cons_append,List.nil_append,YAJ,List.length_cons,Nat.add_comm,Nat.add_assoc,yB]
    ·simp only[WK,↓zaL,↓zHC,yA,reduceIte,AV.bel,AV.belL,AObj.bel,AV.norm,AV.zQg,yB,yC]
  ·have b4:(σ.L.st.kind (σ.L.st.root p1) !=σ.L.st.kind (σ.L.st.root p2))=true:=by rw[bne_iff_ne];exact hkk
   rw[if_pos hkk]at hrun
   simp only at hrun
   subst hrun
   have h:=YAN
   repeat' (first
    |(with_reducible first|apply bA|apply bB|apply bC|apply bD|apply bE|apply bF)<;>intro h
    |((first|apply bG|apply bH);simp only[AV.norm,AV.zQg,W2,W3,yH,yI,yJ,yK,yL,yM,zdX,zdV,yG,isMs,zWF,wK,bxR,arR,bxK,arK,quaP hD,zTh,zTg,AV.bel,ze0,c0,c2,w1,hget,hne',hle',hrg,prI,AV.belL,htk0,htkJ,hb1,hbk,b0,b1,b2,b3,b3',b4];first|refine zIk rfl (zgP (lim:=lim) hne hg.si.wf p1 hp1 (by simp[quaP hD,bxR,arR])) (.inl rfl) ?_|refine zIk rfl (zgP (lim:=lim) hne hg.si.wf p2 hp2 (by simp[quaP hD,bxR,arR])) (.inl rfl) ?_|refine zIB (k1 _ _ _ (by first|exact hD|exact hD.app _) _ _ _) (.inl rfl) ?_|refine zIB (k2 _ _ _ (by first|exact hD|exact hD.app _) _ _ _) (.inl rfl) ?_)
    |refine zKh (id:=5) zdW (fun _=>trivial) mixed 1 Try.f49.ntmps (by first|(simp;done)|(simp;omega)) rfl (by kernel_rfl) (by decide) ?_
    |refine zKh (id:=6) zdW (fun _=>trivial) mixed 0 Try.f49.ntmps (by first|(simp;done)|(simp;omega)) rfl (by kernel_rfl) (by decide) ?_
    |refine zKh (id:=7) zdW (fun _=>trivial) mixed 0 Try.f49.ntmps (by first|(simp;done)|(simp;omega)) rfl (by kernel_rfl) (by decide) ?_
    |refine zJ9 ?_ zdW Try.f49.ntmps rfl (by decide)
    |skip)<;>simp only[h,↓zaL,↓zHC,WY,reduceIte,yA,yB,yC,yD,reduceCtorEq,yE,yF,W1,WS,W3,yH,yI,yJ,yK,yL,yM,zdX,zdV,yG,isMs,zWF,wK,bxR,arR,bxK,arK,quaP hD,zTh,zTg,AV.bel,ze0,c0,c2,w1,hget,hne',hle',hrg,prI,AV.belL,htk0,htkJ,hb1,hbk,b0,b1,b2,b3,b3',b4,zFY]
end
end Go.Proofs.Ytdngjamjccjlmaa
