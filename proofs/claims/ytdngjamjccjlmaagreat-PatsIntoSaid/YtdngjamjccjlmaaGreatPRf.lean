/- Lemmas: the store of the document, walked, fourth part. No condition. -/
import Derived.Test.YtdngjamjccjlmaaGreatPRe
import Derived.Test.YtdngjamjccjlmaaGreatPNc
import Derived.Test.YtdngjamjccjlmaaGreatPRc
import Derived.Test.YtdngjamjccjlmaaGreatPWe
import Derived.Test.YtdngjamjccjlmaaGreatPBa
set_option linter.unusedSimpArgs false
set_option linter.unusedVariables false
set_option maxHeartbeats 16000000
set_option maxRecDepth 100000
set_option maxHeartbeats 4000000
namespace Go.Proofs.YtdngjamjccjlmaaGreat
open Go Go.Ab
open Nat renaming reduceEqDiff -> yA, reduceAdd -> yB, reduceLeDiff -> yD, reduceMul -> yE, reducePow -> yF, reduceBEq -> yG, reduceLT -> yC
open Int renaming reduceBNe -> yL, reduceLT -> yI, reduceBEq -> yK, reduceLE -> yM
open AV renaming belL -> yO, bel -> yN, normL -> yQ, norm -> yP
attribute [local irreducible] zA0 zAA zAa zAi zAj GoIf GoGb zAk GoO GoD GoX GoDX GoG GoDG GoGv zAl Go zAB
section
def CAr:Cfg:= {C with inpl:=fun d=>d==28,rdr:=CR.rdr}
theorem zdW:zAb Tryz.prog CAr:=C_ok
theorem zdX(t:Nat):CAr.ty t=C.ty t:=rfl
theorem zdV(t:Nat):CAr.inpl t=(t==28):=rfl
structure AkS where
 ver:Nat
 ps:List (Nat×Nat)
 stk:List (Nat×Nat)
 m:Nat
 σ:Sto
 K:List AObj
structure AkI (lim:Int) (res:Int×Int×Int×Sto) (x:AkS):Prop where
 good:GoodS x.σ
 lt:Lt2 x.σ.L.length x.stk
 es:x.ps.take x.stk.length=x.stk.reverse
 run:RunB lim x.m x.stk x.σ res
 cnt:x.σ.cnt<=lim
section
variable {F : List AObj} {p q : Nat} {lim : Int}
theorem zhC(hs:p<F.length)(hr:q<F.length)(K:List AObj)(x1 x2 x3 x4:AObj):qua (F++(.dead:: .dead::K)) p q (F.length+1) F.length x1 x2 x3 x4=stF (F++(x4::x3::K)) p q x1 x2:=by
 unfold qua
 rw[zCY rfl,zCX rfl];rfl
theorem wK_D(hs:p<F.length)(hr:q<F.length)(hne:q≠p)(K:List AObj):QuaD (F++(.dead:: .dead::K)) p q (F.length+1) F.length:=
 ⟨by simp;omega,by simp;omega,by simp,by simp,⟨fun e=>hne e.symm,by omega,by omega⟩,by omega,by omega,by omega⟩
theorem zgP{e:Nat->AV}{b m:Nat}{G:List AObj}{σ:Sto}(hne:q≠p)(hw:Wf σ.L.st)(n:Nat)(hn:n<σ.L.length)(hG:G[p]?=some (bxR q σ.v σ.L.st.length lim σ.cnt)/\G[q]?=some (arR σ.v σ.L.st)):zA5 Tryz.prog 38 [.bptr p 0,.int .i64 n] (.int .i64 (σ.L.st.root n)) (FS e G b m).obj:=
 qcalls_st (s:=p) (r:=q) (bx:=bxR q σ.v σ.L.st.length lim σ.cnt) (ar:=arR σ.v σ.L.st) (fun F' h1 h2=>zgO h1 h2 hne hw n (by rw[Mem.zXR];exact hn)) (by rw[zIP];exact hG.1) (by rw[zIP];exact hG.2) rfl rfl
theorem zfz(hs:p<F.length)(hr:q<F.length)(hne:q≠p){σ:Sto}(hg:GoodS σ)(hL:σ.L.length<=1000000){n:Nat}(hn:n<σ.L.length){lv:Int}(hl:0<=lv):
 zAd Tryz.prog 99 [.bptr p 0,.int .i64 n,.int .i64 lv] (σ.zeM F p q lim) (.int .i64 0) ((σ.low n lv).zeM F p q lim):=by
 have h:=zf1 (F:=F) (v:=σ.v) (lim:=lim) (cnt:=σ.cnt) hs hr hne hg.si.wf (by rw[Mem.zXR];exact hL) n (by rw[Mem.zXR];exact hn) lv (by omega)
 unfold Sto.zeM
 have e:(σ.low n lv).L.st=lowS σ.L.st lv (σ.L.st.vars n):=by rw[Sto.low,zeh,zPY]
 rw[e];exact h
theorem zfD{ps stk z:List (Nat×Nat)}(hle:stk.length<=ps.length)(h:ps.take stk.length=stk.reverse):(psh ps stk.length z).take (z++stk).length=(z++stk).reverse:=by
 unfold psh
 by_cases c:z=[]
 ·subst c;simp[h]
 ·rw[if_neg c,List.take_of_length_le (by simp;omega),h,List.reverse_append]
theorem zd8{σ:Sto}(hg:GoodS σ)(hL:σ.L.length<=800000)(hcb:0<=σ.cnt/\σ.cnt<=800000)(hlim:σ.cnt<=lim){x y:Nat}(hx:x<σ.L.length)(hy:y<σ.L.length)(ex:σ.L.st.root x=x)(ey:σ.L.st.root y=y)(h6:σ.L.st.kind x=6)(hxy:x≠y)(hy4:y≠4):(σ.become lim x y).2.2.cnt<=lim:=
 (zfh (F:=[.dead,.dead,.dead,.dead]) (p:=0) (q:=1) (w:=2) (a:=3) ⟨by decide,by decide,by decide,by decide,⟨by decide,by decide,by decide⟩,by decide,by decide,by decide⟩ hg hL hcb hlim hx hy ex ey h6 hxy hy4 true 0 0 [] (by simp) (by decide)).2
theorem zgW{res:Int×Int×Int×Sto}:∀(m:Nat) {stk:List (Nat×Nat)} {σ:Sto},GoodS σ->σ.cnt<=lim->Lt2 σ.L.length stk->RunB lim m stk σ res->res.2.2.2.cnt<=lim:=by
 intro m
 induction m with
 |zero=>intro stk σ hg hc hlt h;cases stk with
  |nil=>have e:res=(0,0,0,σ):=h;subst e;exact hc
  |cons p stk=>exact h.elim
 |succ m ih=>intro stk σ hg hc hlt h;cases stk with
  |nil=>have e:res=(0,0,0,σ):=h;subst e;exact hc
  |cons pp stk=>
   obtain⟨p1,p2⟩:=pp
   obtain⟨⟨o1,o2,o3,o4,o5⟩,hrun⟩:=h
   obtain⟨hp1,hp2⟩:=hlt _ YAU
   have hlt':Lt2 σ.L.length stk:=fun q hq=>hlt q (YAT _ hq)
   have hkeep:=zXm (lim:=lim) hg (p:=(p1,p2)) ⟨hp1,hp2⟩ hlt'
   simp only at hp1 hp2
   have hxl:σ.L.st.root p1<σ.L.length:=by have:=hg.si.wf.root_lt p1 (by rw[Mem.zXR];exact hp1);rwa[Mem.zXR]at this
   have hyl:σ.L.st.root p2<σ.L.length:=by have:=hg.si.wf.root_lt p2 (by rw[Mem.zXR];exact hp2);rwa[Mem.zXR]at this
   have ex:=hg.si.wf.zUQ p1
   have ey:=hg.si.wf.zUQ p2
   by_cases hxy:σ.L.st.root p1=σ.L.st.root p2
   ·rw[zXk,if_pos hxy]at hrun hkeep
    exact ih hkeep.1.good hc hkeep.2 hrun
   by_cases hx4:σ.L.st.root p1=4
   ·rw[zXk,if_neg hxy,if_pos hx4]at hrun hkeep
    exact ih hkeep.1.good hc hkeep.2 hrun
   by_cases hy4:σ.L.st.root p2=4
   ·rw[zXk,if_neg hxy,if_neg hx4,if_pos hy4]at hrun hkeep
    exact ih hkeep.1.good hc hkeep.2 hrun
   by_cases h61:σ.L.st.kind (σ.L.st.root p1)=6
   ·have qc:=zd8 (lim:=lim) hg (by omega) ⟨o3,by omega⟩ hc hxl hyl ex ey h61 hxy hy4
    rw[zXk,if_neg hxy,if_neg hx4,if_neg hy4,if_pos h61]at hrun hkeep
    simp only at hrun hkeep
    generalize σ.become lim (σ.L.st.root p1) (σ.L.st.root p2)=B at*
    obtain⟨mo,e,σ'⟩:=B
    simp only at hrun hkeep qc
    by_cases he:e=0
    ·subst he
     rw[if_neg (by simp)]at hrun hkeep
     cases mo with
     |none=>exact ih hkeep.1.good qc hkeep.2 hrun
     |some n=>exact ih hkeep.1.good qc hkeep.2 hrun
    ·rw[if_pos he]at hrun
     simp only at hrun
     subst hrun
     exact qc
   by_cases h62:σ.L.st.kind (σ.L.st.root p2)=6
   ·have qc:=zd8 (lim:=lim) hg (by omega) ⟨o3,by omega⟩ hc hyl hxl ey ex h62 (fun e=>hxy e.symm) hx4
    rw[zXk,if_neg hxy,if_neg hx4,if_neg hy4,if_neg h61,if_pos h62]at hrun hkeep
    simp only at hrun hkeep
    generalize σ.become lim (σ.L.st.root p2) (σ.L.st.root p1)=B at*
    obtain⟨mo,e,σ'⟩:=B
    simp only at hrun hkeep qc
    by_cases he:e=0
    ·subst he
     rw[if_neg (by simp)]at hrun hkeep
     cases mo with
     |none=>exact ih hkeep.1.good qc hkeep.2 hrun
     |some n=>exact ih hkeep.1.good qc hkeep.2 hrun
    ·rw[if_pos he]at hrun
     simp only at hrun
     subst hrun
     exact qc
   rw[zXk,if_neg hxy,if_neg hx4,if_neg hy4,if_neg h61,if_neg h62]at hrun hkeep
   by_cases hkk:σ.L.st.kind (σ.L.st.root p1)=σ.L.st.kind (σ.L.st.root p2)
   ·rw[if_neg (by simp[hkk])]at hrun hkeep
    simp only at hrun hkeep
    exact ih hkeep.1.good hc hkeep.2 hrun
   ·rw[if_pos hkk]at hrun
    simp only at hrun
    subst hrun
    exact hc
theorem wagree_ok(hs:p<F.length)(hr:q<F.length)(hne:q≠p){σ:Sto}(hgood:GoodS σ)(hlim:σ.cnt<=lim){x y:Nat}(hx:x<σ.L.length)(hy:y<σ.L.length){m:Nat}{res:Int×Int×Int×Sto}(hres:RunB lim m [(x,y)] σ res):
 zAd Tryz.prog 87 [.bptr p 0,.int .i64 x,.int .i64 y] (σ.zeM F p q lim) (.tup [.int .i64 res.1,.int .i64 res.2.1,.int .i64 res.2.2.1]) (res.2.2.2.zeM F p q lim)/\res.2.2.2.cnt<=lim:=by
 have q1:=zfl (F:=F) (v:=σ.v) (S:=σ.L.st) (lim:=lim) (cnt:=σ.cnt) hs hr hne (n:=x) (by rw[Mem.zXR];exact hx)
 have q2:=zfl (F:=F) (v:=σ.v) (S:=σ.L.st) (lim:=lim) (cnt:=σ.cnt) hs hr hne (n:=y) (by rw[Mem.zXR];exact hy)
 refine⟨?_,zgW m hgood hlim (fun q hq=>by simp only[List.mem_singleton]at hq;subst hq;exact⟨hx,hy⟩) hres⟩
 unfold Sto.zeM
 unfold zAd
 refine eD zdW Tryz.func87 Tryz.results87 fun ok=> ?_
 have h:=YAN
 repeat' (first
  |((first|apply bG|apply bH);simp only[yP,yQ];first|refine zIB (q1) (.inl rfl) ?_|refine zIB (q2) (.inl rfl) ?_)
  |skip)<;>simp only[↓zaL,WY,yA,yB,yD,reduceCtorEq,yE,yF,W1,WS,zdX,zdV,hpR,bxR,arR,stP hs hr hne]
 refine zCN [0,9] ?_
 simp only[List.map_cons,List.map_nil,↓zaL,WY,yA,reduceCtorEq,WS]
 refine zJ1 0 (fun x:AkS=> []) (fun x=>wK (F++(.dead:: .dead::x.K)) p q (F.length+1) F.length lim x.σ x.ver x.stk.length x.ps) (AkI lim res) (fun x=>x.m) zdW ⟨0,[(x,y)],[(x,y)],m,σ,[]⟩ rfl ?_ ⟨hgood,fun q hq=>by simp only[List.mem_singleton]at hq;subst hq;exact⟨hx,hy⟩,rfl,hres,hlim⟩ (by decide) ?_
 ·unfold wK;rw[zhC hs hr];rfl
 clear hres hx hy q1 q2 hgood h hlim
 rintro⟨ver,ps,stk,m,σ,K⟩ ⟨hg,hlt,hes,hrun,hcnt⟩
 simp only at hg hlt hes hrun hcnt
 simp only[List.drop_zero,List.nil_append]
 have hD:=wK_D hs hr hne K
 have hloc:=zhC hs hr
 have htk0:∀x1 x2 x3 x4,(qua (F++(.dead:: .dead::K)) p q (F.length+1) F.length x1 x2 x3 x4).take F.length=stF F p q x1 x2:=fun x1 x2 x3 x4=>by rw[hloc];exact zXK hs hr
 have htkJ:∀J x1 x2 x3 x4,(qua (F++(.dead:: .dead::K)++J) p q (F.length+1) F.length x1 x2 x3 x4).take F.length=stF F p q x1 x2:=fun J x1 x2 x3 x4=>by
  rw[List.append_assoc,List.cons_append,List.cons_append,hloc];exact zXK hs hr
 obtain⟨G,hG⟩:∃G,G=F++(.dead:: .dead::K):=⟨_,rfl⟩
 rw[<-hG]at hD htk0 htkJ⊢
 have hGl:F.length+2<=G.length:=by rw[hG];simp
 have hb1:(F.length<=G.length)=True:=by simp;omega
 have hbk:∀k,(F.length<=G.length+k)=True:=fun k=>by simp;omega
 cases stk with
 |nil=>
  have e:res=(0,0,0,σ):=by cases m<;>exact hrun
  subst e
  have c0:(((0:Nat):Int)>0)=False:=by simp
  simp only[List.length_nil]
  repeat' simp only[↓zaL,↓zHC,WY,yA,yB,reduceCtorEq,W1,WS,zdX,zdV,yG,wK,bxR,arR,bxK,arK,quaP hD,zTh,yN,c0,yO,htk0]
 |cons pp stk=>
  obtain⟨p1,p2⟩:=pp
  cases m with
  |zero=>exact hrun.elim
  |succ m=>
  obtain⟨⟨o1,o2,o3,o4,o5⟩,hrun⟩:=hrun
  obtain⟨hp1,hp2⟩:=hlt _ YAU
  have hlt':Lt2 σ.L.length stk:=fun q hq=>hlt q (YAT _ hq)
  simp only at hp1 hp2
  have hkeep:=zXm (lim:=lim) hg (p:=(p1,p2)) ⟨hp1,hp2⟩ hlt'
  have hne':stk.length<ps.length:=by
   have:=congrArg List.length hes
   simp only[List.length_take,List.length_reverse,List.length_cons]at this
   omega
  have hget:(ps.map prI).getD stk.length .any=prI (p1,p2):=by
   have:=congrArg (fun l=>l[stk.length]?) hes
   simp only[List.length_cons]at this
   rw[List.getElem?_take_of_lt (by omega)]at this
   rw[YAF,List.getElem?_map,this]
   simp
  have hes':ps.take stk.length=stk.reverse:=by
   have:=congrArg (List.take stk.length) hes
   rw[List.take_take]at this
   rw[show min stk.length (((p1,p2)::stk).length)=stk.length by simp]at this
   rw[this];simp
  have hle':(stk.length<=ps.length)=True:=by simp only[YAb,iff_true];omega
  have hrg:(stk.length<stk.length+1)=True:=by simp
  have w1:IntKind.wrap .i64 (((stk.length+1:Nat):Int)-1)=(stk.length:Int):=by rw[zbT (by omega) (by omega)];omega
  have c0:(((stk.length+1:Nat):Int)>0)=True:=by simp only[YAb,iff_true];omega
  have c2:((stk.length:Int)<=((stk.length+1:Nat):Int))=True:=by simp only[YAb,iff_true];omega
  simp only[List.length_cons]
  have hxl:σ.L.st.root p1<σ.L.length:=by have:=hg.si.wf.root_lt p1 (by rw[Mem.zXR];exact hp1);rwa[Mem.zXR]at this
  have hyl:σ.L.st.root p2<σ.L.length:=by have:=hg.si.wf.root_lt p2 (by rw[Mem.zXR];exact hp2);rwa[Mem.zXR]at this
  have ex:=hg.si.wf.zUQ p1
  have ey:=hg.si.wf.zUQ p2
  by_cases hxy:σ.L.st.root p1=σ.L.st.root p2
  ·have b0:((σ.L.st.root p1:Int)==(σ.L.st.root p2:Int))=true:=by rw[hxy];exact beq_self_eq_true _
   rw[zXk,if_pos hxy]at hrun hkeep
   repeat' (first
    |((first|apply bG|apply bH);simp only[yP,yQ];first|refine zIk rfl (zgP (lim:=lim) hne hg.si.wf p1 hp1 (by simp[quaP hD,bxR,arR])) (.inl rfl) ?_|refine zIk rfl (zgP (lim:=lim) hne hg.si.wf p2 hp2 (by simp[quaP hD,bxR,arR])) (.inl rfl) ?_)
    |refine drA zdW 5 1 ?_
    |refine drA zdW 6 0 ?_
    |refine drA zdW 7 0 ?_
    |refine zJ9 ?_ zdW Tryz.f87.ntmps rfl (by decide)
    |skip)<;>simp only[↓zaL,↓zHC,WY,yA,yB,reduceCtorEq,W1,WS,W3,yL,zdX,zdV,yG,wK,bxR,arR,bxK,arK,quaP hD,yN,c0,c2,w1,hget,hne',hrg,prI,yO,hb1,b0]
   refine⟨⟨ver,ps,stk,m,σ,K++ [.box [.int .i64 p1,.int .i64 p2]]⟩,⟨hkeep.1.good,hkeep.2,hes',hrun,hcnt⟩,Nat.lt_succ_self m,zap ?_ ?_⟩
   ·simp only[hG,List.append_assoc,List.cons_append]
   ·simp only[WK,↓zaL,↓zHC,yA,yP]
  have b0:((σ.L.st.root p1:Int)==(σ.L.st.root p2:Int))=false:=by rw[YAZ];omega
  by_cases hx4:σ.L.st.root p1=4
  ·have b1:((σ.L.st.root p1:Int)==4)=true:=by rw[beq_iff_eq];omega
   have q3:=fun(F:List AObj) (w a:Nat) (hD:QuaD F p q w a) ver len ps=>dK (lim:=lim) (fun G hs hr=>zfz (F:=G) (lim:=lim) hs hr hne hg (by omega) hyl (lv:=0) (by decide)) hD ver len ps
   rw[zXk,if_neg hxy,if_pos hx4]at hrun hkeep
   repeat' (first
    |((first|apply bG|apply bH);simp only[yP,yQ];first|refine zIk rfl (zgP (lim:=lim) hne hg.si.wf p1 hp1 (by simp[quaP hD,bxR,arR])) (.inl rfl) ?_|refine zIk rfl (zgP (lim:=lim) hne hg.si.wf p2 hp2 (by simp[quaP hD,bxR,arR])) (.inl rfl) ?_|refine zIA (q3 _ _ _ (by first|exact hD|exact hD.app _) _ _ _) (.inl rfl) (fun hb=>kdB (by first|exact hD|exact hD.app _) hb) ?_)
    |refine drA zdW 5 1 ?_
    |refine drA zdW 6 0 ?_
    |refine drA zdW 7 0 ?_
    |refine zJ9 ?_ zdW Tryz.f87.ntmps rfl (by decide)
    |skip)<;>simp only[↓zaL,↓zHC,WY,yA,yB,reduceCtorEq,W1,WS,W3,yL,zdX,zdV,yG,wK,bxR,arR,bxK,arK,quaP hD,yN,c0,c2,w1,hget,hne',hrg,prI,yO,hb1,b0,b1]
   refine⟨⟨ver,ps,stk,m,(σ.low (σ.L.st.root p2) 0),K++ [.box [.int .i64 p1,.int .i64 p2]]⟩,⟨hkeep.1.good,hkeep.2,hes',hrun,hcnt⟩,Nat.lt_succ_self m,zap ?_ ?_⟩
   ·simp only[hG,List.append_assoc,List.cons_append]
   ·simp only[WK,↓zaL,↓zHC,yA,yP]
  have b1:((σ.L.st.root p1:Int)==4)=false:=by rw[YAZ];omega
  by_cases hy4:σ.L.st.root p2=4
  ·have b2:((σ.L.st.root p2:Int)==4)=true:=by rw[beq_iff_eq];omega
   have q3:=fun(F:List AObj) (w a:Nat) (hD:QuaD F p q w a) ver len ps=>dK (lim:=lim) (fun G hs hr=>zfz (F:=G) (lim:=lim) hs hr hne hg (by omega) hxl (lv:=0) (by decide)) hD ver len ps
   rw[zXk,if_neg hxy,if_neg hx4,if_pos hy4]at hrun hkeep
   repeat' (first
    |((first|apply bG|apply bH);simp only[yP,yQ];first|refine zIk rfl (zgP (lim:=lim) hne hg.si.wf p1 hp1 (by simp[quaP hD,bxR,arR])) (.inl rfl) ?_|refine zIk rfl (zgP (lim:=lim) hne hg.si.wf p2 hp2 (by simp[quaP hD,bxR,arR])) (.inl rfl) ?_|refine zIA (q3 _ _ _ (by first|exact hD|exact hD.app _) _ _ _) (.inl rfl) (fun hb=>kdB (by first|exact hD|exact hD.app _) hb) ?_)
    |refine drA zdW 5 1 ?_
    |refine drA zdW 6 0 ?_
    |refine drA zdW 7 0 ?_
    |refine zJ9 ?_ zdW Tryz.f87.ntmps rfl (by decide)
    |skip)<;>simp only[↓zaL,↓zHC,WY,yA,yB,reduceCtorEq,W1,WS,W3,yL,zdX,zdV,yG,wK,bxR,arR,bxK,arK,quaP hD,yN,c0,c2,w1,hget,hne',hrg,prI,yO,hb1,b0,b1,b2]
   refine⟨⟨ver,ps,stk,m,(σ.low (σ.L.st.root p1) 0),K++ [.box [.int .i64 p1,.int .i64 p2]]⟩,⟨hkeep.1.good,hkeep.2,hes',hrun,hcnt⟩,Nat.lt_succ_self m,zap ?_ ?_⟩
   ·simp only[hG,List.append_assoc,List.cons_append]
   ·simp only[WK,↓zaL,↓zHC,yA,yP]
  have b2:((σ.L.st.root p2:Int)==4)=false:=by rw[YAZ];omega
  have k1:=fun(F:List AObj) (w a:Nat) (hD:QuaD F p q w a) ver len ps=>dK (lim:=lim) (fun G hs hr=>zfq (F:=G) (v:=σ.v) (lim:=lim) (cnt:=σ.cnt) hs hr hne hg.si.wf (σ.L.st.root p1) (by rw[Mem.zXR];exact hxl)) hD ver len ps
  have k2:=fun(F:List AObj) (w a:Nat) (hD:QuaD F p q w a) ver len ps=>dK (lim:=lim) (fun G hs hr=>zfq (F:=G) (v:=σ.v) (lim:=lim) (cnt:=σ.cnt) hs hr hne hg.si.wf (σ.L.st.root p2) (by rw[Mem.zXR];exact hyl)) hD ver len ps
  rw[ex]at k1
  rw[ey]at k2
  by_cases h61:σ.L.st.kind (σ.L.st.root p1)=6
  ·have b3:(σ.L.st.kind (σ.L.st.root p1)==6)=true:=by rw[beq_iff_eq];exact h61
   have q3:=fun(F:List AObj) (w a:Nat) (hD:QuaD F p q w a)=>(zfh (lim:=lim) hD hg (by omega) ⟨o3,by omega⟩ hcnt hxl hyl ex ey h61 hxy hy4 true ver stk.length ps (by omega) (by omega)).1
   have qc:=(zfh (lim:=lim) hD hg (by omega) ⟨o3,by omega⟩ hcnt hxl hyl ex ey h61 hxy hy4 true ver stk.length ps (by omega) (by omega)).2
   rw[zXk,if_neg hxy,if_neg hx4,if_neg hy4,if_pos h61]at hrun hkeep
   simp only at hrun hkeep
   generalize σ.become lim (σ.L.st.root p1) (σ.L.st.root p2)=B at*
   obtain⟨mo,e,σ'⟩:=B
   simp only at hrun q3 hkeep qc
   by_cases he:e=0
   ·subst he
    have b4:((0:Int) !=0)=false:=rfl
    rw[if_neg (by simp)]at hrun hkeep
    cases mo with
    |none=>
     simp only[zB,List.length_nil,Nat.add_zero,psh,if_true]at q3
     repeat' (first
      |((first|apply bG|apply bH);simp only[yP,yQ];first|refine zIk rfl (zgP (lim:=lim) hne hg.si.wf p1 hp1 (by simp[quaP hD,bxR,arR])) (.inl rfl) ?_|refine zIk rfl (zgP (lim:=lim) hne hg.si.wf p2 hp2 (by simp[quaP hD,bxR,arR])) (.inl rfl) ?_|refine zIB (k1 _ _ _ (by first|exact hD|exact hD.app _) _ _ _) (.inl rfl) ?_|refine zIA (q3 _ _ _ (by first|exact hD|exact hD.app _)) (.inl rfl) (fun hb=>kdB (by first|exact hD|exact hD.app _) hb) ?_)
      |refine drA zdW 5 1 ?_
      |refine drA zdW 6 0 ?_
      |refine drA zdW 7 0 ?_
      |refine zJ9 ?_ zdW Tryz.f87.ntmps rfl (by decide)
      |skip)<;>simp only[↓zaL,↓zHC,WY,yA,yB,reduceCtorEq,W1,WS,W3,zdX,zdV,yG,wK,bxR,arR,bxK,arK,quaP hD,yN,c0,c2,w1,hget,hne',hrg,prI,yO,hb1,b0,b1,b2,b3,b4]
     refine⟨⟨ver,ps,stk,m,σ',K++ [.box [.int .i64 p1,.int .i64 p2]]⟩,⟨hkeep.1.good,hkeep.2,hes',hrun,qc⟩,Nat.lt_succ_self m,zap ?_ ?_⟩
     ·simp only[hG,List.append_assoc,List.cons_append]
     ·simp only[WK,↓zaL,↓zHC,yA,yP]
    |some n=>
     simp only at hrun hkeep
     simp only[zB,if_true]at q3
     generalize (σ'.L.st.kids n).zip (σ'.L.st.kids (σ.L.st.root p2))=z at*
     repeat' (first
      |((first|apply bG|apply bH);simp only[yP,yQ];first|refine zIk rfl (zgP (lim:=lim) hne hg.si.wf p1 hp1 (by simp[quaP hD,bxR,arR])) (.inl rfl) ?_|refine zIk rfl (zgP (lim:=lim) hne hg.si.wf p2 hp2 (by simp[quaP hD,bxR,arR])) (.inl rfl) ?_|refine zIB (k1 _ _ _ (by first|exact hD|exact hD.app _) _ _ _) (.inl rfl) ?_|refine zIA (q3 _ _ _ (by first|exact hD|exact hD.app _)) (.inl rfl) (fun hb=>kdB (by first|exact hD|exact hD.app _) hb) ?_)
      |refine drA zdW 5 1 ?_
      |refine drA zdW 6 0 ?_
      |refine drA zdW 7 0 ?_
      |refine zJ9 ?_ zdW Tryz.f87.ntmps rfl (by decide)
      |skip)<;>simp only[↓zaL,↓zHC,WY,yA,yB,reduceCtorEq,W1,WS,W3,zdX,zdV,yG,wK,bxR,arR,bxK,arK,quaP hD,yN,c0,c2,w1,hget,hne',hrg,prI,yO,hb1,b0,b1,b2,b3,b4]
     refine⟨⟨(ver+z.length),(psh ps stk.length z),(z++stk),m,σ',K++ [.box [.int .i64 p1,.int .i64 p2]]⟩,⟨hkeep.1.good,hkeep.2,zfD (by omega) hes',hrun,qc⟩,Nat.lt_succ_self m,zap ?_ ?_⟩
     ·simp only[hG,List.append_assoc,List.cons_append,YAJ,Nat.add_comm]
     ·simp only[WK,↓zaL,↓zHC,yA,yP]
   ·have b4:(e !=0)=true:=by rw[bne_iff_ne];exact he
    rw[if_pos he]at hrun
    simp only at hrun
    subst hrun
    repeat' (first
     |((first|apply bG|apply bH);simp only[yP,yQ];first|refine zIk rfl (zgP (lim:=lim) hne hg.si.wf p1 hp1 (by simp[quaP hD,bxR,arR])) (.inl rfl) ?_|refine zIk rfl (zgP (lim:=lim) hne hg.si.wf p2 hp2 (by simp[quaP hD,bxR,arR])) (.inl rfl) ?_|refine zIB (k1 _ _ _ (by first|exact hD|exact hD.app _) _ _ _) (.inl rfl) ?_|refine zIA (q3 _ _ _ (by first|exact hD|exact hD.app _)) (.inl rfl) (fun hb=>kdB (by first|exact hD|exact hD.app _) hb) ?_)
     |refine drA zdW 5 1 ?_
     |refine drA zdW 6 0 ?_
     |refine drA zdW 7 0 ?_
     |refine zJ9 ?_ zdW Tryz.f87.ntmps rfl (by decide)
     |skip)<;>simp only[↓zaL,↓zHC,WY,yA,yB,reduceCtorEq,W1,WS,W3,zdX,zdV,yG,wK,bxR,arR,bxK,arK,quaP hD,zTh,yN,c0,c2,w1,hget,hne',hrg,prI,yO,htkJ,hb1,b0,b1,b2,b3,b4]
  have b3:(σ.L.st.kind (σ.L.st.root p1)==6)=false:=by rw[YAZ];exact h61
  by_cases h62:σ.L.st.kind (σ.L.st.root p2)=6
  ·have b3':(σ.L.st.kind (σ.L.st.root p2)==6)=true:=by rw[beq_iff_eq];exact h62
   have q3:=fun(F:List AObj) (w a:Nat) (hD:QuaD F p q w a)=>(zfh (lim:=lim) hD hg (by omega) ⟨o3,by omega⟩ hcnt hyl hxl ey ex h62 (fun e=>hxy e.symm) hx4 false ver stk.length ps (by omega) (by omega)).1
   have qc:=(zfh (lim:=lim) hD hg (by omega) ⟨o3,by omega⟩ hcnt hyl hxl ey ex h62 (fun e=>hxy e.symm) hx4 false ver stk.length ps (by omega) (by omega)).2
   rw[zXk,if_neg hxy,if_neg hx4,if_neg hy4,if_neg h61,if_pos h62]at hrun hkeep
   simp only at hrun hkeep
   generalize σ.become lim (σ.L.st.root p2) (σ.L.st.root p1)=B at*
   obtain⟨mo,e,σ'⟩:=B
   simp only at hrun q3 hkeep qc
   by_cases he:e=0
   ·subst he
    have b4:((0:Int) !=0)=false:=rfl
    rw[if_neg (by simp)]at hrun hkeep
    cases mo with
    |none=>
     simp only[zB,List.length_nil,Nat.add_zero,psh,if_true]at q3
     repeat' (first
      |((first|apply bG|apply bH);simp only[yP,yQ];first|refine zIk rfl (zgP (lim:=lim) hne hg.si.wf p1 hp1 (by simp[quaP hD,bxR,arR])) (.inl rfl) ?_|refine zIk rfl (zgP (lim:=lim) hne hg.si.wf p2 hp2 (by simp[quaP hD,bxR,arR])) (.inl rfl) ?_|refine zIB (k1 _ _ _ (by first|exact hD|exact hD.app _) _ _ _) (.inl rfl) ?_|refine zIB (k2 _ _ _ (by first|exact hD|exact hD.app _) _ _ _) (.inl rfl) ?_|refine zIA (q3 _ _ _ (by first|exact hD|exact hD.app _)) (.inl rfl) (fun hb=>kdB (by first|exact hD|exact hD.app _) hb) ?_)
      |refine drA zdW 5 1 ?_
      |refine drA zdW 6 0 ?_
      |refine drA zdW 7 0 ?_
      |refine zJ9 ?_ zdW Tryz.f87.ntmps rfl (by decide)
      |skip)<;>simp only[↓zaL,↓zHC,WY,yA,yB,reduceCtorEq,W1,WS,W3,zdX,zdV,yG,wK,bxR,arR,bxK,arK,quaP hD,yN,c0,c2,w1,hget,hne',hrg,prI,yO,hb1,b0,b1,b2,b3,b3',b4]
     refine⟨⟨ver,ps,stk,m,σ',K++ [.box [.int .i64 p1,.int .i64 p2]]⟩,⟨hkeep.1.good,hkeep.2,hes',hrun,qc⟩,Nat.lt_succ_self m,zap ?_ ?_⟩
     ·simp only[hG,List.append_assoc,List.cons_append]
     ·simp only[WK,↓zaL,↓zHC,yA,yP]
    |some n=>
     simp only at hrun hkeep
     simp only[zB,YAB,if_false]at q3
     generalize (σ'.L.st.kids (σ.L.st.root p1)).zip (σ'.L.st.kids n)=z at*
     repeat' (first
      |((first|apply bG|apply bH);simp only[yP,yQ];first|refine zIk rfl (zgP (lim:=lim) hne hg.si.wf p1 hp1 (by simp[quaP hD,bxR,arR])) (.inl rfl) ?_|refine zIk rfl (zgP (lim:=lim) hne hg.si.wf p2 hp2 (by simp[quaP hD,bxR,arR])) (.inl rfl) ?_|refine zIB (k1 _ _ _ (by first|exact hD|exact hD.app _) _ _ _) (.inl rfl) ?_|refine zIB (k2 _ _ _ (by first|exact hD|exact hD.app _) _ _ _) (.inl rfl) ?_|refine zIA (q3 _ _ _ (by first|exact hD|exact hD.app _)) (.inl rfl) (fun hb=>kdB (by first|exact hD|exact hD.app _) hb) ?_)
      |refine drA zdW 5 1 ?_
      |refine drA zdW 6 0 ?_
      |refine drA zdW 7 0 ?_
      |refine zJ9 ?_ zdW Tryz.f87.ntmps rfl (by decide)
      |skip)<;>simp only[↓zaL,↓zHC,WY,yA,yB,reduceCtorEq,W1,WS,W3,zdX,zdV,yG,wK,bxR,arR,bxK,arK,quaP hD,yN,c0,c2,w1,hget,hne',hrg,prI,yO,hb1,b0,b1,b2,b3,b3',b4]
     refine⟨⟨(ver+z.length),(psh ps stk.length z),(z++stk),m,σ',K++ [.box [.int .i64 p1,.int .i64 p2]]⟩,⟨hkeep.1.good,hkeep.2,zfD (by omega) hes',hrun,qc⟩,Nat.lt_succ_self m,zap ?_ ?_⟩
     ·simp only[hG,List.append_assoc,List.cons_append,YAJ,Nat.add_comm]
     ·simp only[WK,↓zaL,↓zHC,yA,yP]
   ·have b4:(e !=0)=true:=by rw[bne_iff_ne];exact he
    rw[if_pos he]at hrun
    simp only at hrun
    subst hrun
    repeat' (first
     |((first|apply bG|apply bH);simp only[yP,yQ];first|refine zIk rfl (zgP (lim:=lim) hne hg.si.wf p1 hp1 (by simp[quaP hD,bxR,arR])) (.inl rfl) ?_|refine zIk rfl (zgP (lim:=lim) hne hg.si.wf p2 hp2 (by simp[quaP hD,bxR,arR])) (.inl rfl) ?_|refine zIB (k1 _ _ _ (by first|exact hD|exact hD.app _) _ _ _) (.inl rfl) ?_|refine zIB (k2 _ _ _ (by first|exact hD|exact hD.app _) _ _ _) (.inl rfl) ?_|refine zIA (q3 _ _ _ (by first|exact hD|exact hD.app _)) (.inl rfl) (fun hb=>kdB (by first|exact hD|exact hD.app _) hb) ?_)
     |refine drA zdW 5 1 ?_
     |refine drA zdW 6 0 ?_
     |refine drA zdW 7 0 ?_
     |refine zJ9 ?_ zdW Tryz.f87.ntmps rfl (by decide)
     |skip)<;>simp only[↓zaL,↓zHC,WY,yA,yB,reduceCtorEq,W1,WS,W3,zdX,zdV,yG,wK,bxR,arR,bxK,arK,quaP hD,zTh,yN,c0,c2,w1,hget,hne',hrg,prI,yO,htkJ,hb1,b0,b1,b2,b3,b3',b4]
  have b3':(σ.L.st.kind (σ.L.st.root p2)==6)=false:=by rw[YAZ];exact h62
  rw[zXk,if_neg hxy,if_neg hx4,if_neg hy4,if_neg h61,if_neg h62]at hrun hkeep
  by_cases hkk:σ.L.st.kind (σ.L.st.root p1)=σ.L.st.kind (σ.L.st.root p2)
  ·have b4:(σ.L.st.kind (σ.L.st.root p1) !=σ.L.st.kind (σ.L.st.root p2))=false:=by rw[bne_eq_false_iff_eq];exact hkk
   rw[if_neg (by simp[hkk])]at hrun hkeep
   simp only at hrun hkeep
   obtain⟨klen,klo,khi⟩:=hg.si.wf.zMh (by rw[Mem.zXR];exact hxl) (by rw[Mem.zXR];exact hyl) hxy hkk h61
   have b5:((0:Int) !=0)=false:=rfl
   have kk1:=fun(F:List AObj) (w a:Nat) (hD:QuaD F p q w a) ver len ps=>dK (lim:=lim) (fun G hs hr=>zfo (F:=G) (v:=σ.v) (lim:=lim) (cnt:=σ.cnt) hs hr hne hg.si.wf (σ.L.st.root p1) (by rw[Mem.zXR];exact hxl)) hD ver len ps
   have kk2:=fun(F:List AObj) (w a:Nat) (hD:QuaD F p q w a) ver len ps=>dK (lim:=lim) (fun G hs hr=>zfo (F:=G) (v:=σ.v) (lim:=lim) (cnt:=σ.cnt) hs hr hne hg.si.wf (σ.L.st.root p2) (by rw[Mem.zXR];exact hyl)) hD ver len ps
   rw[ex]at kk1
   rw[ey]at kk2
   rcases zYu klen klo khi with ⟨a,c,e1,e2⟩|⟨a,b,c,d,e1,e2⟩
   ·rw[e1]at kk1 hrun hkeep
    rw[e2]at kk2 hrun hkeep
    simp only[kidI,List.map_cons,List.map_nil,I64]at kk1 kk2
    simp only[List.zip_cons_cons,List.zip_nil_left,List.cons_append,List.nil_append]at hrun hkeep
    have k9:=fun(F:List AObj) (w a':Nat) (hD:QuaD F p q w a')=>zfm (lim:=lim) hD σ ver stk.length ps a c (by omega) (by omega)
    repeat' (first
     |((first|apply bG|apply bH);simp only[yP,yQ];first|refine zIk rfl (zgP (lim:=lim) hne hg.si.wf p1 hp1 (by simp[quaP hD,bxR,arR])) (.inl rfl) ?_|refine zIk rfl (zgP (lim:=lim) hne hg.si.wf p2 hp2 (by simp[quaP hD,bxR,arR])) (.inl rfl) ?_|refine zIB (k1 _ _ _ (by first|exact hD|exact hD.app _) _ _ _) (.inl rfl) ?_|refine zIB (k2 _ _ _ (by first|exact hD|exact hD.app _) _ _ _) (.inl rfl) ?_|refine zIB (kk1 _ _ _ (by first|exact hD|exact hD.app _) _ _ _) (.inl rfl) ?_|refine zIB (kk2 _ _ _ (by first|exact hD|exact hD.app _) _ _ _) (.inl rfl) ?_|refine zIA (k9 _ _ _ (by first|exact hD|exact hD.app _)) (.inl rfl) (fun hb=>kdB (by first|exact hD|exact hD.app _) hb) ?_)
     |refine drA zdW 5 1 ?_
     |refine drA zdW 6 0 ?_
     |refine drA zdW 7 0 ?_
     |refine zJ9 ?_ zdW Tryz.f87.ntmps rfl (by decide)
     |skip)<;>simp only[↓zaL,↓zHC,WY,yA,yB,reduceCtorEq,W1,WS,W3,zdX,zdV,yG,wK,bxR,arR,bxK,arK,quaP hD,yN,c0,c2,w1,hget,hne',hrg,prI,yO,hb1,b0,b1,b2,b3,b3',b4,b5]
    refine⟨⟨(ver+1),(ps.take stk.length++ [(a,c)]),((a,c)::stk),m,σ,K++ [.box [.int .i64 p1,.int .i64 p2]]⟩,⟨hkeep.1.good,hkeep.2,(by rw[hes',List.take_of_length_le (by simp)];simp),hrun,hcnt⟩,Nat.lt_succ_self m,zap ?_ ?_⟩
    ·simp only[hG,List.append_assoc,List.cons_append,List.length_cons]
    ·simp only[WK,↓zaL,↓zHC,yA,yP]
   ·rw[e1]at kk1 hrun hkeep
    rw[e2]at kk2 hrun hkeep
    simp only[kidI,List.map_cons,List.map_nil,I64]at kk1 kk2
    simp only[List.zip_cons_cons,List.zip_nil_left,List.cons_append,List.nil_append]at hrun hkeep
    have k9:=fun(F:List AObj) (w a':Nat) (hD:QuaD F p q w a')=>zfn (lim:=lim) hD σ ver stk.length ps a b c d (by omega) (by omega)
    repeat' (first
     |((first|apply bG|apply bH);simp only[yP,yQ];first|refine zIk rfl (zgP (lim:=lim) hne hg.si.wf p1 hp1 (by simp[quaP hD,bxR,arR])) (.inl rfl) ?_|refine zIk rfl (zgP (lim:=lim) hne hg.si.wf p2 hp2 (by simp[quaP hD,bxR,arR])) (.inl rfl) ?_|refine zIB (k1 _ _ _ (by first|exact hD|exact hD.app _) _ _ _) (.inl rfl) ?_|refine zIB (k2 _ _ _ (by first|exact hD|exact hD.app _) _ _ _) (.inl rfl) ?_|refine zIB (kk1 _ _ _ (by first|exact hD|exact hD.app _) _ _ _) (.inl rfl) ?_|refine zIB (kk2 _ _ _ (by first|exact hD|exact hD.app _) _ _ _) (.inl rfl) ?_|refine zIA (k9 _ _ _ (by first|exact hD|exact hD.app _)) (.inl rfl) (fun hb=>kdB (by first|exact hD|exact hD.app _) hb) ?_)
     |refine drA zdW 5 1 ?_
     |refine drA zdW 6 0 ?_
     |refine drA zdW 7 0 ?_
     |refine zJ9 ?_ zdW Tryz.f87.ntmps rfl (by decide)
     |skip)<;>simp only[↓zaL,↓zHC,WY,yA,yB,reduceCtorEq,W1,WS,W3,zdX,zdV,yG,wK,bxR,arR,bxK,arK,quaP hD,yN,c0,c2,w1,hget,hne',hrg,prI,yO,hb1,b0,b1,b2,b3,b3',b4,b5]
    refine⟨⟨(ver+1+1),(ps.take stk.length++ [(b,d),(a,c)]),((a,c)::(b,d)::stk),m,σ,K++ [.box [.int .i64 p1,.int .i64 p2]]⟩,⟨hkeep.1.good,hkeep.2,(by rw[hes',List.take_of_length_le (by simp)];simp),hrun,hcnt⟩,Nat.lt_succ_self m,zap ?_ ?_⟩
    ·simp only[hG,List.append_assoc,List.cons_append,List.length_cons,Nat.add_comm]
    ·simp only[WK,↓zaL,↓zHC,yA,yP]
  ·have b4:(σ.L.st.kind (σ.L.st.root p1) !=σ.L.st.kind (σ.L.st.root p2))=true:=by rw[bne_iff_ne];exact hkk
   rw[if_pos hkk]at hrun
   simp only at hrun
   subst hrun
   repeat' (first
    |((first|apply bG|apply bH);simp only[yP,yQ];first|refine zIk rfl (zgP (lim:=lim) hne hg.si.wf p1 hp1 (by simp[quaP hD,bxR,arR])) (.inl rfl) ?_|refine zIk rfl (zgP (lim:=lim) hne hg.si.wf p2 hp2 (by simp[quaP hD,bxR,arR])) (.inl rfl) ?_|refine zIB (k1 _ _ _ (by first|exact hD|exact hD.app _) _ _ _) (.inl rfl) ?_|refine zIB (k2 _ _ _ (by first|exact hD|exact hD.app _) _ _ _) (.inl rfl) ?_)
    |refine drA zdW 5 1 ?_
    |refine drA zdW 6 0 ?_
    |refine drA zdW 7 0 ?_
    |refine zJ9 ?_ zdW Tryz.f87.ntmps rfl (by decide)
    |skip)<;>simp only[↓zaL,↓zHC,WY,yA,yB,reduceCtorEq,W1,WS,W3,zdX,zdV,yG,wK,bxR,arR,bxK,arK,quaP hD,zTh,yN,c0,c2,w1,hget,hne',hrg,prI,yO,htkJ,hb1,b0,b1,b2,b3,b3',b4]
end
end
section
structure EndL (res:Int×Int×Int×Sto):Prop where
 e:res.2.2.1=7
 l:res.1=0
 r:res.2.1=0
 good:GoodS res.2.2.2
 len:res.2.2.2.L.length<=700003
 rd:res.2.2.2.rd<=80000000004
theorem zgX{lim R C:Int}{D K:Nat}(hD:D<=700000)(hR:R<=80000000000)(hC:C<=800000)(hK:K<=1000000000000):∀(M Z:Nat) (σ:Sto) (stk:List (Nat×Nat)),GoodS σ->StV σ.L.st->Lt2 σ.L.length stk->
 5*wL σ.L.st stk+σ.L.st.free<=M->zL σ.L.st stk<=Z->σ.L.length+3*wL σ.L.st stk<=D->0<=σ.cnt->σ.cnt+3*wL σ.L.st stk<=C->σ.rd+4*M<=R->qL σ.L.st stk+(D+2)*M<=K->
 ∃m res,RunB lim m stk σ res/\(EndS σ M (wL σ.L.st stk) res\/EndL res):=by
 intro M
 induction M using Nat.strongRecOn with
 |_ M ihM=>
 intro Z
 induction Z using Nat.strongRecOn with
 |_ Z ihZ=>
 intro σ stk hg hs hlt hM hZ hlen hc0 hc hr hq
 have hw:=hg.si.wf
 cases stk with
 |nil=>exact⟨0,(0,0,0,σ),rfl,.inl<|EndS.here hg hw rfl hs rfl (by omega) (by omega) (.inl rfl)⟩
 |cons p stk=>
  have hp:=hlt p YAU
  have hp':p.1<σ.L.st.length/\p.2<σ.L.st.length:=by rw[Mem.zXR];exact hp
  have hlt':Lt2 σ.L.length stk:=fun q hq=>hlt q (YAT _ hq)
  have hlt'':Lt2 σ.L.st.length stk:=by rw[Mem.zXR];exact hlt'
  have hql:=zTE σ.L.st (p::stk)
  have hok:okB σ (stk.length+1):=by
   have h0:=YAX ((D+2)*M)
   rw[List.length_cons]at hql
   exact⟨by omega,by omega,hc0,by omega,by omega⟩
  have hkeep:=zXm (lim:=lim) hg hp hlt'
  have hcase:=zXl (lim:=lim) hg hp stk
  have np:∀σ' stk',zXk lim p stk σ= .go stk' σ'->NonP σ σ' p stk stk'->∃m res,RunB lim m (p::stk) σ res/\(EndS σ M (wL σ.L.st (p::stk)) res\/EndL res):=by
   intro σ' stk' hst hn
   rw[hst]at hkeep
   obtain⟨hgr,hlt2⟩:=hkeep
   have hg':=hgr.good
   have hm:=hn.m
   have hM1:1<=M:=by omega
   have hmul:(D+2)*(M-1)+(D+2)=(D+2)*M:=by
    conv=>rhs;rw[show M=(M-1)+1 by omega]
    rw[Nat.mul_succ]
   have hq':qL σ'.L.st stk'<=stk'.length+D:=by
    refine zTD fun q hq=>Nat.le_trans (hg'.si.wf.zFb (by rw[Mem.zXR];exact hlt2) q hq) ?_
    rw[Mem.zXR]
    have:=hn.l;omega
   have hl2:=hn.len
   rw[List.length_cons]at hql
   have hrd:=hgr.rd2
   have hnl:=hn.l
   have hnc:=hn.c
   have hnc1:=hn.c1
   obtain⟨m,res,h1,h2⟩:=ihM (M-1) (by omega) (zL σ'.L.st stk') σ' stk' hg' hn.stv hlt2 (by omega) (YAV _) (by omega) (by omega) (by omega) (by omega) (by omega)
   refine⟨m+1,res,⟨hok,?_⟩,h2.imp (fun h2=>h2.trans (by omega) hn.ext hn.l hn.c1 hn.c (by omega) hn.lvok hn.low) id⟩
   rw[hst];exact h1
  have pl:∀stk',zXk lim p stk σ= .go stk' σ->zL σ.L.st stk'<zL σ.L.st (p::stk)->wL σ.L.st stk'<=wL σ.L.st (p::stk)->qL σ.L.st stk'<=qL σ.L.st (p::stk)->∃m res,RunB lim m (p::stk) σ res/\(EndS σ M (wL σ.L.st (p::stk)) res\/EndL res):=by
   intro stk' hst hz hw' hq'
   rw[hst]at hkeep
   obtain⟨m,res,h1,h2⟩:=ihZ (zL σ.L.st stk') (by omega) σ stk' hg hs hkeep.2 (by omega) (YAV _) (by omega) hc0 (by omega) hr (by omega)
   refine⟨m+1,res,⟨hok,?_⟩,h2.imp (fun h2=>h2.mono hw') id⟩
   rw[hst];exact h1
  generalize hst:zXk lim p stk σ=st at*
  cases hcase with
  |eq e=>
   refine pl stk rfl ?_ ?_ ?_
   ·have:=zbu σ.L.st p;simp only[zL];omega
   ·simp only[wL];omega
   ·simp only[qL];omega
  |dyn z σ' hz hg' hlow hcn=>
   have hsv:=hs.lv hlow.lv
   have hx:=Ext.lv hg'.si.wf hlow.lv
   have hwl:=zam hw hx hsv hlt''
   have hlen':σ'.L.length=σ.L.length:=by have:=hlow.lv.len;rwa[Mem.zXR,Mem.zXR]at this
   have hzl:z<σ.L.st.length:=by
    rcases hz with ⟨_,rfl⟩|⟨_,rfl⟩
    ·exact hw.root_lt _ hp'.2
    ·exact hw.root_lt _ hp'.1
   have hp4:1<=wP σ.L.st p:=by
    have d4:σ.L.st.tT 4= .dyn:=by
     have h5:=hw.five
     have e:=hw.leaf 4 (by omega)
     have er:σ.L.st.root 4=4:=zUO (by rw[St.link,e])
     rw[hw.zX8 (by omega),er,St.zQS,St.kids,St.kind,e];rfl
    unfold wP
    rcases hz with ⟨e,_⟩|⟨e,_⟩
    ·have:=zYF hw hp'.1
     rw[<-this,e,d4];simp[T.wD]
    ·have:=zYF hw hp'.2
     rw[<-this,e,d4];simp[T.wD]
   have hfr:=hlow.lv.free
   refine np σ' stk rfl ⟨hsv,hx,by omega,?_,?_,?_,by omega,?_,fun h=>hlow.ok hw hzl h,fun i _=>hlow.le i⟩
   ·rw[wL];omega
   ·rw[wL];omega
   ·rw[wL];omega
   ·rw[wL];push_cast;omega
  |link u w σ' huw c hst' hl hcn=>
   have hsv:=hl.stv hw c hs hst'
   have hx:=hl.ext hw c
   have hwl:=zam hw hx hsv hlt''
   have hlen':σ'.L.length=σ.L.length:=by have:=hl.len;rwa[Mem.zXR,Mem.zXR]at this
   have hfr:=hl.free c
   refine np σ' stk rfl ⟨hsv,hx,by omega,?_,?_,?_,by omega,?_,fun h=>hl.lvok hw c h,fun i _=>hl.zNy c i⟩
   ·rw[wL];omega
   ·rw[wL];omega
   ·rw[wL];omega
   ·rw[wL];push_cast;omega
  |copyl S1 m fr σ' h6 k6 hns hh cp hl hcn=>
   exact np σ' _ rfl (zFU hw hs (hw.root_lt _ hp'.2) (hw.zUQ _) hns cp hl hcn hlt'' (by unfold wP;rw[zYF hw hp'.2];omega) (.inl rfl))
  |copyr S1 m fr σ' h6 k6 hns hh cp hl hcn=>
   exact np σ' _ rfl (zFU hw hs (hw.root_lt _ hp'.1) (hw.zUQ _) hns cp hl hcn hlt'' (by unfold wP;rw[zYF hw hp'.1];omega) (.inr rfl))
  |kids hne hk h6 h41 h42=>
   have hx1:=hw.root_lt _ hp'.1
   have hx2:=hw.root_lt _ hp'.2
   obtain⟨klen,klo,khi⟩:=hw.zMh hx1 hx2 hne hk h6
   have t1:=zYF hw hp'.1
   have t2:=zYF hw hp'.2
   rcases zYu klen klo khi with ⟨a,c,e1,e2⟩|⟨a,b,c,d,e1,e2⟩
   ·have n1:=hw.zQQ hx1 (hw.zUQ _) e1
    have n2:=hw.zQQ hx2 (hw.zUQ _) e2
    rw[t1]at n1
    rw[t2]at n2
    have z1:zP σ.L.st (a,c)<zP σ.L.st p:=by unfold zP;rw[n1,n2];simp only[T.size];omega
    have w1:wP σ.L.st (a,c)<=wP σ.L.st p:=by unfold wP;rw[n1,n2];simp only[T.wD];split<;>split<;>omega
    have d1:dP σ.L.st (a,c)<=dP σ.L.st p:=by unfold dP;rw[n1,n2];simp only[T.deep];omega
    refine pl _ rfl ?_ ?_ ?_<;>rw[e1,e2]
    ·simp only[List.zip_cons_cons,List.zip_nil_right,List.cons_append,List.nil_append,zL];omega
    ·simp only[List.zip_cons_cons,List.zip_nil_right,List.cons_append,List.nil_append,wL];omega
    ·simp only[List.zip_cons_cons,List.zip_nil_right,List.cons_append,List.nil_append,qL];omega
   ·have n1:=hw.zQR hx1 (hw.zUQ _) e1
    have n2:=hw.zQR hx2 (hw.zUQ _) e2
    rw[t1]at n1
    rw[t2]at n2
    have z1:zP σ.L.st (a,c)+zP σ.L.st (b,d)<zP σ.L.st p:=by unfold zP;rw[n1,n2];simp only[zPR];omega
    have w1:wP σ.L.st (a,c)+wP σ.L.st (b,d)<=wP σ.L.st p:=by unfold wP;rw[n1,n2];simp only[zPT];split<;>split<;>omega
    have d1:max (dP σ.L.st (a,c)) (dP σ.L.st (b,d))+1<=dP σ.L.st p:=by unfold dP;rw[n1,n2];simp only[zPP];omega
    refine pl _ rfl ?_ ?_ ?_<;>rw[e1,e2]
    ·simp only[List.zip_cons_cons,List.zip_nil_right,List.cons_append,List.nil_append,zL];omega
    ·simp only[List.zip_cons_cons,List.zip_nil_right,List.cons_append,List.nil_append,wL];omega
    ·simp only[List.zip_cons_cons,List.zip_nil_right,List.cons_append,List.nil_append,qL,List.length_cons];omega
  |clash hk h61 h62 h41 h42=>
   refine⟨1,_,⟨hok,by rw[hst]⟩,.inl<|EndS.here hg hw rfl hs rfl (by omega) (by omega) (.inr (.inl ⟨rfl,hw.zMk (hw.root_lt _ hp'.1),hw.zMk (hw.root_lt _ hp'.2),hk⟩))⟩
  |loop u w σ' huw hne h6 hh hg' hst' hcn=>
   have hf:σ.L.st.free<=M:=by omega
   have hu:u<σ.L.st.length:=by
    rcases huw with ⟨rfl,_⟩|⟨rfl,_⟩
    ·exact hw.root_lt _ hp'.1
    ·exact hw.root_lt _ hp'.2
   have er:σ.L.st.root u=u:=by
    rcases huw with ⟨rfl,_⟩|⟨rfl,_⟩<;>exact hw.zUQ _
   have hpos:1<=σ.L.st.free:=by
    refine List.countP_pos_iff.2 ⟨u,List.mem_range.2 hu,?_⟩
    have:=hw.zUK u
    rw[er]at this
    simp[St.zME,h6,this]
   have hgr:GrowS σ σ' 3 4 3:=hkeep
   refine⟨1,_,⟨hok,by rw[hst]⟩,.inl<|EndS.here hg' hw hst' hs hcn (by have:=hgr.rd2;omega) hf (.inr (.inr rfl))⟩
  |limit σ' hns hl=>
   have hgr:GrowS σ σ' 3 4 3:=hkeep
   have h1:=hgr.len2
   have h2:=hgr.rd2
   have h3:=hok.1
   have h4:=hok.2.1
   exact⟨1,_,⟨hok,by rw[hst]⟩,.inr ⟨rfl,rfl,rfl,hgr.good,by simp only;omega,by simp only;omega⟩⟩
end
section
section
variable {F : List AObj} {s r m : Nat}
theorem zeN{J:List AObj}{X Y:AObj}{v v' b:Nat}{S S':St}{lim cnt lim' cnt':Int}(hm:m<F.length)(hsm:s≠m)(hrm:r≠m)(hs:s<F.length)(hr:r<F.length)(hne:r≠s)(hY:Y.bel b=true)
 (h:∀x∈(hpR (F.set m X++J) s r v S lim cnt).take b,x.bel b=true):∀x∈(hpR (F.set m Y++J) s r v' S' lim' cnt').take b,x.bel b=true:=by
 have h1:=zeT (v':=v') (S':=S') (lim':=lim') (cnt':=cnt') (F:=F.set m X++J) (by simp;omega) (by simp;omega) hne h
 have h2:=zd9 (m:=m) hY h1
 unfold hpR at h2⊢
 rwa[zeS hm hsm hrm]at h2
theorem zeO{X Y:AObj}{v v' b:Nat}{S S':St}{lim cnt lim' cnt':Int}(hm:m<F.length)(hsm:s≠m)(hrm:r≠m)(hs:s<F.length)(hr:r<F.length)(hne:r≠s)(hY:Y.bel b=true)
 (h:∀x∈(hpR (F.set m X) s r v S lim cnt).take b,x.bel b=true):∀x∈(hpR (F.set m Y) s r v' S' lim' cnt').take b,x.bel b=true:=by
 have h1:=zeN (J:=[]) (X:=X) (Y:=Y) (v:=v) (v':=v') (S:=S) (S':=S') (lim:=lim) (cnt:=cnt) (lim':=lim') (cnt':=cnt') (b:=b) hm hsm hrm hs hr hne hY
 simp only[List.append_nil]at h1
 exact h1 h
structure MkS where
 v:Nat
 L:Mem
 cnt:Int
 Z:List (Int×Int)
def MkS.out(x:MkS)(d:Nd):MkS:=⟨x.v+1,x.L++ [(d,0)],x.cnt+1,x.Z⟩
def zdq(s r m:Nat)(lim rd lvl:Int)(t:Ty)(x y:MkS)(n e:Int):Prop:=
 ∀F:List AObj,s<F.length->r<F.length->m<F.length->zAd Tryz.prog 10 [.bptr s 0,emb t,.int .i64 lvl,.mp m] (hpS (F.set m (.map (embM x.Z))) s r x.v x.L lim x.cnt rd) (.tup [.int .i64 n,.int .i64 e]) (hpS (F.set m (.map (embM y.Z))) s r y.v y.L lim y.cnt rd)
theorem zdq.at{lim rd lvl:Int}{t:Ty}{x y:MkS}{n e:Int}(h:zdq s r m lim rd lvl t x y n e)(hs:s<F.length)(hr:r<F.length)(hm:m<F.length)(J:List AObj):
 zAd Tryz.prog 10 [.bptr s 0,emb t,.int .i64 lvl,.mp m] (hpS (F.set m (.map (embM x.Z))++J) s r x.v x.L lim x.cnt rd) (.tup [.int .i64 n,.int .i64 e]) (hpS (F.set m (.map (embM y.Z))++J) s r y.v y.L lim y.cnt rd):=by
 have:=h (F++J) (zN3 hs) (zN3 hr) (zN3 hm)
 rwa[zCW hm,zCW hm]at this
end
section
variable {s r m : Nat} {lim rd lvl : Int}
theorem zfC(hne:r≠s)(hsm:s≠m)(hrm:r≠m){k:Int}(x:MkS)(hg:mget x.Z k=none)(hlv:¬lvl<0)(hc:x.cnt=lim):zdq s r m lim rd lvl (.mk 6 k []) x x 0 7:=by
 intro F hs hr hm
 have hp:=fun X:AObj=>stPN (G:=F.set m X) (s:=s) (r:=r) List.length_set hs hr hne
 have hmG:=fun J X bx ar=>zeR (F:=F) (J:=J) (X:=X) (bx:=bx) (ar:=ar) hm hsm hrm
 have hmS:=fun J X Y bx ar=>zeS (F:=F) (J:=J) (X:=X) (Y:=Y) (bx:=bx) (ar:=ar) hm hsm hrm
 have q:=fun(F:List AObj) (hs:s<F.length) (hr:r<F.length)=>var_full (F:=F) (v:=x.v) (L:=x.L) (lim:=lim) (cnt:=x.cnt) (rd:=rd) hs hr hne lvl hlv (by rw[beq_iff_eq];exact hc)
 have e70:((7:Int)==0)=false:=rfl
 unfold zAd
 refine eD C_ok Tryz.func10 Tryz.results10 fun ok=> ?_
 repeat' (first
  |((first|apply bG|apply bH);simp only[yP,yQ];refine zIA (q _ (by first|exact hs|simp<;>omega) (by first|exact hr|simp<;>omega)) (.inl rfl) (fun hb=>zLV (by first|exact hs|simp<;>omega) (by first|exact hr|simp<;>omega) hne hb) ?_)
  |skip)<;>simp only[↓zaL,WY,yA,yB,yC,reduceCtorEq,W1,WS,hpS,bxS,arS,hp,hmG,zTh,yN,yO,e70,zHe,zHx,zPN,zMT,hg,Option.getD_none,Option.isSome_none]
theorem ze9(hne:r≠s)(hsm:s≠m)(hrm:r≠m){k:Int}{a b:Ty}{x y z:MkS}{i j:Nat}(hk:k=7\/k=9)(h1:zdq s r m lim rd lvl a x y i 0)(h2:zdq s r m lim rd lvl b y z j 0)(hi:i<z.L.length)(hj:j<z.L.length)(hc:z.cnt=lim):zdq s r m lim rd lvl (.mk k 0 [a,b]) x z 0 7:=by
 intro F hs hr hm
 have hp:=fun X:AObj=>stPN (G:=F.set m X) (s:=s) (r:=r) List.length_set hs hr hne
 have hmG:=fun J X bx ar=>zeR (F:=F) (J:=J) (X:=X) (bx:=bx) (ar:=ar) hm hsm hrm
 have hmS:=fun J X Y bx ar=>zeS (F:=F) (J:=J) (X:=X) (Y:=Y) (bx:=bx) (ar:=ar) hm hsm hrm
 have q:=fun(F:List AObj) (hs:s<F.length) (hr:r<F.length)=>make_full (F:=F) (v:=z.v) (L:=z.L) (lim:=lim) (cnt:=z.cnt) (rd:=rd) hs hr hne k i j hk hi hj (by rw[beq_iff_eq];exact hc)
 have c6:(k==6)=false:=by rw[YAZ];omega
 have e7:((7:Int) !=0)=true:=rfl
 unfold zAd
 rcases hk with rfl|rfl
 ·refine eD C_ok Tryz.func10 Tryz.results10 fun ok=> ?_
  repeat' (first
   |((first|apply bG|apply bH);simp only[yP,yQ,W2];first|refine zIA (h1.at hs hr hm _) (.inl rfl) (fun hb=>by first|exact zeP hm hsm hrm hs hr hne (zGW _ _) hb|exact zeQ hm hsm hrm hs hr hne (zGW _ _) hb) ?_|refine zIA (h2.at hs hr hm _) (.inl rfl) (fun hb=>by first|exact zeP hm hsm hrm hs hr hne (zGW _ _) hb|exact zeQ hm hsm hrm hs hr hne (zGW _ _) hb) ?_|refine zIA (q _ (by first|exact hs|simp<;>omega) (by first|exact hr|simp<;>omega)) (.inl rfl) (fun hb=>zLV (by first|exact hs|simp<;>omega) (by first|exact hr|simp<;>omega) hne hb) ?_)
   |refine zJ9 ?_ C_ok Tryz.f10.ntmps rfl (by decide)
   |skip)<;>simp only[↓zaL,WY,yA,yB,reduceCtorEq,W1,WS,W3,yI,yM,hpS,bxS,arS,hp,zTh,yN,yO,YAO,c6,YAQ]
 ·refine eD C_ok Tryz.func10 Tryz.results10 fun ok=> ?_
  repeat' (first
   |((first|apply bG|apply bH);simp only[yP,yQ,W2];first|refine zIA (h1.at hs hr hm _) (.inl rfl) (fun hb=>by first|exact zeP hm hsm hrm hs hr hne (zGW _ _) hb|exact zeQ hm hsm hrm hs hr hne (zGW _ _) hb) ?_|refine zIA (h2.at hs hr hm _) (.inl rfl) (fun hb=>by first|exact zeP hm hsm hrm hs hr hne (zGW _ _) hb|exact zeQ hm hsm hrm hs hr hne (zGW _ _) hb) ?_|refine zIA (q _ (by first|exact hs|simp<;>omega) (by first|exact hr|simp<;>omega)) (.inl rfl) (fun hb=>zLV (by first|exact hs|simp<;>omega) (by first|exact hr|simp<;>omega) hne hb) ?_)
   |refine zJ9 ?_ C_ok Tryz.f10.ntmps rfl (by decide)
   |skip)<;>simp only[↓zaL,WY,yA,yB,reduceCtorEq,W1,WS,W3,yI,yK,yM,hpS,bxS,arS,hp,zTh,yN,yO,YAO,c6,YAQ]
theorem zfA(hne:r≠s)(hsm:s≠m)(hrm:r≠m){k:Int}{a b:Ty}{x y:MkS}(hk:k=7\/k=9)(h1:zdq s r m lim rd lvl a x y 0 7):zdq s r m lim rd lvl (.mk k 0 [a,b]) x y 0 7:=by
 intro F hs hr hm
 have hp:=fun X:AObj=>stPN (G:=F.set m X) (s:=s) (r:=r) List.length_set hs hr hne
 have hmG:=fun J X bx ar=>zeR (F:=F) (J:=J) (X:=X) (bx:=bx) (ar:=ar) hm hsm hrm
 have hmS:=fun J X Y bx ar=>zeS (F:=F) (J:=J) (X:=X) (Y:=Y) (bx:=bx) (ar:=ar) hm hsm hrm
 have c6:(k==6)=false:=by rw[YAZ];omega
 have e7:((7:Int) !=0)=true:=rfl
 unfold zAd
 rcases hk with rfl|rfl
 ·refine eD C_ok Tryz.func10 Tryz.results10 fun ok=> ?_
  repeat' (first
   |((first|apply bG|apply bH);simp only[yP,yQ,W2];refine zIA (h1.at hs hr hm _) (.inl rfl) (fun hb=>by first|exact zeP hm hsm hrm hs hr hne (zGW _ _) hb|exact zeQ hm hsm hrm hs hr hne (zGW _ _) hb) ?_)
   |refine zJ9 ?_ C_ok Tryz.f10.ntmps rfl (by decide)
   |skip)<;>simp only[↓zaL,WY,yA,yB,reduceCtorEq,W1,WS,W3,yI,hpS,bxS,arS,hp,zTh,yN,yO,c6,e7,YAQ]
 ·refine eD C_ok Tryz.func10 Tryz.results10 fun ok=> ?_
  repeat' (first
   |((first|apply bG|apply bH);simp only[yP,yQ,W2];refine zIA (h1.at hs hr hm _) (.inl rfl) (fun hb=>by first|exact zeP hm hsm hrm hs hr hne (zGW _ _) hb|exact zeQ hm hsm hrm hs hr hne (zGW _ _) hb) ?_)
   |refine zJ9 ?_ C_ok Tryz.f10.ntmps rfl (by decide)
   |skip)<;>simp only[↓zaL,WY,yA,yB,reduceCtorEq,W1,WS,W3,yI,yK,hpS,bxS,arS,hp,zTh,yN,yO,c6,e7,YAQ]
theorem zfB(hne:r≠s)(hsm:s≠m)(hrm:r≠m){k:Int}{a b:Ty}{x y z:MkS}{i:Nat}(hk:k=7\/k=9)(h1:zdq s r m lim rd lvl a x y i 0)(h2:zdq s r m lim rd lvl b y z 0 7):zdq s r m lim rd lvl (.mk k 0 [a,b]) x z 0 7:=by
 intro F hs hr hm
 have hp:=fun X:AObj=>stPN (G:=F.set m X) (s:=s) (r:=r) List.length_set hs hr hne
 have hmG:=fun J X bx ar=>zeR (F:=F) (J:=J) (X:=X) (bx:=bx) (ar:=ar) hm hsm hrm
 have hmS:=fun J X Y bx ar=>zeS (F:=F) (J:=J) (X:=X) (Y:=Y) (bx:=bx) (ar:=ar) hm hsm hrm
 have c6:(k==6)=false:=by rw[YAZ];omega
 have e7:((7:Int) !=0)=true:=rfl
 unfold zAd
 rcases hk with rfl|rfl
 ·refine eD C_ok Tryz.func10 Tryz.results10 fun ok=> ?_
  repeat' (first
   |((first|apply bG|apply bH);simp only[yP,yQ,W2];first|refine zIA (h1.at hs hr hm _) (.inl rfl) (fun hb=>by first|exact zeP hm hsm hrm hs hr hne (zGW _ _) hb|exact zeQ hm hsm hrm hs hr hne (zGW _ _) hb) ?_|refine zIA (h2.at hs hr hm _) (.inl rfl) (fun hb=>by first|exact zeP hm hsm hrm hs hr hne (zGW _ _) hb|exact zeQ hm hsm hrm hs hr hne (zGW _ _) hb) ?_)
   |refine zJ9 ?_ C_ok Tryz.f10.ntmps rfl (by decide)
   |skip)<;>simp only[↓zaL,WY,yA,yB,reduceCtorEq,W1,WS,W3,yI,yM,hpS,bxS,arS,hp,zTh,yN,yO,YAO,c6,e7,YAQ]
 ·refine eD C_ok Tryz.func10 Tryz.results10 fun ok=> ?_
  repeat' (first
   |((first|apply bG|apply bH);simp only[yP,yQ,W2];first|refine zIA (h1.at hs hr hm _) (.inl rfl) (fun hb=>by first|exact zeP hm hsm hrm hs hr hne (zGW _ _) hb|exact zeQ hm hsm hrm hs hr hne (zGW _ _) hb) ?_|refine zIA (h2.at hs hr hm _) (.inl rfl) (fun hb=>by first|exact zeP hm hsm hrm hs hr hne (zGW _ _) hb|exact zeQ hm hsm hrm hs hr hne (zGW _ _) hb) ?_)
   |refine zJ9 ?_ C_ok Tryz.f10.ntmps rfl (by decide)
   |skip)<;>simp only[↓zaL,WY,yA,yB,reduceCtorEq,W1,WS,W3,yI,yK,yM,hpS,bxS,arS,hp,zTh,yN,yO,YAO,c6,e7,YAQ]
theorem ze7(hne:r≠s)(hsm:s≠m)(hrm:r≠m){a:Ty}{x y:MkS}{i:Nat}(h1:zdq s r m lim rd lvl a x y i 0)(hi:i<y.L.length)(hc:y.cnt=lim):zdq s r m lim rd lvl (.mk 8 0 [a]) x y 0 7:=by
 intro F hs hr hm
 have hp:=fun X:AObj=>stPN (G:=F.set m X) (s:=s) (r:=r) List.length_set hs hr hne
 have hmG:=fun J X bx ar=>zeR (F:=F) (J:=J) (X:=X) (bx:=bx) (ar:=ar) hm hsm hrm
 have hmS:=fun J X Y bx ar=>zeS (F:=F) (J:=J) (X:=X) (Y:=Y) (bx:=bx) (ar:=ar) hm hsm hrm
 have e7:((7:Int) !=0)=true:=rfl
 have q:=fun(F:List AObj) (hs:s<F.length) (hr:r<F.length)=>make_fullL (F:=F) (v:=y.v) (L:=y.L) (lim:=lim) (cnt:=y.cnt) (rd:=rd) hs hr hne i i hi (by rw[beq_iff_eq];exact hc)
 unfold zAd
 refine eD C_ok Tryz.func10 Tryz.results10 fun ok=> ?_
 repeat' (first
  |((first|apply bG|apply bH);simp only[yP,yQ,W2];first|refine zIA (h1.at hs hr hm _) (.inl rfl) (fun hb=>by first|exact zeP hm hsm hrm hs hr hne (zGW _ _) hb|exact zeQ hm hsm hrm hs hr hne (zGW _ _) hb) ?_|refine zIA (q _ (by first|exact hs|simp<;>omega) (by first|exact hr|simp<;>omega)) (.inl rfl) (fun hb=>zLV (by first|exact hs|simp<;>omega) (by first|exact hr|simp<;>omega) hne hb) ?_)
  |refine zJ9 ?_ C_ok Tryz.f10.ntmps rfl (by decide)
  |skip)<;>simp only[↓zaL,WY,yA,yB,reduceCtorEq,W1,WS,W3,yI,yK,hpS,bxS,arS,hp,zTh,yN,yO,YAO,YAQ]
theorem ze8(hne:r≠s)(hsm:s≠m)(hrm:r≠m){a:Ty}{x y:MkS}(h1:zdq s r m lim rd lvl a x y 0 7):zdq s r m lim rd lvl (.mk 8 0 [a]) x y 0 7:=by
 intro F hs hr hm
 have hp:=fun X:AObj=>stPN (G:=F.set m X) (s:=s) (r:=r) List.length_set hs hr hne
 have hmG:=fun J X bx ar=>zeR (F:=F) (J:=J) (X:=X) (bx:=bx) (ar:=ar) hm hsm hrm
 have hmS:=fun J X Y bx ar=>zeS (F:=F) (J:=J) (X:=X) (Y:=Y) (bx:=bx) (ar:=ar) hm hsm hrm
 have e7:((7:Int) !=0)=true:=rfl
 unfold zAd
 refine eD C_ok Tryz.func10 Tryz.results10 fun ok=> ?_
 repeat' (first
  |((first|apply bG|apply bH);simp only[yP,yQ,W2];refine zIA (h1.at hs hr hm _) (.inl rfl) (fun hb=>by first|exact zeP hm hsm hrm hs hr hne (zGW _ _) hb|exact zeQ hm hsm hrm hs hr hne (zGW _ _) hb) ?_)
  |refine zJ9 ?_ C_ok Tryz.f10.ntmps rfl (by decide)
  |skip)<;>simp only[↓zaL,WY,yA,yB,reduceCtorEq,W1,WS,W3,yI,yK,hpS,bxS,arS,hp,zTh,yN,yO,e7,YAQ]
end
end
section
def VJ(S:St)(Z:List (Int×Int)):Prop:=∀k n,mget Z k=some n->∃m:Nat,n=m/\m<S.length/\S.kind m=6
theorem VJ.ext{S S':St}{Z:List (Int×Int)}(h:VJ S Z)(hx:Ext S S'):VJ S' Z:=fun k n e=>by
 obtain⟨m,h1,h2,h3⟩:=h k n e
 exact⟨m,h1,YAW h2 hx.len,by rw[hx.kind m h2];exact h3⟩
def MkS.sto(x:MkS)(rd:Int):Sto:=⟨x.L,x.v,x.cnt,rd⟩
structure MkOut (lim rd:Int) (t:T) (x y:MkS) (n:Nat) (e:Int):Prop where
 bad:e=0\/(e=7/\n=0)
 good:GoodS (y.sto rd)
 stv:StV y.L.st
 ext:Ext x.L.st y.L.st
 vj:VJ y.L.st y.Z
 lt:e=0->n<y.L.length
 wd:e=0->(y.L.st.tT n).wD<=t.size
 lenB:y.L.length<=x.L.length+t.size
 cntA:x.cnt<=y.cnt
 cntB:y.cnt<=x.cnt+t.size
 lm:y.cnt<=lim
theorem MkOut.lenA{lim rd:Int}{t:T}{x y:MkS}{n:Nat}{e:Int}(h:MkOut lim rd t x y n e):x.L.length<=y.L.length:=by
 have:=h.ext.len;rwa[Mem.zXR,Mem.zXR]at this
section
variable {s r m s2 r2 m2 : Nat} {lim rd lvl : Int}
theorem MkOut.stay{t:T}{x:MkS}{n:Nat}{e:Int}(hg:GoodS (x.sto rd))(hs:StV x.L.st)(hv:VJ x.L.st x.Z)(hc:x.cnt<=lim)(hok:e=0->n<x.L.length/\(x.L.st.tT n).wD<=t.size)(hb:e=0\/(e=7/\n=0)):MkOut lim rd t x x n e:=
 ⟨hb,hg,hs,.refl hg.si.wf,hv,fun h=>(hok h).1,fun h=>(hok h).2,Nat.le_add_right _ _,YAQ _,by omega,hc⟩
theorem MkOut.node{t:T}{x z:MkS}{k:Int}{ks:List Nat}(hg:GoodS (z.sto rd))(hs:StV z.L.st)(hv:VJ z.L.st z.Z)(hx:Ext x.L.st z.L.st)(hk:(k=7\/k=9)/\ks.length=2\/k=8/\ks.length=1)(hks:∀a∈ks,a<z.L.length)
 (hw:(ks.map fun a=>(z.L.st.tT a).wD).sum+1<=t.size) (hl:z.L.length+1<=x.L.length+t.size) (c1:x.cnt<=z.cnt) (c2:z.cnt+1<=x.cnt+t.size) (c3:z.cnt<lim):
 MkOut lim rd t x (z.out ⟨k,0,none,ks⟩) z.L.length 0:=by
 have g:GoodS ((z.out ⟨k,0,none,ks⟩).sto rd):=hg.mk' hk hks
 have e:(z.out ⟨k,0,none,ks⟩).L.st=z.L.st++ [⟨k,0,none,ks⟩]:=by rw[MkS.out,Mem.zXM]
 have hwf:Wf (z.L.st++ [⟨k,0,none,ks⟩]):=by have:=g.si.wf;rwa[show((z.out ⟨k,0,none,ks⟩).sto rd).L.st=_ from e]at this
 have hk6:k≠6:=by rcases hk with ⟨h|h,_⟩|⟨h,_⟩<;>omega
 have x1:Ext z.L.st (z.L.st++ [⟨k,0,none,ks⟩]):=Ext.add hwf
 have s1:StV (z.L.st++ [⟨k,0,none,ks⟩]):=hs.node hg.si.wf hwf rfl hk6
 have wk:∀a,a<z.L.length->(St.tT (z.L.st++ [⟨k,0,none,ks⟩]) a).wD=(z.L.st.tT a).wD:=fun a ha=>x1.wD hg.si.wf s1 (by rw[Mem.zXR];exact ha)
 have hn:z.L.length<(z.L.st++ [(⟨k,0,none,ks⟩:Nd)]).length:=by rw[YAJ,Mem.zXR];simp
 have hr:St.root (z.L.st++ [⟨k,0,none,ks⟩]) z.L.length=z.L.length:=by rw[<-Mem.zXR];exact zUN rfl
 have hkd:St.kids (z.L.st++ [⟨k,0,none,ks⟩]) z.L.length=ks:=by rw[<-Mem.zXR,St.kids,St.zPw]
 refine⟨.inl rfl,g,by rw[e];exact s1,by rw[e];exact hx.trans x1,by rw[e];exact hv.ext x1,fun _=>by simp[MkS.out],fun _=> ?_,?_,?_,?_,?_⟩
 ·rw[e]
  rcases hk with ⟨_,h2⟩|⟨_,h1⟩
  ·obtain⟨a,b,rfl⟩:∃a b,ks=[a,b]:=by
    match ks,h2 with
    | [a,b],_=>exact⟨a,b,rfl⟩
   simp only[List.map_cons,List.map_nil,List.sum_cons,List.sum_nil]at hw
   show(St.tT (z.L.st++ [⟨k,0,none,[a,b]⟩]) z.L.length).wD<=t.size
   rw[hwf.zQR hn hr hkd,zPT,wk a (hks a (by simp)),wk b (hks b (by simp))]
   split<;>omega
  ·obtain⟨a,rfl⟩:∃a,ks=[a]:=by
    match ks,h1 with
    | [a],_=>exact⟨a,rfl⟩
   simp only[List.map_cons,List.map_nil,List.sum_cons,List.sum_nil]at hw
   rw[hwf.zQQ hn hr hkd]
   simp only[T.wD]
   rw[wk a (hks a (by simp))]
   split<;>omega
 all_goals simp only[MkS.out,YAJ,List.length_cons,List.length_nil]<;>omega
theorem zed{S:St}(hw:Wf S)(hs:StV S){i:Nat}(hi:i<5):(S.tT i).wD<=1:=by
 have h5:=hw.five
 have e:=hw.leaf i hi
 have er:S.root i=i:=zUO (by rw[St.link,e])
 have hk:S.kids i=[]:=by rw[St.kids,e]
 rw[hw.zX8 (by omega),er]
 unfold St.zQS
 rw[hk]
 simp only
 split
 ·simp[T.wD]
 ·split<;>simp[T.wD]
end
end
end Go.Proofs.YtdngjamjccjlmaaGreat
