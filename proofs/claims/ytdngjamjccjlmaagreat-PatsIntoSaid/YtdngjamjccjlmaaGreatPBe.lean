/- Lemmas: two nodes are made to agree, walked. No condition. -/
import Derived.Test.YtdngjamjccjlmaaGreatPBb
import Derived.Test.YtdngjamjccjlmaaGreatPNb
set_option linter.unusedSimpArgs false
set_option linter.unusedVariables false
set_option maxHeartbeats 4000000
set_option maxRecDepth 100000
namespace Go.Proofs.YtdngjamjccjlmaaGreat
open Go Go.Ab
open Nat renaming reduceEqDiff -> yA, reduceAdd -> yB, reduceLeDiff -> yD, reduceMul -> yE, reducePow -> yF, reduceBEq -> yG
open Int renaming reduceLT -> yI, reduceLE -> yM
open AV renaming belL -> yO, bel -> yN, normL -> yQ, norm -> yP
open AObj renaming bel -> yR
attribute [local irreducible] zA0 zAA zAa zAi zAj GoIf GoGb zAk GoO GoD GoX GoDX GoG GoDG GoGv zAl Go zAB
section
def CAg:Cfg:= {C with inpl:=fun d=>d==33||d==146}
theorem zAJ:zAb Tryz.prog CAg:=C_ok
theorem zAK(t:Nat):CAg.ty t=C.ty t:=rfl
theorem zAI(t:Nat):CAg.inpl t=(t==33||t==146):=rfl
def prI(p:Nat×Nat):AV:= .agg [.int .i64 p.1,.int .i64 p.2]
theorem zSh(m:Nat):∀l:List (Nat×Nat),AV.belL m (l.map prI)=true
 | []=>rfl
 |p::l=>by simp only[List.map_cons,yO,zSh m l,prI,yN,Bool.and_self]
theorem zar{F:List AObj}{s r n:Nat}{e:Nat->AV}{l:List (Nat×AV)}{A:AObj}{B:List AObj}{bx ar:AObj}(hs:s<F.length)(hr:r<F.length)(h:∀p∈l,e p.1=p.2\/(e p.1).norm=p.2)(h1:∀p∈l,p.2.bel (F.length+1)=true)(hA:A.bel (F.length+1)=true):
 Weak (FS e (stF (F++A::B) s r bx ar) F.length n) (FS (envL l) (stF (F++ [A]) s r bx ar) F.length n):=by
 have el:(stF (F++ [A]) s r bx ar).length=F.length+1:=by simp
 refine zaq ?_ (by rw[el];omega) h (by rw[el];exact h1) (by
  rw[el,<-zW9 hs hr,List.drop_left' zXB]
  intro x hx;rw[List.mem_singleton]at hx;rw[hx];exact hA)
 have:=zXK (G:=F++ [A]) (J:=B) (bx:=bx) (ar:=ar) (s:=s) (r:=r) (by simp;omega) (by simp;omega)
 rw[List.append_assoc]at this
 rw[zXB];exact this
structure AgS where
 ver:Nat
 ps:List (Nat×Nat)
 stk:List (Nat×Nat)
 m:Nat
 σ:Sto
structure AgI (lim:Int) (res:Int×Int×Int×Sto) (x:AgS):Prop where
 good:GoodS x.σ
 lt:Lt2 x.σ.L.length x.stk
 es:x.ps.take x.stk.length=x.stk.reverse
 run:RunB lim x.m x.stk x.σ res
theorem zSg(l:List (Nat×Nat))(a c:Nat):List.map prI l++ [AV.agg [.int .i64 a,.int .i64 c]]=List.map prI (l++ [(a,c)]):=by simp[prI]
section
variable {F : List AObj} {s r : Nat} {lim : Int}
theorem agree_ok(hs:s<F.length)(hr:r<F.length)(hne:r≠s){σ:Sto}(hgood:GoodS σ){x y:Nat}(hx:x<σ.L.length)(hy:y<σ.L.length){m:Nat}{res:Int×Int×Int×Sto}(hres:RunB lim m [(x,y)] σ res):
 zAd Tryz.prog 84 [.bptr s 0,.int .i64 x,.int .i64 y] (σ.heap F s r lim) (.tup [.int .i64 res.1,.int .i64 res.2.1,.int .i64 res.2.2.1]) (res.2.2.2.heap F s r lim):=by
 have q1:=zUI (F:=F) (v:=σ.v) (lim:=lim) (cnt:=σ.cnt) (rd:=σ.rd) hs hr hne hgood.si.wf x hx
 have q2:=zUI (F:=F) (v:=σ.v) (lim:=lim) (cnt:=σ.cnt) (rd:=σ.rd) hs hr hne hgood.si.wf y hy
 have c1:((σ.L.st.root x:Int)<0)=False:=by simp
 have c2:((σ.L.st.root y:Int)<0)=False:=by simp
 unfold Sto.heap
 unfold zAd
 refine eD zAJ Tryz.func84 Tryz.results84 fun ok=> ?_
 have h:=YAN
 repeat' (first
  |((first|apply bG|apply bH);simp only[yP,yQ];first|refine zIB (q1) (.inl rfl) ?_|refine zIB (q2) (.inl rfl) ?_)
  |skip)<;>simp only[↓zaL,WY,yA,yB,yD,reduceCtorEq,yE,yF,W1,WS,zAK,zAI,yG,Bool.or_false,hpS,bxS,arS,stP hs hr hne,c1,c2]
 refine zCN [6,7,9,0] ?_
 simp only[List.map_cons,List.map_nil,↓zaL,WY,yA,reduceCtorEq,WS]
 refine zJ1 3 (fun x:AgS=> [(6,.int .i64 0),(7,.int .i64 0),(9,.ms F.length x.ver x.stk.length)]) (fun x=>hpS (F++ [.arr x.ver 2 (x.ps.map prI)]) s r x.σ.v x.σ.L lim x.σ.cnt x.σ.rd) (AgI lim res) (fun x=>x.m) zAJ ⟨0,[(x,y)],[(x,y)],m,σ⟩ rfl (by simp only[hpS,bxS,arS,prI,List.map_cons,List.map_nil]) ⟨hgood,fun q hq=>by simp only[List.mem_singleton]at hq;subst hq;exact⟨hx,hy⟩,rfl,hres⟩ (by decide) ?_
 clear hres hx hy q1 q2 c1 c2 hgood h
 rintro⟨ver,ps,stk,m,σ⟩ ⟨hg,hlt,hes,hrun⟩
 simp only at hg hlt hes hrun
 simp only[List.drop_succ_cons,List.drop_zero,List.cons_append,List.nil_append]
 cases stk with
 |nil=>
  have e:res=(0,0,0,σ):=by cases m<;>exact hrun
  subst e
  have c0:((0:Int)<((0:Nat):Int))=False:=by simp
  simp only[List.length_nil]
  repeat' simp only[↓zaL,↓zHC,WY,yA,reduceCtorEq,W1,WS,zAK,zAI,yG,Bool.or_false,hpS,bxS,arS,stP hs hr hne,zTh,yN,c0,yO,Int.lt_irrefl]
 |cons p stk=>
  obtain⟨p1,p2⟩:=p
  cases m with
  |zero=>exact hrun.elim
  |succ m=>
  obtain⟨⟨o1,o2,o3,o4,o5⟩,hrun⟩:=hrun
  obtain⟨hp1,hp2⟩:=hlt _ YAU
  have hlt':Lt2 σ.L.length stk:=fun q hq=>hlt q (YAT _ hq)
  simp only at hp1 hp2
  have hne':stk.length<ps.length:=by
   have:=congrArg List.length hes
   simp only[List.length_take,List.length_reverse,List.length_cons]at this
   omega
  have hget:(ps.map prI).getD stk.length .any=prI (p1,p2):=by
   have:=congrArg (fun l=>l[stk.length]?) hes
   simp only[List.length_cons]at this
   rw[List.getElem?_take_of_lt (by omega)]at this
   rw[YAF,List.getElem?_map,this]
   simp
  have hes':ps.take stk.length=stk.reverse:=by
   have:=congrArg (List.take stk.length) hes
   rw[List.take_take]at this
   rw[show min stk.length (((p1,p2)::stk).length)=stk.length by simp]at this
   rw[this];simp
  have hA:∀v l,(AObj.arr v 2 (List.map prI l)).bel (F.length+1)=true:=fun v l=>by simp only[yR,zSh]
  have w1:IntKind.wrap .i64 (((stk.length+1:Nat):Int)-1)=(stk.length:Int):=by rw[zbT (by omega) (by omega)];omega
  have c0:((0:Int)<((stk.length+1:Nat):Int))=True:=by simp only[YAb,iff_true];omega
  have c2:((stk.length:Int)<=((stk.length+1:Nat):Int))=True:=by simp only[YAb,iff_true];omega
  simp only[List.length_cons]
  have hxl:σ.L.st.root p1<σ.L.length:=by have:=hg.si.wf.root_lt p1 (by rw[Mem.zXR];exact hp1);rwa[Mem.zXR]at this
  have hyl:σ.L.st.root p2<σ.L.length:=by have:=hg.si.wf.root_lt p2 (by rw[Mem.zXR];exact hp2);rwa[Mem.zXR]at this
  have ex:=hg.si.wf.zUQ p1
  have ey:=hg.si.wf.zUQ p2
  have hsF:s<F.length+1:=by omega
  by_cases hxy:σ.L.st.root p1=σ.L.st.root p2
  ·have b0:((σ.L.st.root p1:Int)==(σ.L.st.root p2:Int))=true:=by rw[hxy];exact beq_self_eq_true _
   rw[zXk,if_pos hxy]at hrun
   repeat' (first
    |((first|apply bG|apply bH);simp only[yP,yQ];first|refine zIk rfl (zUP (v:=σ.v) (L:=σ.L) (lim:=lim) (cnt:=σ.cnt) (rd:=σ.rd) hs hr hne hg.si.wf p1 hp1 (by simp[stP hs hr hne,bxS,arS])) (.inl rfl) ?_|refine zIk rfl (zUP (v:=σ.v) (L:=σ.L) (lim:=lim) (cnt:=σ.cnt) (rd:=σ.rd) hs hr hne hg.si.wf p2 hp2 (by simp[stP hs hr hne,bxS,arS])) (.inl rfl) ?_)
    |refine drA zAJ 7 0 ?_
    |refine zJ9 ?_ zAJ Tryz.f84.ntmps rfl (by decide)
    |skip)<;>simp only[↓zaL,↓zHC,WY,yA,yB,reduceCtorEq,yE,W1,WS,W3,yI,yM,zAK,zAI,yG,Bool.or_false,hpS,bxS,arS,stP hs hr hne,zTh,yN,c0,c2,w1,hget,hne',prI,yO,b0]
   refine⟨⟨ver,ps,stk,m,σ⟩,⟨hg,hlt',hes',hrun⟩,Nat.lt_succ_self m,zar hs hr ?_ ?_ (hA _ _)⟩
   ·simp only[WK,↓zaL,↓zHC,yA,yP]
   ·simp only[WK,yN]
    exact hsF
  have b0:((σ.L.st.root p1:Int)==(σ.L.st.root p2:Int))=false:=by rw[YAZ];omega
  by_cases hx4:σ.L.st.root p1=4
  ·have b1:((σ.L.st.root p1:Int)==4)=true:=by rw[beq_iff_eq];omega
   have q3:=fun(F:List AObj) (hs:s<F.length) (hr:r<F.length)=>zAq (F:=F) (v:=σ.v) (lim:=lim) (cnt:=σ.cnt) hs hr hne hg.si.wf hg.si.mb (by omega) ⟨hg.si.rd0,by omega⟩ (σ.L.st.root p2) hyl (lv:=0) (by decide)
   rw[zXk,if_neg hxy,if_pos hx4]at hrun
   have hg2:=hg.low hyl (lv:=0) (YAQ _)
   have hl2:(σ.low (σ.L.st.root p2) 0).L.length=σ.L.length:=by show(lowL _ _ _).length=_;rw[zNt,zPW]
   repeat' (first
    |((first|apply bG|apply bH);simp only[yP,yQ];first|refine zIk rfl (zUP (v:=σ.v) (L:=σ.L) (lim:=lim) (cnt:=σ.cnt) (rd:=σ.rd) hs hr hne hg.si.wf p1 hp1 (by simp[stP hs hr hne,bxS,arS])) (.inl rfl) ?_|refine zIk rfl (zUP (v:=σ.v) (L:=σ.L) (lim:=lim) (cnt:=σ.cnt) (rd:=σ.rd) hs hr hne hg.si.wf p2 hp2 (by simp[stP hs hr hne,bxS,arS])) (.inl rfl) ?_|refine zIA (q3 _ (by first|exact hs|simp<;>omega) (by first|exact hr|simp<;>omega)) (.inl rfl) (fun hb=>zLV (by first|exact hs|simp<;>omega) (by first|exact hr|simp<;>omega) hne hb) ?_)
    |refine drA zAJ 7 0 ?_
    |refine zJ9 ?_ zAJ Tryz.f84.ntmps rfl (by decide)
    |skip)<;>simp only[↓zaL,↓zHC,WY,yA,yB,reduceCtorEq,yE,W1,WS,W3,yI,yM,zAK,zAI,yG,Bool.or_false,hpS,bxS,arS,stP hs hr hne,zTh,yN,c0,c2,w1,hget,hne',prI,yO,b0,b1]
   refine⟨⟨ver,ps,stk,m,(σ.low (σ.L.st.root p2) 0)⟩,⟨hg2,(by rw[hl2];exact hlt'),hes',hrun⟩,Nat.lt_succ_self m,zar hs hr ?_ ?_ (hA _ _)⟩
   ·simp only[WK,↓zaL,↓zHC,yA,yP]
   ·simp only[WK,yN]
    exact hsF
  have b1:((σ.L.st.root p1:Int)==4)=false:=by rw[YAZ];omega
  by_cases hy4:σ.L.st.root p2=4
  ·have b2:((σ.L.st.root p2:Int)==4)=true:=by rw[beq_iff_eq];omega
   have q3:=fun(F:List AObj) (hs:s<F.length) (hr:r<F.length)=>zAq (F:=F) (v:=σ.v) (lim:=lim) (cnt:=σ.cnt) hs hr hne hg.si.wf hg.si.mb (by omega) ⟨hg.si.rd0,by omega⟩ (σ.L.st.root p1) hxl (lv:=0) (by decide)
   rw[zXk,if_neg hxy,if_neg hx4,if_pos hy4]at hrun
   have hg2:=hg.low hxl (lv:=0) (YAQ _)
   have hl2:(σ.low (σ.L.st.root p1) 0).L.length=σ.L.length:=by show(lowL _ _ _).length=_;rw[zNt,zPW]
   repeat' (first
    |((first|apply bG|apply bH);simp only[yP,yQ];first|refine zIk rfl (zUP (v:=σ.v) (L:=σ.L) (lim:=lim) (cnt:=σ.cnt) (rd:=σ.rd) hs hr hne hg.si.wf p1 hp1 (by simp[stP hs hr hne,bxS,arS])) (.inl rfl) ?_|refine zIk rfl (zUP (v:=σ.v) (L:=σ.L) (lim:=lim) (cnt:=σ.cnt) (rd:=σ.rd) hs hr hne hg.si.wf p2 hp2 (by simp[stP hs hr hne,bxS,arS])) (.inl rfl) ?_|refine zIA (q3 _ (by first|exact hs|simp<;>omega) (by first|exact hr|simp<;>omega)) (.inl rfl) (fun hb=>zLV (by first|exact hs|simp<;>omega) (by first|exact hr|simp<;>omega) hne hb) ?_)
    |refine drA zAJ 7 0 ?_
    |refine zJ9 ?_ zAJ Tryz.f84.ntmps rfl (by decide)
    |skip)<;>simp only[↓zaL,↓zHC,WY,yA,yB,reduceCtorEq,yE,W1,WS,W3,yI,yM,zAK,zAI,yG,Bool.or_false,hpS,bxS,arS,stP hs hr hne,zTh,yN,c0,c2,w1,hget,hne',prI,yO,b0,b1,b2]
   refine⟨⟨ver,ps,stk,m,(σ.low (σ.L.st.root p1) 0)⟩,⟨hg2,(by rw[hl2];exact hlt'),hes',hrun⟩,Nat.lt_succ_self m,zar hs hr ?_ ?_ (hA _ _)⟩
   ·simp only[WK,↓zaL,↓zHC,yA,yP]
   ·simp only[WK,yN]
    exact hsF
  have b2:((σ.L.st.root p2:Int)==4)=false:=by rw[YAZ];omega
  have k1:=fun(F:List AObj) (hs:s<F.length) (hr:r<F.length)=>zMi (F:=F) (v:=σ.v) (lim:=lim) (cnt:=σ.cnt) (rd:=σ.rd) hs hr hne hg.si.wf (σ.L.st.root p1) hxl
  have k2:=fun(F:List AObj) (hs:s<F.length) (hr:r<F.length)=>zMi (F:=F) (v:=σ.v) (lim:=lim) (cnt:=σ.cnt) (rd:=σ.rd) hs hr hne hg.si.wf (σ.L.st.root p2) hyl
  rw[ex]at k1
  rw[ey]at k2
  have hle:(stk.length<=ps.length)=True:=by simp only[YAb,iff_true];omega
  have hlive:LiveS σ:=⟨hg.si,by omega,by omega⟩
  by_cases h61:σ.L.st.kind (σ.L.st.root p1)=6
  ·have b3:(σ.L.st.kind (σ.L.st.root p1)==6)=true:=by rw[beq_iff_eq];exact h61
   have q3:=fun(F:List AObj) (hs:s<F.length) (hr:r<F.length)=>zDK (F:=F) (lim:=lim) hs hr hne hlive (by omega) ⟨o3,by omega⟩ (by omega) hxl hyl ex ey h61 (hg.lv _ h61) hxy hy4
   have hsome:=fun m hm he=>Sto.zDO (lim:=lim) (m:=m) hg hxl hyl ex ey h61 (fun e=>hxy e.symm) hm he
   have hgr:=Sto.zDH hg (lim:=lim) hxl hyl ex ey h61
   rw[zXk,if_neg hxy,if_neg hx4,if_neg hy4,if_pos h61]at hrun
   simp only at hrun
   generalize σ.become lim (σ.L.st.root p1) (σ.L.st.root p2)=B at*
   obtain⟨mo,e,σ'⟩:=B
   simp only at hrun q3 hsome hgr
   unfold Sto.heap at q3
   by_cases he:e=0
   ·subst he
    have b4:((0:Int) !=0)=false:=rfl
    rw[if_neg (by simp)]at hrun
    cases mo with
    |none=>
     have b5:((-1:Int)<0)=True:=by simp
     simp only[St.key]at q3
     repeat' (first
      |((first|apply bG|apply bH);simp only[yP,yQ];first|refine zIk rfl (zUP (v:=σ.v) (L:=σ.L) (lim:=lim) (cnt:=σ.cnt) (rd:=σ.rd) hs hr hne hg.si.wf p1 hp1 (by simp[stP hs hr hne,bxS,arS])) (.inl rfl) ?_|refine zIk rfl (zUP (v:=σ.v) (L:=σ.L) (lim:=lim) (cnt:=σ.cnt) (rd:=σ.rd) hs hr hne hg.si.wf p2 hp2 (by simp[stP hs hr hne,bxS,arS])) (.inl rfl) ?_|refine zIB (k1 _ (by first|exact hs|simp<;>omega) (by first|exact hr|simp<;>omega)) (.inl rfl) ?_|refine zIA (q3 _ (by first|exact hs|simp<;>omega) (by first|exact hr|simp<;>omega)) (.inl rfl) (fun hb=>zLV (by first|exact hs|simp<;>omega) (by first|exact hr|simp<;>omega) hne hb) ?_)
      |refine drA zAJ 7 0 ?_
      |refine zJ9 ?_ zAJ Tryz.f84.ntmps rfl (by decide)
      |skip)<;>simp only[↓zaL,↓zHC,WY,yA,yB,reduceCtorEq,yE,W1,WS,W3,yI,yM,zAK,zAI,yG,Bool.or_false,hpS,bxS,arS,stP hs hr hne,zTh,yN,c0,c2,w1,hget,hne',prI,yO,b0,b1,b2,b3,b4,b5]
     refine⟨⟨ver,ps,stk,m,σ'⟩,⟨hgr.good,hlt'.mono hgr.len1,hes',hrun⟩,Nat.lt_succ_self m,zar hs hr ?_ ?_ (hA _ _)⟩
     ·simp only[WK,↓zaL,↓zHC,yA,yP]
     ·simp only[WK,yN]
      exact hsF
    |some n=>
     simp only at hrun
     have b5:((n:Int)<0)=False:=by simp
     obtain⟨ru,rw',ky,klen,klo,khi,hu⟩:=hsome n rfl rfl
     have hG:=hgr.good
     have hl1:=hgr.len1
     have hw:σ.L.st.root p2<σ'.L.length:=by omega
     have hstk:=hlt'.mono hl1
     rw[<-ky]at klen klo khi
     rw[<-klen]at klo khi
     simp only[St.key]at q3
     have kk1:=fun(F:List AObj) (hs:s<F.length) (hr:r<F.length)=>zMd (F:=F) (v:=σ'.v) (lim:=lim) (cnt:=σ'.cnt) (rd:=σ'.rd) hs hr hne hG.si.wf n hu (by rw[ru];exact Nat.le_trans khi (by decide)) (by rw[ru];intro e;rw[e]at klo;simp at klo)
     have kk2:=fun(F:List AObj) (hs:s<F.length) (hr:r<F.length)=>zMd (F:=F) (v:=σ'.v) (lim:=lim) (cnt:=σ'.cnt) (rd:=σ'.rd) hs hr hne hG.si.wf (σ.L.st.root p2) hw (by rw[rw',<-klen];exact Nat.le_trans khi (by decide)) (by rw[rw'];intro e;rw[e]at klen;rw[klen]at klo;simp at klo)
     rw[ru]at kk1
     rw[rw']at kk2
     have v0:IntKind.wrap .i64 (1-1)=0:=by decide
     have v1:IntKind.wrap .i64 (2-1)=1:=by decide
     have v2:IntKind.wrap .i64 (0-1)= -1:=by decide
     have u0:((0:Int)<=0)=True:=by simp
     have u1:((0:Int)<=1)=True:=by simp
     have u2:((0:Int)<= -1)=False:=by simp
     have htk:List.take stk.length (List.map prI ps)=List.map prI stk.reverse:=by rw[<-List.map_take,hes']
     have m1:(stk.length+1<=9223372036854775807)=True:=by simp only[YAb,iff_true];omega
     have m2:((stk.length+1)*16<=140737488355328)=True:=by simp only[YAb,iff_true];omega
     rcases zYu klen klo khi with ⟨a,c,e1,e2⟩|⟨a,b,c,d,e1,e2⟩
     ·rw[e1]at kk1 hrun
      rw[e2]at kk2 hrun
      have ka:a<σ'.L.length:=hG.si.wf.zMe n a (by rw[e1];simp)
      have kc:c<σ'.L.length:=hG.si.wf.zMe (σ.L.st.root p2) c (by rw[e2];simp)
      simp only[kidI,List.map_cons,List.map_nil,I64]at kk1 kk2
      repeat' (first
       |((first|apply bG|apply bH);simp only[yP,yQ];first|refine zIk rfl (zUP (v:=σ.v) (L:=σ.L) (lim:=lim) (cnt:=σ.cnt) (rd:=σ.rd) hs hr hne hg.si.wf p1 hp1 (by simp[stP hs hr hne,bxS,arS])) (.inl rfl) ?_|refine zIk rfl (zUP (v:=σ.v) (L:=σ.L) (lim:=lim) (cnt:=σ.cnt) (rd:=σ.rd) hs hr hne hg.si.wf p2 hp2 (by simp[stP hs hr hne,bxS,arS])) (.inl rfl) ?_|refine zIB (k1 _ (by first|exact hs|simp<;>omega) (by first|exact hr|simp<;>omega)) (.inl rfl) ?_|refine zIA (q3 _ (by first|exact hs|simp<;>omega) (by first|exact hr|simp<;>omega)) (.inl rfl) (fun hb=>zLV (by first|exact hs|simp<;>omega) (by first|exact hr|simp<;>omega) hne hb) ?_|refine zIB (kk1 _ (by first|exact hs|simp<;>omega) (by first|exact hr|simp<;>omega)) (.inl rfl) ?_|refine zIB (kk2 _ (by first|exact hs|simp<;>omega) (by first|exact hr|simp<;>omega)) (.inl rfl) ?_)
       |refine drA zAJ 7 0 ?_
       |refine drA zAJ 31 0 ?_
       |refine zJ9 ?_ zAJ Tryz.f84.ntmps rfl (by decide)
       |skip)<;>simp only[↓zaL,↓zHC,WY,yA,yB,yD,reduceCtorEq,yE,yF,W1,WS,W3,yI,zAK,zAI,yG,Bool.or_false,Bool.or_true,isMs,hpS,bxS,arS,stP hs hr hne,zTh,yN,c0,c2,w1,hget,hne',prI,yO,hle,u0,u1,u2,v0,v2,m1,m2,htk,zSg,b0,b1,b2,b3,b4,b5]
      refine⟨⟨ver+1,stk.reverse++ [(a,c)],(a,c)::stk,m,σ'⟩,⟨hG,?_,?_,hrun⟩,Nat.lt_succ_self m,zar hs hr ?_ ?_ (hA _ _)⟩
      ·intro q hq
       rcases List.mem_cons.1 hq with rfl|hq
       ·exact⟨ka,kc⟩
       ·exact hstk q hq
      ·rw[List.take_of_length_le]<;>simp
      ·simp only[WK,↓zaL,↓zHC,yA,yP]
      ·simp only[WK,yN]
       exact hsF
     ·rw[e1]at kk1 hrun
      rw[e2]at kk2 hrun
      have ka:a<σ'.L.length:=hG.si.wf.zMe n a (by rw[e1];simp)
      have kc:c<σ'.L.length:=hG.si.wf.zMe (σ.L.st.root p2) c (by rw[e2];simp)
      have kb:b<σ'.L.length:=hG.si.wf.zMe n b (by rw[e1];simp)
      have kd:d<σ'.L.length:=hG.si.wf.zMe (σ.L.st.root p2) d (by rw[e2];simp)
      simp only[kidI,List.map_cons,List.map_nil,I64]at kk1 kk2
      have m3:(stk.length+1+1<=9223372036854775807)=True:=by simp only[YAb,iff_true];omega
      have m4:((stk.length+1+1)*16<=140737488355328)=True:=by simp only[YAb,iff_true];omega
      have htk2:List.take (stk.length+1) (List.map prI (stk.reverse++ [(b,d)]))=List.map prI (stk.reverse++ [(b,d)]):=by rw[List.take_of_length_le];simp
      repeat' (first
       |((first|apply bG|apply bH);simp only[yP,yQ];first|refine zIk rfl (zUP (v:=σ.v) (L:=σ.L) (lim:=lim) (cnt:=σ.cnt) (rd:=σ.rd) hs hr hne hg.si.wf p1 hp1 (by simp[stP hs hr hne,bxS,arS])) (.inl rfl) ?_|refine zIk rfl (zUP (v:=σ.v) (L:=σ.L) (lim:=lim) (cnt:=σ.cnt) (rd:=σ.rd) hs hr hne hg.si.wf p2 hp2 (by simp[stP hs hr hne,bxS,arS])) (.inl rfl) ?_|refine zIB (k1 _ (by first|exact hs|simp<;>omega) (by first|exact hr|simp<;>omega)) (.inl rfl) ?_|refine zIA (q3 _ (by first|exact hs|simp<;>omega) (by first|exact hr|simp<;>omega)) (.inl rfl) (fun hb=>zLV (by first|exact hs|simp<;>omega) (by first|exact hr|simp<;>omega) hne hb) ?_|refine zIB (kk1 _ (by first|exact hs|simp<;>omega) (by first|exact hr|simp<;>omega)) (.inl rfl) ?_|refine zIB (kk2 _ (by first|exact hs|simp<;>omega) (by first|exact hr|simp<;>omega)) (.inl rfl) ?_)
       |refine drA zAJ 7 0 ?_
       |refine drA zAJ 31 0 ?_
       |refine zJ9 ?_ zAJ Tryz.f84.ntmps rfl (by decide)
       |skip)<;>simp only[↓zaL,↓zHC,WY,yA,yB,yD,reduceCtorEq,yE,yF,W1,WS,W3,yI,zAK,zAI,yG,Bool.or_false,Bool.or_true,isMs,hpS,bxS,arS,stP hs hr hne,zTh,yN,c0,c2,w1,hget,hne',prI,yO,hle,List.length_reverse,u0,u1,u2,v0,v1,v2,m1,m2,m3,m4,htk,htk2,zSg,b0,b1,b2,b3,b4,b5]
      refine⟨⟨ver+1+1,stk.reverse++ [(b,d),(a,c)],(a,c)::(b,d)::stk,m,σ'⟩,⟨hG,?_,?_,hrun⟩,Nat.lt_succ_self m,zar hs hr ?_ ?_ (hA _ _)⟩
      ·intro q hq
       rcases List.mem_cons.1 hq with rfl|hq
       ·exact⟨ka,kc⟩
       rcases List.mem_cons.1 hq with rfl|hq
       ·exact⟨kb,kd⟩
       ·exact hstk q hq
      ·rw[List.take_of_length_le]<;>simp
      ·simp only[WK,↓zaL,↓zHC,yA,yP]
      ·simp only[WK,yN]
       exact hsF
   ·have b4:(e !=0)=true:=by rw[bne_iff_ne];exact he
    rw[if_pos he]at hrun
    simp only at hrun
    subst hrun
    repeat' (first
     |((first|apply bG|apply bH);simp only[yP,yQ];first|refine zIk rfl (zUP (v:=σ.v) (L:=σ.L) (lim:=lim) (cnt:=σ.cnt) (rd:=σ.rd) hs hr hne hg.si.wf p1 hp1 (by simp[stP hs hr hne,bxS,arS])) (.inl rfl) ?_|refine zIk rfl (zUP (v:=σ.v) (L:=σ.L) (lim:=lim) (cnt:=σ.cnt) (rd:=σ.rd) hs hr hne hg.si.wf p2 hp2 (by simp[stP hs hr hne,bxS,arS])) (.inl rfl) ?_|refine zIB (k1 _ (by first|exact hs|simp<;>omega) (by first|exact hr|simp<;>omega)) (.inl rfl) ?_|refine zIA (q3 _ (by first|exact hs|simp<;>omega) (by first|exact hr|simp<;>omega)) (.inl rfl) (fun hb=>zLV (by first|exact hs|simp<;>omega) (by first|exact hr|simp<;>omega) hne hb) ?_)
     |refine drA zAJ 7 0 ?_
     |refine zJ9 ?_ zAJ Tryz.f84.ntmps rfl (by decide)
     |skip)<;>simp only[↓zaL,↓zHC,WY,yA,yB,reduceCtorEq,yE,W1,WS,W3,yI,yM,zAK,zAI,yG,Bool.or_false,hpS,bxS,arS,stP hs hr hne,zTh,yN,c0,c2,w1,hget,hne',prI,yO,b0,b1,b2,b3,b4]
  have b3:(σ.L.st.kind (σ.L.st.root p1)==6)=false:=by rw[YAZ];exact h61
  by_cases h62:σ.L.st.kind (σ.L.st.root p2)=6
  ·have b3':(σ.L.st.kind (σ.L.st.root p2)==6)=true:=by rw[beq_iff_eq];exact h62
   have q3:=fun(F:List AObj) (hs:s<F.length) (hr:r<F.length)=>zDK (F:=F) (lim:=lim) hs hr hne hlive (by omega) ⟨o3,by omega⟩ (by omega) hyl hxl ey ex h62 (hg.lv _ h62) (fun e=>hxy e.symm) hx4
   have hsome:=fun m hm he=>Sto.zDO (lim:=lim) (m:=m) hg hyl hxl ey ex h62 hxy hm he
   have hgr:=Sto.zDH hg (lim:=lim) hyl hxl ey ex h62
   rw[zXk,if_neg hxy,if_neg hx4,if_neg hy4,if_neg h61,if_pos h62]at hrun
   simp only at hrun
   generalize σ.become lim (σ.L.st.root p2) (σ.L.st.root p1)=B at*
   obtain⟨mo,e,σ'⟩:=B
   simp only at hrun q3 hsome hgr
   unfold Sto.heap at q3
   by_cases he:e=0
   ·subst he
    have b4:((0:Int) !=0)=false:=rfl
    rw[if_neg (by simp)]at hrun
    cases mo with
    |none=>
     have b5:((-1:Int)<0)=True:=by simp
     simp only[St.key]at q3
     repeat' (first
      |((first|apply bG|apply bH);simp only[yP,yQ];first|refine zIk rfl (zUP (v:=σ.v) (L:=σ.L) (lim:=lim) (cnt:=σ.cnt) (rd:=σ.rd) hs hr hne hg.si.wf p1 hp1 (by simp[stP hs hr hne,bxS,arS])) (.inl rfl) ?_|refine zIk rfl (zUP (v:=σ.v) (L:=σ.L) (lim:=lim) (cnt:=σ.cnt) (rd:=σ.rd) hs hr hne hg.si.wf p2 hp2 (by simp[stP hs hr hne,bxS,arS])) (.inl rfl) ?_|refine zIB (k1 _ (by first|exact hs|simp<;>omega) (by first|exact hr|simp<;>omega)) (.inl rfl) ?_|refine zIB (k2 _ (by first|exact hs|simp<;>omega) (by first|exact hr|simp<;>omega)) (.inl rfl) ?_|refine zIA (q3 _ (by first|exact hs|simp<;>omega) (by first|exact hr|simp<;>omega)) (.inl rfl) (fun hb=>zLV (by first|exact hs|simp<;>omega) (by first|exact hr|simp<;>omega) hne hb) ?_)
      |refine drA zAJ 7 0 ?_
      |refine zJ9 ?_ zAJ Tryz.f84.ntmps rfl (by decide)
      |skip)<;>simp only[↓zaL,↓zHC,WY,yA,yB,reduceCtorEq,yE,W1,WS,W3,yI,yM,zAK,zAI,yG,Bool.or_false,hpS,bxS,arS,stP hs hr hne,zTh,yN,c0,c2,w1,hget,hne',prI,yO,b0,b1,b2,b3,b3',b4,b5]
     refine⟨⟨ver,ps,stk,m,σ'⟩,⟨hgr.good,hlt'.mono hgr.len1,hes',hrun⟩,Nat.lt_succ_self m,zar hs hr ?_ ?_ (hA _ _)⟩
     ·simp only[WK,↓zaL,↓zHC,yA,yP]
     ·simp only[WK,yN]
      exact hsF
    |some n=>
     simp only at hrun
     have b5:((n:Int)<0)=False:=by simp
     obtain⟨rw',ru,ky,klen,klo,khi,hw⟩:=hsome n rfl rfl
     have hG:=hgr.good
     have hl1:=hgr.len1
     have hu:σ.L.st.root p1<σ'.L.length:=by omega
     have hstk:=hlt'.mono hl1
     rw[<-ky]at klen klo khi
     replace klen:=klen.symm
     simp only[St.key]at q3
     have kk1:=fun(F:List AObj) (hs:s<F.length) (hr:r<F.length)=>zMd (F:=F) (v:=σ'.v) (lim:=lim) (cnt:=σ'.cnt) (rd:=σ'.rd) hs hr hne hG.si.wf (σ.L.st.root p1) hu (by rw[ru];exact Nat.le_trans khi (by decide)) (by rw[ru];intro e;rw[e]at klo;simp at klo)
     have kk2:=fun(F:List AObj) (hs:s<F.length) (hr:r<F.length)=>zMd (F:=F) (v:=σ'.v) (lim:=lim) (cnt:=σ'.cnt) (rd:=σ'.rd) hs hr hne hG.si.wf n hw (by rw[rw',<-klen];exact Nat.le_trans khi (by decide)) (by rw[rw'];intro e;rw[e]at klen;rw[klen]at klo;simp at klo)
     rw[ru]at kk1
     rw[rw']at kk2
     have v0:IntKind.wrap .i64 (1-1)=0:=by decide
     have v1:IntKind.wrap .i64 (2-1)=1:=by decide
     have v2:IntKind.wrap .i64 (0-1)= -1:=by decide
     have u0:((0:Int)<=0)=True:=by simp
     have u1:((0:Int)<=1)=True:=by simp
     have u2:((0:Int)<= -1)=False:=by simp
     have htk:List.take stk.length (List.map prI ps)=List.map prI stk.reverse:=by rw[<-List.map_take,hes']
     have m1:(stk.length+1<=9223372036854775807)=True:=by simp only[YAb,iff_true];omega
     have m2:((stk.length+1)*16<=140737488355328)=True:=by simp only[YAb,iff_true];omega
     rcases zYu klen klo khi with ⟨a,c,e1,e2⟩|⟨a,b,c,d,e1,e2⟩
     ·rw[e1]at kk1 hrun
      rw[e2]at kk2 hrun
      have ka:a<σ'.L.length:=hG.si.wf.zMe (σ.L.st.root p1) a (by rw[e1];simp)
      have kc:c<σ'.L.length:=hG.si.wf.zMe n c (by rw[e2];simp)
      simp only[kidI,List.map_cons,List.map_nil,I64]at kk1 kk2
      repeat' (first
       |((first|apply bG|apply bH);simp only[yP,yQ];first|refine zIk rfl (zUP (v:=σ.v) (L:=σ.L) (lim:=lim) (cnt:=σ.cnt) (rd:=σ.rd) hs hr hne hg.si.wf p1 hp1 (by simp[stP hs hr hne,bxS,arS])) (.inl rfl) ?_|refine zIk rfl (zUP (v:=σ.v) (L:=σ.L) (lim:=lim) (cnt:=σ.cnt) (rd:=σ.rd) hs hr hne hg.si.wf p2 hp2 (by simp[stP hs hr hne,bxS,arS])) (.inl rfl) ?_|refine zIB (k1 _ (by first|exact hs|simp<;>omega) (by first|exact hr|simp<;>omega)) (.inl rfl) ?_|refine zIB (k2 _ (by first|exact hs|simp<;>omega) (by first|exact hr|simp<;>omega)) (.inl rfl) ?_|refine zIA (q3 _ (by first|exact hs|simp<;>omega) (by first|exact hr|simp<;>omega)) (.inl rfl) (fun hb=>zLV (by first|exact hs|simp<;>omega) (by first|exact hr|simp<;>omega) hne hb) ?_|refine zIB (kk1 _ (by first|exact hs|simp<;>omega) (by first|exact hr|simp<;>omega)) (.inl rfl) ?_|refine zIB (kk2 _ (by first|exact hs|simp<;>omega) (by first|exact hr|simp<;>omega)) (.inl rfl) ?_)
       |refine drA zAJ 7 0 ?_
       |refine drA zAJ 31 0 ?_
       |refine zJ9 ?_ zAJ Tryz.f84.ntmps rfl (by decide)
       |skip)<;>simp only[↓zaL,↓zHC,WY,yA,yB,yD,reduceCtorEq,yE,yF,W1,WS,W3,yI,zAK,zAI,yG,Bool.or_false,Bool.or_true,isMs,hpS,bxS,arS,stP hs hr hne,zTh,yN,c0,c2,w1,hget,hne',prI,yO,hle,u0,u1,u2,v0,v2,m1,m2,htk,zSg,b0,b1,b2,b3,b3',b4,b5]
      refine⟨⟨ver+1,stk.reverse++ [(a,c)],(a,c)::stk,m,σ'⟩,⟨hG,?_,?_,hrun⟩,Nat.lt_succ_self m,zar hs hr ?_ ?_ (hA _ _)⟩
      ·intro q hq
       rcases List.mem_cons.1 hq with rfl|hq
       ·exact⟨ka,kc⟩
       ·exact hstk q hq
      ·rw[List.take_of_length_le]<;>simp
      ·simp only[WK,↓zaL,↓zHC,yA,yP]
      ·simp only[WK,yN]
       exact hsF
     ·rw[e1]at kk1 hrun
      rw[e2]at kk2 hrun
      have ka:a<σ'.L.length:=hG.si.wf.zMe (σ.L.st.root p1) a (by rw[e1];simp)
      have kc:c<σ'.L.length:=hG.si.wf.zMe n c (by rw[e2];simp)
      have kb:b<σ'.L.length:=hG.si.wf.zMe (σ.L.st.root p1) b (by rw[e1];simp)
      have kd:d<σ'.L.length:=hG.si.wf.zMe n d (by rw[e2];simp)
      simp only[kidI,List.map_cons,List.map_nil,I64]at kk1 kk2
      have m3:(stk.length+1+1<=9223372036854775807)=True:=by simp only[YAb,iff_true];omega
      have m4:((stk.length+1+1)*16<=140737488355328)=True:=by simp only[YAb,iff_true];omega
      have htk2:List.take (stk.length+1) (List.map prI (stk.reverse++ [(b,d)]))=List.map prI (stk.reverse++ [(b,d)]):=by rw[List.take_of_length_le];simp
      repeat' (first
       |((first|apply bG|apply bH);simp only[yP,yQ];first|refine zIk rfl (zUP (v:=σ.v) (L:=σ.L) (lim:=lim) (cnt:=σ.cnt) (rd:=σ.rd) hs hr hne hg.si.wf p1 hp1 (by simp[stP hs hr hne,bxS,arS])) (.inl rfl) ?_|refine zIk rfl (zUP (v:=σ.v) (L:=σ.L) (lim:=lim) (cnt:=σ.cnt) (rd:=σ.rd) hs hr hne hg.si.wf p2 hp2 (by simp[stP hs hr hne,bxS,arS])) (.inl rfl) ?_|refine zIB (k1 _ (by first|exact hs|simp<;>omega) (by first|exact hr|simp<;>omega)) (.inl rfl) ?_|refine zIB (k2 _ (by first|exact hs|simp<;>omega) (by first|exact hr|simp<;>omega)) (.inl rfl) ?_|refine zIA (q3 _ (by first|exact hs|simp<;>omega) (by first|exact hr|simp<;>omega)) (.inl rfl) (fun hb=>zLV (by first|exact hs|simp<;>omega) (by first|exact hr|simp<;>omega) hne hb) ?_|refine zIB (kk1 _ (by first|exact hs|simp<;>omega) (by first|exact hr|simp<;>omega)) (.inl rfl) ?_|refine zIB (kk2 _ (by first|exact hs|simp<;>omega) (by first|exact hr|simp<;>omega)) (.inl rfl) ?_)
       |refine drA zAJ 7 0 ?_
       |refine drA zAJ 31 0 ?_
       |refine zJ9 ?_ zAJ Tryz.f84.ntmps rfl (by decide)
       |skip)<;>simp only[↓zaL,↓zHC,WY,yA,yB,yD,reduceCtorEq,yE,yF,W1,WS,W3,yI,zAK,zAI,yG,Bool.or_false,Bool.or_true,isMs,hpS,bxS,arS,stP hs hr hne,zTh,yN,c0,c2,w1,hget,hne',prI,yO,hle,List.length_reverse,u0,u1,u2,v0,v1,v2,m1,m2,m3,m4,htk,htk2,zSg,b0,b1,b2,b3,b3',b4,b5]
      refine⟨⟨ver+1+1,stk.reverse++ [(b,d),(a,c)],(a,c)::(b,d)::stk,m,σ'⟩,⟨hG,?_,?_,hrun⟩,Nat.lt_succ_self m,zar hs hr ?_ ?_ (hA _ _)⟩
      ·intro q hq
       rcases List.mem_cons.1 hq with rfl|hq
       ·exact⟨ka,kc⟩
       rcases List.mem_cons.1 hq with rfl|hq
       ·exact⟨kb,kd⟩
       ·exact hstk q hq
      ·rw[List.take_of_length_le]<;>simp
      ·simp only[WK,↓zaL,↓zHC,yA,yP]
      ·simp only[WK,yN]
       exact hsF
   ·have b4:(e !=0)=true:=by rw[bne_iff_ne];exact he
    rw[if_pos he]at hrun
    simp only at hrun
    subst hrun
    repeat' (first
     |((first|apply bG|apply bH);simp only[yP,yQ];first|refine zIk rfl (zUP (v:=σ.v) (L:=σ.L) (lim:=lim) (cnt:=σ.cnt) (rd:=σ.rd) hs hr hne hg.si.wf p1 hp1 (by simp[stP hs hr hne,bxS,arS])) (.inl rfl) ?_|refine zIk rfl (zUP (v:=σ.v) (L:=σ.L) (lim:=lim) (cnt:=σ.cnt) (rd:=σ.rd) hs hr hne hg.si.wf p2 hp2 (by simp[stP hs hr hne,bxS,arS])) (.inl rfl) ?_|refine zIB (k1 _ (by first|exact hs|simp<;>omega) (by first|exact hr|simp<;>omega)) (.inl rfl) ?_|refine zIB (k2 _ (by first|exact hs|simp<;>omega) (by first|exact hr|simp<;>omega)) (.inl rfl) ?_|refine zIA (q3 _ (by first|exact hs|simp<;>omega) (by first|exact hr|simp<;>omega)) (.inl rfl) (fun hb=>zLV (by first|exact hs|simp<;>omega) (by first|exact hr|simp<;>omega) hne hb) ?_)
     |refine drA zAJ 7 0 ?_
     |refine zJ9 ?_ zAJ Tryz.f84.ntmps rfl (by decide)
     |skip)<;>simp only[↓zaL,↓zHC,WY,yA,yB,reduceCtorEq,yE,W1,WS,W3,yI,yM,zAK,zAI,yG,Bool.or_false,hpS,bxS,arS,stP hs hr hne,zTh,yN,c0,c2,w1,hget,hne',prI,yO,b0,b1,b2,b3,b3',b4]
  have b3':(σ.L.st.kind (σ.L.st.root p2)==6)=false:=by rw[YAZ];exact h62
  rw[zXk,if_neg hxy,if_neg hx4,if_neg hy4,if_neg h61,if_neg h62]at hrun
  by_cases hkk:σ.L.st.kind (σ.L.st.root p1)=σ.L.st.kind (σ.L.st.root p2)
  ·have b4:(σ.L.st.kind (σ.L.st.root p1) !=σ.L.st.kind (σ.L.st.root p2))=false:=by rw[bne_eq_false_iff_eq];exact hkk
   rw[if_neg (by simp[hkk])]at hrun
   simp only at hrun
   have hG:=hg
   have hu:=hxl
   have hw:=hyl
   have ru:=ex
   have rw':=ey
   have hstk:=hlt'
   obtain⟨klen,klo,khi⟩:=hg.si.wf.zMh (by rw[Mem.zXR];exact hxl) (by rw[Mem.zXR];exact hyl) hxy hkk h61
   have kk1:=fun(F:List AObj) (hs:s<F.length) (hr:r<F.length)=>zMd (F:=F) (v:=σ.v) (lim:=lim) (cnt:=σ.cnt) (rd:=σ.rd) hs hr hne hG.si.wf (σ.L.st.root p1) hu (by rw[ru];exact Nat.le_trans khi (by decide)) (by rw[ru];intro e;rw[e]at klo;simp at klo)
   have kk2:=fun(F:List AObj) (hs:s<F.length) (hr:r<F.length)=>zMd (F:=F) (v:=σ.v) (lim:=lim) (cnt:=σ.cnt) (rd:=σ.rd) hs hr hne hG.si.wf (σ.L.st.root p2) hw (by rw[rw',<-klen];exact Nat.le_trans khi (by decide)) (by rw[rw'];intro e;rw[e]at klen;rw[klen]at klo;simp at klo)
   rw[ru]at kk1
   rw[rw']at kk2
   have v0:IntKind.wrap .i64 (1-1)=0:=by decide
   have v1:IntKind.wrap .i64 (2-1)=1:=by decide
   have v2:IntKind.wrap .i64 (0-1)= -1:=by decide
   have u0:((0:Int)<=0)=True:=by simp
   have u1:((0:Int)<=1)=True:=by simp
   have u2:((0:Int)<= -1)=False:=by simp
   have htk:List.take stk.length (List.map prI ps)=List.map prI stk.reverse:=by rw[<-List.map_take,hes']
   have m1:(stk.length+1<=9223372036854775807)=True:=by simp only[YAb,iff_true];omega
   have m2:((stk.length+1)*16<=140737488355328)=True:=by simp only[YAb,iff_true];omega
   rcases zYu klen klo khi with ⟨a,c,e1,e2⟩|⟨a,b,c,d,e1,e2⟩
   ·rw[e1]at kk1 hrun
    rw[e2]at kk2 hrun
    have ka:a<σ.L.length:=hG.si.wf.zMe (σ.L.st.root p1) a (by rw[e1];simp)
    have kc:c<σ.L.length:=hG.si.wf.zMe (σ.L.st.root p2) c (by rw[e2];simp)
    simp only[kidI,List.map_cons,List.map_nil,I64]at kk1 kk2
    repeat' (first
     |((first|apply bG|apply bH);simp only[yP,yQ];first|refine zIk rfl (zUP (v:=σ.v) (L:=σ.L) (lim:=lim) (cnt:=σ.cnt) (rd:=σ.rd) hs hr hne hg.si.wf p1 hp1 (by simp[stP hs hr hne,bxS,arS])) (.inl rfl) ?_|refine zIk rfl (zUP (v:=σ.v) (L:=σ.L) (lim:=lim) (cnt:=σ.cnt) (rd:=σ.rd) hs hr hne hg.si.wf p2 hp2 (by simp[stP hs hr hne,bxS,arS])) (.inl rfl) ?_|refine zIB (k1 _ (by first|exact hs|simp<;>omega) (by first|exact hr|simp<;>omega)) (.inl rfl) ?_|refine zIB (k2 _ (by first|exact hs|simp<;>omega) (by first|exact hr|simp<;>omega)) (.inl rfl) ?_|refine zIB (kk1 _ (by first|exact hs|simp<;>omega) (by first|exact hr|simp<;>omega)) (.inl rfl) ?_|refine zIB (kk2 _ (by first|exact hs|simp<;>omega) (by first|exact hr|simp<;>omega)) (.inl rfl) ?_)
     |refine drA zAJ 7 0 ?_
     |refine drA zAJ 31 0 ?_
     |refine zJ9 ?_ zAJ Tryz.f84.ntmps rfl (by decide)
     |skip)<;>simp only[↓zaL,↓zHC,WY,yA,yB,yD,reduceCtorEq,yE,yF,W1,WS,W3,yI,zAK,zAI,yG,Bool.or_false,Bool.or_true,isMs,hpS,bxS,arS,stP hs hr hne,zTh,yN,c0,c2,w1,hget,hne',prI,yO,hle,u0,u1,u2,v0,v2,m1,m2,htk,zSg,b0,b1,b2,b3,b3',b4]
    refine⟨⟨ver+1,stk.reverse++ [(a,c)],(a,c)::stk,m,σ⟩,⟨hG,?_,?_,hrun⟩,Nat.lt_succ_self m,zar hs hr ?_ ?_ (hA _ _)⟩
    ·intro q hq
     rcases List.mem_cons.1 hq with rfl|hq
     ·exact⟨ka,kc⟩
     ·exact hstk q hq
    ·rw[List.take_of_length_le]<;>simp
    ·simp only[WK,↓zaL,↓zHC,yA,yP]
    ·simp only[WK,yN]
     exact hsF
   ·rw[e1]at kk1 hrun
    rw[e2]at kk2 hrun
    have ka:a<σ.L.length:=hG.si.wf.zMe (σ.L.st.root p1) a (by rw[e1];simp)
    have kc:c<σ.L.length:=hG.si.wf.zMe (σ.L.st.root p2) c (by rw[e2];simp)
    have kb:b<σ.L.length:=hG.si.wf.zMe (σ.L.st.root p1) b (by rw[e1];simp)
    have kd:d<σ.L.length:=hG.si.wf.zMe (σ.L.st.root p2) d (by rw[e2];simp)
    simp only[kidI,List.map_cons,List.map_nil,I64]at kk1 kk2
    have m3:(stk.length+1+1<=9223372036854775807)=True:=by simp only[YAb,iff_true];omega
    have m4:((stk.length+1+1)*16<=140737488355328)=True:=by simp only[YAb,iff_true];omega
    have htk2:List.take (stk.length+1) (List.map prI (stk.reverse++ [(b,d)]))=List.map prI (stk.reverse++ [(b,d)]):=by rw[List.take_of_length_le];simp
    repeat' (first
     |((first|apply bG|apply bH);simp only[yP,yQ];first|refine zIk rfl (zUP (v:=σ.v) (L:=σ.L) (lim:=lim) (cnt:=σ.cnt) (rd:=σ.rd) hs hr hne hg.si.wf p1 hp1 (by simp[stP hs hr hne,bxS,arS])) (.inl rfl) ?_|refine zIk rfl (zUP (v:=σ.v) (L:=σ.L) (lim:=lim) (cnt:=σ.cnt) (rd:=σ.rd) hs hr hne hg.si.wf p2 hp2 (by simp[stP hs hr hne,bxS,arS])) (.inl rfl) ?_|refine zIB (k1 _ (by first|exact hs|simp<;>omega) (by first|exact hr|simp<;>omega)) (.inl rfl) ?_|refine zIB (k2 _ (by first|exact hs|simp<;>omega) (by first|exact hr|simp<;>omega)) (.inl rfl) ?_|refine zIB (kk1 _ (by first|exact hs|simp<;>omega) (by first|exact hr|simp<;>omega)) (.inl rfl) ?_|refine zIB (kk2 _ (by first|exact hs|simp<;>omega) (by first|exact hr|simp<;>omega)) (.inl rfl) ?_)
     |refine drA zAJ 7 0 ?_
     |refine drA zAJ 31 0 ?_
     |refine zJ9 ?_ zAJ Tryz.f84.ntmps rfl (by decide)
     |skip)<;>simp only[↓zaL,↓zHC,WY,yA,yB,yD,reduceCtorEq,yE,yF,W1,WS,W3,yI,zAK,zAI,yG,Bool.or_false,Bool.or_true,isMs,hpS,bxS,arS,stP hs hr hne,zTh,yN,c0,c2,w1,hget,hne',prI,yO,hle,List.length_reverse,u0,u1,u2,v0,v1,v2,m1,m2,m3,m4,htk,htk2,zSg,b0,b1,b2,b3,b3',b4]
    refine⟨⟨ver+1+1,stk.reverse++ [(b,d),(a,c)],(a,c)::(b,d)::stk,m,σ⟩,⟨hG,?_,?_,hrun⟩,Nat.lt_succ_self m,zar hs hr ?_ ?_ (hA _ _)⟩
    ·intro q hq
     rcases List.mem_cons.1 hq with rfl|hq
     ·exact⟨ka,kc⟩
     rcases List.mem_cons.1 hq with rfl|hq
     ·exact⟨kb,kd⟩
     ·exact hstk q hq
    ·rw[List.take_of_length_le]<;>simp
    ·simp only[WK,↓zaL,↓zHC,yA,yP]
    ·simp only[WK,yN]
     exact hsF
  ·have b4:(σ.L.st.kind (σ.L.st.root p1) !=σ.L.st.kind (σ.L.st.root p2))=true:=by rw[bne_iff_ne];exact hkk
   rw[if_pos hkk]at hrun
   simp only at hrun
   subst hrun
   have b5:(0<σ.L.st.kind (σ.L.st.root p1))=True:=by simp only[YAb,iff_true];exact hg.si.wf.zMk (by rw[Mem.zXR];exact hxl)
   repeat' (first
    |((first|apply bG|apply bH);simp only[yP,yQ];first|refine zIk rfl (zUP (v:=σ.v) (L:=σ.L) (lim:=lim) (cnt:=σ.cnt) (rd:=σ.rd) hs hr hne hg.si.wf p1 hp1 (by simp[stP hs hr hne,bxS,arS])) (.inl rfl) ?_|refine zIk rfl (zUP (v:=σ.v) (L:=σ.L) (lim:=lim) (cnt:=σ.cnt) (rd:=σ.rd) hs hr hne hg.si.wf p2 hp2 (by simp[stP hs hr hne,bxS,arS])) (.inl rfl) ?_|refine zIB (k1 _ (by first|exact hs|simp<;>omega) (by first|exact hr|simp<;>omega)) (.inl rfl) ?_|refine zIB (k2 _ (by first|exact hs|simp<;>omega) (by first|exact hr|simp<;>omega)) (.inl rfl) ?_)
    |refine drA zAJ 7 0 ?_
    |refine zJ9 ?_ zAJ Tryz.f84.ntmps rfl (by decide)
    |skip)<;>simp only[↓zaL,↓zHC,WY,yA,yB,reduceCtorEq,yE,W1,WS,W3,yI,yM,zAK,zAI,yG,Bool.or_false,hpS,bxS,arS,stP hs hr hne,zTh,yN,c0,c2,w1,hget,hne',prI,yO,b0,b1,b2,b3,b3',b4,b5]
end
end
end Go.Proofs.YtdngjamjccjlmaaGreat
