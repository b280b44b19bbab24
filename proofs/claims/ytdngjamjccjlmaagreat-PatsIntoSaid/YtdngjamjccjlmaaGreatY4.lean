/- Walks: whether a pattern is right. No condition. -/
import Derived.Test.YtdngjamjccjlmaaGreatPYb
set_option linter.unusedSimpArgs false
set_option linter.unusedVariables false
set_option maxHeartbeats 4000000
set_option maxRecDepth 100000
namespace Go.Proofs.YtdngjamjccjlmaaGreat
open Go Go.Ab
open Nat renaming reduceEqDiff -> yA, reduceAdd -> yB, reduceLT -> yC
open AV renaming bel -> yN, normL -> yQ
open AObj renaming bel -> yR
attribute [local irreducible] zA0 zAA zAa zAi zAj GoIf GoGb zAk GoO GoD GoX GoDX GoG GoDG GoGv zAl Go zAB
theorem zSQ{E:Bool×List ByteArray->List AObj}{y B:Nat}(hI:Iter E y B)(p:Pt)(l:List ByteArray){c:Nat}(hc:(E (true,l))[c]?=some (.box (cellsOf (embP p))))(hcB:c<B):
 zAd Tryz.prog 81 [.yld y,.bptr c 0] (E (true,l)) (.tup []) (E (chkR p l)):=by
 have hE:=hI.hE
 have q1:=zJ7 p hI l
 have tk:∀r,List.take B (E r)=E r:=fun r=>List.take_of_length_le (by rw[hE];exact YAV _)
 rw[zGi]at hc
 unfold zAd
 refine eD C_ok Tryz.func81 Tryz.results81 fun ok=> ?_
 rw[hE]
 repeat' simp only[↓zaL,WY,yA,yB,reduceCtorEq,W1,W1P,WS,hc]
 refine zIA q1 (.inl rfl) (fun hb=>by rw[tk]at hb⊢;exact hI.hbel l B hb _) ?_
 repeat' simp only[WY,WS,tk,zTg]
 exact⟨rfl,rfl⟩
def zGb(l:List ByteArray):List (AV×AV):=l.map fun s=>(.str s,.int .i64 1)
def fndN:List ByteArray->ByteArray->Nat->Option (Nat×AV)
 | [],_,_=>none
 |s::l,k,i=>if(k==s)=true then some (i,.int .i64 1)else fndN l k (i+1)
theorem zHj:∀(l:List ByteArray) (k:ByteArray) (i:Nat),zHd .str (.str k) (zGb l) i=some (fndN l k i)
 | [],k,i=>rfl
 |s::l,k,i=>by
  simp only[zGb,List.map_cons,zHd,zMS,fndN]
  cases h:(k==s)with
  |true=>simp
  |false=>simp;exact zHj l k (i+1)
theorem zHr:∀(l:List ByteArray) (k:ByteArray) (i:Nat),(l.any (k== ·)=true->∃j,fndN l k i=some (j,.int .i64 1))/\(l.any (k== ·)=false->fndN l k i=none)
 | [],k,i=>by simp[fndN]
 |s::l,k,i=>by
  have ih:=zHr l k (i+1)
  rw[fndN,List.any_cons]
  cases h:(k==s)with
  |true=>simp
  |false=>simpa using ih
theorem zIW{e:Nat->AV}{F F' L:List AObj}{b n:Nat}(h:F.length=b)(h':F'.length=b):(⟨(FS e (F++L) b n).env,(FS e (F++L) b n).b,F',(FS e (F++L) b n).L,(FS e (F++L) b n).n⟩:AState)=FS e (F'++L) b n:=by
 unfold FS
 simp only[List.take_left' h',List.drop_left' h',List.drop_left' h]
theorem zIE{e:Nat->AV}{F L:List AObj}{b n:Nat}(h:F.length=b):(FS e (F++L) b n).H=F:=by unfold FS;exact List.take_left' h
theorem zGX(l:List ByteArray)(s:ByteArray):zGb l++ [(.str s,.int .i64 1)]=zGb (l++ [s]):=by simp[zGb]
theorem zVm{F:List AObj}{m:Nat}{x:AObj}(h:F[m]?=some x):F.set m x=F:=by
 obtain⟨h1,h2⟩:=YAS.1 h
 rw[<-h2];exact List.set_getElem_self h1
theorem zGc(l:List ByteArray)(m:Nat):(AObj.map (zGb l)).bel m=true:=by
 simp only[yR,YAA,zDV,zGb,List.map_map,List.mem_map]
 exact⟨fun x ⟨s,_,h⟩=>by subst h;rfl,fun x ⟨s,_,h⟩=>by subst h;rfl⟩
def hpP(H:List AObj)(p:Pt)(d:LpD)(env:List AV)(r:Bool×List ByteArray):List AObj:=
 H++ [.box (cellsOf (embP p)),.box [.int .i64 (if r.1 then 0 else 1)],.map (zGb r.2),.box [.mp (H.length+2)],.box (cellsOf (embP p)),.raw (.deferred (some [])),.lp d env (if r.1 then .ready else .done) (if r.1 then none else some .ret)]
theorem zLU(H:List AObj)(p:Pt)(d:LpD)(env:List AV)(r:Bool×List ByteArray)(x:AObj):(hpP H p d env r).set (H.length+5+1) x=H++ [.box (cellsOf (embP p)),.box [.int .i64 (if r.1 then 0 else 1)],.map (zGb r.2),.box [.mp (H.length+2)],.box (cellsOf (embP p)),.raw (.deferred (some [])),x]:=by
 unfold hpP
 rw[Nat.add_assoc,List.set_append_right _ _ (by omega)]
 simp
theorem zLT(H:List AObj)(p:Pt)(d:LpD)(env:List AV)(r:Bool×List ByteArray):(hpP H p d env r)[H.length+5+1]?=some (.lp d env (if r.1 then .ready else .done) (if r.1 then none else some .ret)):=by
 unfold hpP
 rw[Nat.add_assoc,YAH (by omega)]
 simp
theorem zM9{H:List AObj}{cs ds mm:List AV}{es:List (AV×AV)}{v:Int}{x:AObj}{e:Nat->AV}{n:Nat}{R:AV->List AObj->Prop}(h2:e 2= .bptr (H.length+1) 0)(hR:R (.int .i64 v) H)(hb:∀x∈H,x.bel H.length=true):
 zAo C [.cell 2 39] (H.length+5) H.length R .ret (FS e (H++ [.box cs,.box [.int .i64 v],.map es,.box mm,.box ds,.raw (.deferred (some [])),x]) (H.length+7) n):=by
 have hl:(H++ [.box cs,.box [.int .i64 v],.map es,.box mm,.box ds,.raw (.deferred (some [])),x]).length=H.length+7:=by simp
 have hH:(FS e (H++ [.box cs,.box [.int .i64 v],.map es,.box mm,.box ds,.raw (.deferred (some [])),x]) (H.length+7) n).H=H++ [.box cs,.box [.int .i64 v],.map es,.box mm,.box ds,.raw (.deferred (some [])),x]:=List.take_of_length_le (by rw[hl];exact YAV _)
 unfold zAo
 rw[hH]
 refine⟨trivial,by simp,?_⟩
 have hF:(⟨(FS e (H++ [.box cs,.box [.int .i64 v],.map es,.box mm,.box ds,.raw (.deferred (some [])),x]) (H.length+7) n).env,(FS e (H++ [.box cs,.box [.int .i64 v],.map es,.box mm,.box ds,.raw (.deferred (some [])),x]) (H.length+7) n).b,(H++ [.box cs,.box [.int .i64 v],.map es,.box mm,.box ds,.raw (.deferred (some [])),x]).set (H.length+5) (.raw (.deferred none)),(FS e (H++ [.box cs,.box [.int .i64 v],.map es,.box mm,.box ds,.raw (.deferred (some [])),x]) (H.length+7) n).L,(FS e (H++ [.box cs,.box [.int .i64 v],.map es,.box mm,.box ds,.raw (.deferred (some [])),x]) (H.length+7) n).n⟩:AState)=
  FS e (H++ [.box cs,.box [.int .i64 v],.map es,.box mm,.box ds,.raw (.deferred none),x]) (H.length+7) n:=by
  have e1:(H++ [AObj.box cs,.box [.int .i64 v],.map es,.box mm,.box ds,.raw (.deferred (some [])),x]).set (H.length+5) (.raw (.deferred none))=H++ [.box cs,.box [.int .i64 v],.map es,.box mm,.box ds,.raw (.deferred none),x]:=by
   rw[List.set_append_right _ _ (by omega)];simp
  rw[e1,<-zIF (b:=H.length+7) (F:=H++ [.box cs,.box [.int .i64 v],.map es,.box mm,.box ds,.raw (.deferred none),x]) (by simp)]
  unfold FS
  simp only[AState.mk.injEq,true_and,and_true]
  exact List.drop_of_length_le (by rw[hl];exact YAV _)
 rw[hF]
 have ht:(H++ [AObj.box cs,.box [.int .i64 v],.map es,.box mm,.box ds,.raw (.deferred (some [])),x]).take H.length=H:=List.take_left' rfl
 rw[ht]
 simp only[WY,W1,WS,zCc,zCb,h2,zYm,yN]
 exact⟨hb,hR⟩
def chkP(p:Pt):Bool:=(chkR p []).1
theorem zEh(p:Pt)(H:List AObj):zAA Tryz.prog 32 [embP p] H fun r' H'=>r'= .int .i64 (if chkP p then 0 else 1)/\H'=H:=by
 refine zBT C_ok Tryz.func32 rfl (by decide) (YAL rfl) (by decide) fun ok hbH=> ?_
 rw[zLf,X_go,Tryz.results32]
 repeat' simp only[WY,W1,W1P,WS]
 refine⟨rfl,?_⟩
 show X _ _ _ _ _
 rw[X_go]
 repeat' simp only[↓zaL,WY,yA,yB,W1,WS]
 refine⟨rfl,?_⟩
 show X _ _ _ _ _
 rw[X_go]
 repeat' simp only[↓zaL,WY,yA,yB,W1,W1P,WS]
 refine zIA (zSS p _) (.inl rfl) (fun hb=>by rw[List.take_append_of_le_length (by simp)];exact hb) ?_
 repeat' simp only[WY,yB,W1P,WS]
 refine⟨rfl,zTJ (fun d env r' H'=>r'= .tup []/\H'=hpP H p d env (chkR p [])) (gf:=81) (caps:=[.bptr (H.length+4) 0]) (by simp only[↓zaL,WY,yA]) (fun fn d env hd hn he=> ?_) (fun d env r' H'' hr=> ?_)⟩
 ·have hround:∀(q:Pt) (l:List ByteArray) (F:List AObj) (m1 m2 m3 y:Nat) (R:AV->List AObj->Prop) (e:Nat->AV),F[m1]?=some (.box [.int .i64 0])->F[m2]?=some (.map (zGb l))->F[m3]?=some (.box [.mp m2])->F[y]?=some (.lp d env .ready none)->
   y≠m1->y≠m2->y≠m3->m1≠m2->m1≠m3->m2≠m3->e 2= .bptr m1 0->e 3= .bptr m3 0->e 8=embP q->
   (zXh l q=none->R (.bool false) (((F.set y (.lp d env .busy none)).set m1 (.box [.int .i64 1])).set y (.lp d env .done (some .ret))))->
   (∀l',zXh l q=some l'->R (.bool true) (((F.set y (.lp d env .busy none)).set m2 (.map (zGb l'))).set y (.lp d env .ready none)))->
   Go Tryz.prog C (zCs Tryz.prog C y d env R) [.code d.assign] (FS e F F.length env.length):=by
   intro q l F m1 m2 m3 y R e h1 h2 h3 hy d1 d2 d3 d4 d5 d6 e2 e3 e8 hRf hRt
   have l1:=zIc h1
   have l2:=zIc h2
   have l3:=zIc h3
   have ly:=zIc hy
   obtain⟨b,hb⟩:∃b,b=F.length:=⟨_,rfl⟩
   rw[<-hb,hn]
   have hb':=hb.symm
   rw[hb']at l1 l2 l3 ly
   conv=>arg 4;rw[hd]
   simp only[]
   repeat' simp only[↓zaL,WY,yA,yB,W1,W1P,WS,hb',e8]
   refine⟨rfl,?_,?_⟩
   ·rw[zIE hb'];exact hy
   rw[zIE hb',zIW hb' (by simp[hb'])]
   have g1:(F.set y (.lp d env .busy none))[m1]?=some (.box [.int .i64 0]):=by rw[List.getElem?_set_ne d1];exact h1
   have g2:(F.set y (.lp d env .busy none))[m2]?=some (.map (zGb l)):=by rw[List.getElem?_set_ne d2];exact h2
   have g3:(F.set y (.lp d env .busy none))[m3]?=some (.box [.mp m2]):=by rw[List.getElem?_set_ne d3];exact h3
   have gy:(F.set y (.lp d env .busy none))[y]?=some (.lp d env .busy none):=List.getElem?_set_self (by rw[hb'];exact ly)
   have hl:(F.set y (.lp d env .busy none)).length=b:=by rw[List.length_set];exact hb'
   generalize F.set y (.lp d env .busy none)=F1 at*
   rw[X_go]
   conv=>arg 4;rw[hd]
   simp only[]
   have lN:∀s':ByteArray,(AV.bel b (.str s'))=true:=fun _=>rfl
   by_cases k1:okP q=true
   ·by_cases k2:(q.kind==2)=true
    ·by_cases k3:l.any (q.name== ·)=true
     ·obtain⟨j,hj⟩:=(zHr l q.name 0).1 k3
      have hst:zXh l q=none:=by
       have:q.kind=2:=by simpa using k2
       simp[zXh,k1,this];simpa using k3
      have w1:((1:Int)>0)=True:=by simp
      repeat' (first
       |((first|apply bG|apply bH);simp only[yQ,W2P];refine zIf (zRY _) (.inl rfl) ?_)
       |skip)<;>simp only[↓zaL,WY,yA,yB,yC,W1,W1P,WS,hl,g1,g2,g3,l1,l2,l3,e2,e3,k1,k2,zHj,hj,zHw,zMT,w1]
      refine⟨fun _=>rfl,?_⟩
      unfold zUU
      rw[zIE (by simp[hl])]
      exact⟨by rw[List.getElem?_set_ne d1.symm];exact gy,hRf hst⟩
     ·have k3':l.any (q.name== ·)=false:=by simpa using k3
      have hj:=(zHr l q.name 0).2 k3'
      have hst:zXh l q=some (l++ [q.name]):=by
       have:q.kind=2:=by simpa using k2
       simp only[zXh,k1,this,k3'];simp
      have w1:((0:Int)>0)=False:=by simp
      have w2:IntKind.wrap .i64 (0+1)=1:=by decide
      repeat' (first
       |((first|apply bG|apply bH);simp only[yQ,W2P];refine zIf (zRY _) (.inl rfl) ?_)
       |skip)<;>simp only[↓zaL,WY,yA,yB,yC,W1,W1P,WS,hl,g2,g3,l2,l3,e3,k1,k2,zHj,hj,zHw,zMT,w1,w2,zOk,zGX,yN,implies_true]
      all_goals (unfold zUU;rw[zIE (by simp[hl])];exact⟨by rw[List.getElem?_set_ne d2.symm];exact gy,hRt _ hst⟩)
    ·have k2':(q.kind==2)=false:=by simpa using k2
     have hst:zXh l q=some l:=by
      have:q.kind≠2:=by simpa using k2
      simp[zXh,k1,this]
     repeat' (first
      |((first|apply bG|apply bH);simp only[yQ,W2P];refine zIf (zRY _) (.inl rfl) ?_)
      |skip)<;>simp only[↓zaL,WY,yA,yB,W1,W1P,WS,hl,k1,k2']
     have:=hRt l hst
     rw[zVm g2]at this
     unfold zUU
     rw[zIE hl]
     exact⟨gy,this⟩
   ·have k1':okP q=false:=by simpa using k1
    have hst:zXh l q=none:=by simp[zXh,k1']
    repeat' (first
     |((first|apply bG|apply bH);simp only[yQ,W2P];refine zIf (zRY _) (.inl rfl) ?_)
     |skip)<;>simp only[↓zaL,WY,yA,yB,W1,W1P,WS,hl,g1,l1,e2,k1']
    refine⟨fun _=>rfl,?_⟩
    unfold zUU
    rw[zIE (by simp[hl])]
    exact⟨by rw[List.getElem?_set_ne d1.symm];exact gy,hRf hst⟩
  have hI:Iter (hpP H p d env) (H.length+6) (H.length+7):=by
   refine⟨fun r=>by simp[hpP],by omega,fun l m hm r=> ?_,fun l q Z=> ?_⟩
   ·intro x hx
    simp only[hpP,List.mem_append,List.mem_cons,List.not_mem_nil,or_false]at hx hm
    rcases hx with hx|rfl|rfl|rfl|rfl|rfl|rfl|rfl
    ·exact hm x (.inl hx)
    ·exact hm _ (.inr (.inl rfl))
    ·rfl
    ·exact zGc _ _
    ·exact hm _ (.inr (.inr (.inr (.inr (.inl rfl)))))
    ·exact hm _ (.inr (.inl rfl))
    ·rfl
    ·have:=hm _ (.inr (.inr (.inr (.inr (.inr (.inr (.inr rfl)))))))
     exact this
   ·refine zbq (p:=8) (d:=d) (env:=env) C_ok (by simp[hpP]) (by rw[hd]) (by rw[hn];decide) (by rw[hn,hd];dsimp only;decide) fun e he1 he2=> ?_
    have f2:e 2= .bptr (H.length+1) 0:=by rw[he1 2 (by decide),he 2 (by decide)];simp[frz,upd]
    have f3:e 3= .bptr (H.length+3) 0:=by rw[he1 3 (by decide),he 3 (by decide)];simp[frz,upd]
    refine hround q l (hpP H p d env (true,l)++Z) (H.length+1) (H.length+2) (H.length+3) (H.length+6) _ e (by simp[hpP]) (by simp[hpP]) (by simp[hpP]) (by simp[hpP]) (by omega) (by omega) (by omega) (by omega) (by omega) (by omega) f2 f3 he2 (fun hs=> ?_) (fun l' hs=> ?_)
    ·rw[hs]
     refine⟨rfl,?_⟩
     simp[hpP]
     trace_state
    ·rw[hs]
     refine⟨rfl,?_⟩
     simp[hpP]
     trace_state
  have q1:=zSQ hI p [] (c:=H.length+4) (by simp[hpP]) (by omega)
  have e1:hpP H p d env (true,[])=H++ [.box (cellsOf (embP p)),.box [.int .i64 0],.map [],.box [.mp (H.length+2)],.box (cellsOf (embP p))]++ [.raw (.deferred (some [])),.lp d env .ready none]:=by simp[hpP,zGb]
  rw[e1,zGi]at q1
  have e2:(H++ [AObj.box (cellsOf (embP p)),.box [.int .i64 0],.map [],.box [.mp (H.length+2)],.box (cellsOf (embP p))]).length+1=H.length+6:=by simp
  rw[zGi]at e2
  rw[e2]
  exact q1
 ·obtain⟨rfl,rfl⟩:=hr
  have e2:(H++ [AObj.box (cellsOf (embP p)),.box [.int .i64 0],.map [],.box [.mp (H.length+2)],.box (cellsOf (embP p))]).length=H.length+5:=by simp
  rw[zGi]at e2
  rw[e2]
  rcases hc:chkR p []with ⟨okk,l⟩
  have hp:chkP p=okk:=by rw[chkP,hc]
  rw[hp]
  cases okk
  ·refine⟨.done,some .ret,by simp,zLT _ _ _ _ _,?_⟩
   dsimp only
   have e3:(hpP H p d env (false,l)).length=H.length+7:=by simp[hpP]
   rw[e3,zLU]
   exact zM9 (by simp[frz,upd]) ⟨rfl,rfl⟩ hbH
  ·refine⟨.ready,none,by simp,zLT _ _ _ _ _,?_⟩
   dsimp only
   have e3:(hpP H p d env (true,l)).length=H.length+7:=by simp[hpP]
   rw[e3,X_go,zLU]
   repeat' simp only[↓zaL,WY,yA,W1,W1P,WS]
   exact⟨fun _=>rfl,zM9 (by simp[frz,upd]) ⟨rfl,rfl⟩ hbH⟩
theorem zEi(p:Pt):zA0 Tryz.prog 32 [embP p] (.int .i64 (if chkP p then 0 else 1)):=pcalls rfl fun H=>zEh p H
end Go.Proofs.YtdngjamjccjlmaaGreat
