/- Lemmas: a variable becomes a node, second part. No condition. -/
import Derived.Test.YtdngjamjccjlmaaGreatPBa
import Derived.Test.YtdngjamjccjlmaaGreatPNa
set_option linter.unusedSimpArgs false
set_option linter.unusedVariables false
set_option maxHeartbeats 4000000
set_option maxRecDepth 100000
namespace Go.Proofs.YtdngjamjccjlmaaGreat
open Go Go.Ab
open Nat renaming reduceEqDiff -> yA, reduceAdd -> yB, reduceLeDiff -> yD, reduceMul -> yE, reducePow -> yF, reduceBEq -> yG
open Int renaming reduceLT -> yI, reduceLE -> yM, reduceAdd -> yH
open AV renaming belL -> yO, bel -> yN, normL -> yQ, norm -> yP
attribute [local irreducible] zA0 zAA zAa zAi zAj GoIf GoGb zAk GoO GoD GoX GoDX GoG GoDG GoGv zAl Go zAB
section
def CB:Cfg:= {C with inpl:=fun d=>d==31,zwr:=fun f=>f==24}
theorem zAM:zAb Tryz.prog CB:=C_ok
theorem zAN(t:Nat):CB.ty t=C.ty t:=rfl
theorem zAL(t:Nat):CB.inpl t=(t==31):=rfl
section
variable {F : List AObj} {s r : Nat} {lim : Int}
theorem zDL(hs:s<F.length)(hr:r<F.length)(hne:r≠s){σ:Sto}(h:LiveS σ)(hb:σ.rd+4<=90000000000)(hc0:0<=σ.cnt/\σ.cnt<=900000){x y k0:Nat}(hx:x<σ.L.length)(hy:y<σ.L.length)(ex:σ.L.st.root x=x)(ey:σ.L.st.root y=y)(h6:σ.L.st.kind x=6)(hlv:0<=(σ.L.st.nd x).level)(hk:σ.L.st.kind y=8)(hks:σ.L.st.kids y=[k0])(h4:4∈σ.L.st.all y)(hin:x ∉ σ.L.st.all y)(hc:σ.cnt=lim):
 zAd Tryz.prog 95 [.bptr s 0,.int .i64 x,.int .i64 y] (σ.heap F s r lim) (.tup [.int .i64 (-1),.int .i64 7]) (((σ.mark y).mark y).heap F s r lim):=by
 have q1:=zMi (F:=F) (v:=σ.v) (lim:=lim) (cnt:=σ.cnt) (rd:=σ.rd) hs hr hne h.si.wf y hy
 rw[ey]at q1
 have q2:=zXe (F:=F) (lim:=lim) hs hr hne h hy
 rw[decide_eq_true h4,Bool.not_true]at q2
 have hm:=h.mark (by omega) y
 have hm2:=hm.mark (by show σ.rd+1+1<=_;omega) y
 have q3:=za0 (F:=F) (lim:=lim) hs hr hne hm (x:=x) (y:=y) (by rw[Sto.zO3];exact hx) (by rw[Sto.zO3];exact hy) (by rw[Sto.zO4];exact ex)
 rw[Sto.zO4,decide_eq_false hin]at q3
 have hst:((σ.mark y).mark y).L.st=σ.L.st:=by rw[Sto.zO4,Sto.zO4]
 have hln:((σ.mark y).mark y).L.length=σ.L.length:=by rw[Sto.zO3,Sto.zO3]
 have hcn:((σ.mark y).mark y).cnt=σ.cnt:=rfl
 have b6:(σ.L.st.kind y==6)=false:=by rw[hk];rfl
 generalize (σ.mark y).mark y=σ2 at*
 generalize σ.mark y=σ1 at*
 have q4:=fun(F:List AObj) (hs:s<F.length) (hr:r<F.length)=>zMd (F:=F) (v:=σ2.v) (lim:=lim) (cnt:=σ2.cnt) (rd:=σ2.rd) hs hr hne hm2.si.wf y (by rw[hln];exact hy) (by rw[hst,ey,hks];simp) (by rw[hst,ey,hks];simp)
 have q5:=fun(F:List AObj) (hs:s<F.length) (hr:r<F.length)=>zNI (F:=F) (v:=σ2.v) (lim:=lim) (cnt:=σ2.cnt) (rd:=σ2.rd) hs hr hne hm2.si.wf x (by rw[hln];exact hx)
 rw[hst,ey,hks]at q4
 rw[hst,ex,if_pos h6]at q5
 generalize (σ.L.st.nd x).level=lv at*
 have q6:=fun(F:List AObj) (hs:s<F.length) (hr:r<F.length)=>var_full (F:=F) (v:=σ2.v) (L:=σ2.L) (lim:=lim) (cnt:=σ2.cnt) (rd:=σ2.rd) hs hr hne lv (by omega) (by rw[hcn,hc];exact beq_self_eq_true _)
 have n7:((7:Int) !=0)=true:=rfl
 simp only[kidI,List.map_cons,List.map_nil]at q4
 have c0:((0:Int)<(1:Nat))=True:=by simp
 unfold Sto.heap at q2 q3⊢
 unfold zAd
 refine eD zAM Tryz.func95 Tryz.results95 fun ok=> ?_
 repeat' (first
  |((first|apply bG|apply bH);simp only[yP,yQ];first|refine zIB (q1) (.inl rfl) ?_|refine zIA (q2) (.inl rfl) (fun hb=>zLV (by first|exact hs|simp<;>omega) (by first|exact hr|simp<;>omega) hne hb) ?_|refine zIA (q3) (.inl rfl) (fun hb=>zLV (by first|exact hs|simp<;>omega) (by first|exact hr|simp<;>omega) hne hb) ?_|refine zIB (q4 _ (by first|exact hs|simp<;>omega) (by first|exact hr|simp<;>omega)) (.inl rfl) ?_|refine zIB (q5 _ (by first|exact hs|simp<;>omega) (by first|exact hr|simp<;>omega)) (.inl rfl) ?_|refine zIB (q6 _ (by first|exact hs|simp<;>omega) (by first|exact hr|simp<;>omega)) (.inl rfl) ?_)
  |refine zJ9 ?_ zAM Tryz.f95.ntmps rfl (by decide)
  |skip)<;>simp only[↓zaL,WY,yA,yB,yD,reduceCtorEq,yE,yF,W1,WS,W3,yI,zAN,zAL,yG,hpS,bxS,arS,stP hs hr hne,zTh,yN,b6,n7,yO]
 all_goals trace_state
theorem zDM(hs:s<F.length)(hr:r<F.length)(hne:r≠s){σ:Sto}(h:LiveS σ)(hb:σ.rd+4<=90000000000)(hc0:0<=σ.cnt/\σ.cnt<=900000)(hlen:σ.L.length<=800000){x y k0:Nat}(hx:x<σ.L.length)(hy:y<σ.L.length)(ex:σ.L.st.root x=x)(ey:σ.L.st.root y=y)(h6:σ.L.st.kind x=6)(hlv:0<=(σ.L.st.nd x).level)(hk:σ.L.st.kind y=8)(hks:σ.L.st.kids y=[k0])(h4:4∈σ.L.st.all y)(hin:x ∉ σ.L.st.all y)(hc:σ.cnt+1=lim):
 zAd Tryz.prog 95 [.bptr s 0,.int .i64 x,.int .i64 y] (σ.heap F s r lim) (.tup [.int .i64 (-1),.int .i64 7]) ((((σ.mark y).mark y).var (σ.L.st.nd x).level).heap F s r lim):=by
 have q1:=zMi (F:=F) (v:=σ.v) (lim:=lim) (cnt:=σ.cnt) (rd:=σ.rd) hs hr hne h.si.wf y hy
 rw[ey]at q1
 have q2:=zXe (F:=F) (lim:=lim) hs hr hne h hy
 rw[decide_eq_true h4,Bool.not_true]at q2
 have hm:=h.mark (by omega) y
 have hm2:=hm.mark (by show σ.rd+1+1<=_;omega) y
 have q3:=za0 (F:=F) (lim:=lim) hs hr hne hm (x:=x) (y:=y) (by rw[Sto.zO3];exact hx) (by rw[Sto.zO3];exact hy) (by rw[Sto.zO4];exact ex)
 rw[Sto.zO4,decide_eq_false hin]at q3
 have hst:((σ.mark y).mark y).L.st=σ.L.st:=by rw[Sto.zO4,Sto.zO4]
 have hln:((σ.mark y).mark y).L.length=σ.L.length:=by rw[Sto.zO3,Sto.zO3]
 have hcn:((σ.mark y).mark y).cnt=σ.cnt:=rfl
 have b6:(σ.L.st.kind y==6)=false:=by rw[hk];rfl
 generalize (σ.mark y).mark y=σ2 at*
 generalize σ.mark y=σ1 at*
 have q4:=fun(F:List AObj) (hs:s<F.length) (hr:r<F.length)=>zMd (F:=F) (v:=σ2.v) (lim:=lim) (cnt:=σ2.cnt) (rd:=σ2.rd) hs hr hne hm2.si.wf y (by rw[hln];exact hy) (by rw[hst,ey,hks];simp) (by rw[hst,ey,hks];simp)
 have q5:=fun(F:List AObj) (hs:s<F.length) (hr:r<F.length)=>zNI (F:=F) (v:=σ2.v) (lim:=lim) (cnt:=σ2.cnt) (rd:=σ2.rd) hs hr hne hm2.si.wf x (by rw[hln];exact hx)
 rw[hst,ey,hks]at q4
 rw[hst,ex,if_pos h6]at q5
 generalize (σ.L.st.nd x).level=lv at*
 have q6:=fun(F:List AObj) (hs:s<F.length) (hr:r<F.length)=>var_ok (F:=F) (v:=σ2.v) (L:=σ2.L) (lim:=lim) (cnt:=σ2.cnt) (rd:=σ2.rd) hs hr hne lv (by omega) (by rw[hcn,YAZ];omega) (by omega) (by omega)
 have hsi3:=hm2.si.var lv
 have hl3:(σ2.L++ [varN lv]).length=σ.L.length+1:=by rw[YAJ,hln];rfl
 have hy3:Mem.st (σ2.L++ [varN lv])=σ.L.st++ [⟨6,lv,none,[]⟩]:=by rw[Mem.zXM,hst];rfl
 have hwf3:Wf (σ.L.st++ [⟨6,lv,none,[]⟩]):=by rw[<-hy3];exact hsi3.wf
 have hrt3:∀n,n<σ.L.length->St.root (σ.L.st++ [⟨6,lv,none,[]⟩]) n=σ.L.st.root n:=fun n hn=>h.si.wf.zUF hwf3 rfl n (by rw[Mem.zXR];exact hn)
 have hkd3:∀n,n<σ.L.length->St.kind (σ.L.st++ [⟨6,lv,none,[]⟩]) n=σ.L.st.kind n:=fun n hn=>by rw[St.kind,St.zPv (by rw[Mem.zXR];exact hn)];rfl
 have q7:∀ {G:List AObj} {e:Nat->AV} {b m:Nat} (hG:G[s]?=some (bxS r (σ2.v+1) (σ2.L++ [varN lv]).length lim (σ2.cnt+1) σ2.rd)/\G[r]?=some (arS (σ2.v+1) (σ2.L++ [varN lv]))),zA5 Tryz.prog 39 [.bptr s 0,.int .i64 y] (.int .i64 8) (FS e G b m).obj:=fun {G e b m} hG=>by
  have:=zMm (e:=e) (b:=b) (m:=m) (v:=σ2.v+1) (L:=σ2.L++ [varN lv]) (lim:=lim) (cnt:=σ2.cnt+1) (rd:=σ2.rd) hs hr hne hsi3.wf y (by omega) hG
  rw[hy3,hrt3 y hy,ey,hkd3 y hy,hk]at this
  exact this
 have q8:=fun(F:List AObj) (hs:s<F.length) (hr:r<F.length)=>make_fullL (F:=F) (v:=σ2.v+1) (L:=σ2.L++ [varN lv]) (lim:=lim) (cnt:=σ2.cnt+1) (rd:=σ2.rd) hs hr hne σ2.L.length 0 (by omega) (by rw[hcn,hc];exact beq_self_eq_true _)
 have n7:((7:Int) !=0)=true:=rfl
 have n0:((0:Int) !=0)=false:=rfl
 simp only[kidI,List.map_cons,List.map_nil]at q4
 have c0:((0:Int)<(1:Nat))=True:=by simp
 have c1:((1:Int)<(1:Nat))=False:=by simp
 clear hsi3 hl3 hy3 hwf3 hrt3 hkd3
 unfold Sto.var Sto.heap
 unfold Sto.heap at q2 q3
 simp only
 generalize σ2.L++ [varN lv]=L3 at*
 unfold zAd
 refine eD zAM Tryz.func95 Tryz.results95 fun ok=> ?_
 repeat' (first
  |((first|apply bG|apply bH);simp only[yP,yQ];first|refine zIB (q1) (.inl rfl) ?_|refine zIA (q2) (.inl rfl) (fun hb=>zLV (by first|exact hs|simp<;>omega) (by first|exact hr|simp<;>omega) hne hb) ?_|refine zIA (q3) (.inl rfl) (fun hb=>zLV (by first|exact hs|simp<;>omega) (by first|exact hr|simp<;>omega) hne hb) ?_|refine zIB (q4 _ (by first|exact hs|simp<;>omega) (by first|exact hr|simp<;>omega)) (.inl rfl) ?_|refine zIB (q5 _ (by first|exact hs|simp<;>omega) (by first|exact hr|simp<;>omega)) (.inl rfl) ?_|refine zIA (q6 _ (by first|exact hs|simp<;>omega) (by first|exact hr|simp<;>omega)) (.inl rfl) (fun hb=>zLV (by first|exact hs|simp<;>omega) (by first|exact hr|simp<;>omega) hne hb) ?_|refine zIl rfl trivial (q8 _ (by first|exact hs|simp<;>omega) (by first|exact hr|simp<;>omega)) (.inl rfl) (fun hb=>zLV (by first|exact hs|simp<;>omega) (by first|exact hr|simp<;>omega) hne hb) ?_|refine zIk rfl (q7 (by simp[stP hs hr hne,bxS,arS])) (.inl rfl) ?_)
  |refine drA zAM 14 0 ?_
  |refine zJ9 ?_ zAM Tryz.f95.ntmps rfl (by decide)
  |skip)<;>simp only[↓zaL,WY,yA,yB,yD,reduceCtorEq,yE,yF,W1,WS,W3,yI,yM,zAN,zAL,yG,hpS,bxS,arS,stP hs hr hne,zTh,yN,b6,n7,n0,yO]
 all_goals trace_state
theorem zDN(hs:s<F.length)(hr:r<F.length)(hne:r≠s){σ:Sto}(h:LiveS σ)(hb:σ.rd+4<=90000000000)(hc0:0<=σ.cnt/\σ.cnt<=900000)(hlen:σ.L.length<=800000){x y k0:Nat}(hx:x<σ.L.length)(hy:y<σ.L.length)(ex:σ.L.st.root x=x)(ey:σ.L.st.root y=y)(h6:σ.L.st.kind x=6)(hlv:0<=(σ.L.st.nd x).level)(hk:σ.L.st.kind y=8)(hks:σ.L.st.kids y=[k0])(h4:4∈σ.L.st.all y)(hin:x ∉ σ.L.st.all y)(hc:σ.cnt≠lim)(hc1:σ.cnt+1≠lim):
 zAd Tryz.prog 95 [.bptr s 0,.int .i64 x,.int .i64 y] (σ.heap F s r lim) (.tup [.int .i64 ((σ.L.length+1:Nat):Int),.int .i64 (((((σ.mark y).mark y).var (σ.L.st.nd x).level).mk' 8 [σ.L.length]).link x (σ.L.length+1)).1]) ((((((σ.mark y).mark y).var (σ.L.st.nd x).level).mk' 8 [σ.L.length]).link x (σ.L.length+1)).2.heap F s r lim):=by
 have q1:=zMi (F:=F) (v:=σ.v) (lim:=lim) (cnt:=σ.cnt) (rd:=σ.rd) hs hr hne h.si.wf y hy
 rw[ey]at q1
 have q2:=zXe (F:=F) (lim:=lim) hs hr hne h hy
 rw[decide_eq_true h4,Bool.not_true]at q2
 have hm:=h.mark (by omega) y
 have hm2:=hm.mark (by show σ.rd+1+1<=_;omega) y
 have q3:=za0 (F:=F) (lim:=lim) hs hr hne hm (x:=x) (y:=y) (by rw[Sto.zO3];exact hx) (by rw[Sto.zO3];exact hy) (by rw[Sto.zO4];exact ex)
 rw[Sto.zO4,decide_eq_false hin]at q3
 have hst:((σ.mark y).mark y).L.st=σ.L.st:=by rw[Sto.zO4,Sto.zO4]
 have hln:((σ.mark y).mark y).L.length=σ.L.length:=by rw[Sto.zO3,Sto.zO3]
 have hcn:((σ.mark y).mark y).cnt=σ.cnt:=rfl
 have b6:(σ.L.st.kind y==6)=false:=by rw[hk];rfl
 generalize (σ.mark y).mark y=σ2 at*
 generalize σ.mark y=σ1 at*
 have q4:=fun(F:List AObj) (hs:s<F.length) (hr:r<F.length)=>zMd (F:=F) (v:=σ2.v) (lim:=lim) (cnt:=σ2.cnt) (rd:=σ2.rd) hs hr hne hm2.si.wf y (by rw[hln];exact hy) (by rw[hst,ey,hks];simp) (by rw[hst,ey,hks];simp)
 have q5:=fun(F:List AObj) (hs:s<F.length) (hr:r<F.length)=>zNI (F:=F) (v:=σ2.v) (lim:=lim) (cnt:=σ2.cnt) (rd:=σ2.rd) hs hr hne hm2.si.wf x (by rw[hln];exact hx)
 rw[hst,ey,hks]at q4
 rw[hst,ex,if_pos h6]at q5
 generalize (σ.L.st.nd x).level=lv at*
 have q6:=fun(F:List AObj) (hs:s<F.length) (hr:r<F.length)=>var_ok (F:=F) (v:=σ2.v) (L:=σ2.L) (lim:=lim) (cnt:=σ2.cnt) (rd:=σ2.rd) hs hr hne lv (by omega) (by rw[hcn,YAZ];omega) (by omega) (by omega)
 have hsi3:=hm2.si.var lv
 have hl3:(σ2.L++ [varN lv]).length=σ.L.length+1:=by rw[YAJ,hln];rfl
 have hy3:Mem.st (σ2.L++ [varN lv])=σ.L.st++ [⟨6,lv,none,[]⟩]:=by rw[Mem.zXM,hst];rfl
 have hwf3:Wf (σ.L.st++ [⟨6,lv,none,[]⟩]):=by rw[<-hy3];exact hsi3.wf
 have hrt3:∀n,n<σ.L.length->St.root (σ.L.st++ [⟨6,lv,none,[]⟩]) n=σ.L.st.root n:=fun n hn=>h.si.wf.zUF hwf3 rfl n (by rw[Mem.zXR];exact hn)
 have hkd3:∀n,n<σ.L.length->St.kind (σ.L.st++ [⟨6,lv,none,[]⟩]) n=σ.L.st.kind n:=fun n hn=>by rw[St.kind,St.zPv (by rw[Mem.zXR];exact hn)];rfl
 have q7:∀ {G:List AObj} {e:Nat->AV} {b m:Nat} (hG:G[s]?=some (bxS r (σ2.v+1) (σ2.L++ [varN lv]).length lim (σ2.cnt+1) σ2.rd)/\G[r]?=some (arS (σ2.v+1) (σ2.L++ [varN lv]))),zA5 Tryz.prog 39 [.bptr s 0,.int .i64 y] (.int .i64 8) (FS e G b m).obj:=fun {G e b m} hG=>by
  have:=zMm (e:=e) (b:=b) (m:=m) (v:=σ2.v+1) (L:=σ2.L++ [varN lv]) (lim:=lim) (cnt:=σ2.cnt+1) (rd:=σ2.rd) hs hr hne hsi3.wf y (by omega) hG
  rw[hy3,hrt3 y hy,ey,hkd3 y hy,hk]at this
  exact this
 have q8:=fun(F:List AObj) (hs:s<F.length) (hr:r<F.length)=>make_list (F:=F) (v:=σ2.v+1) (L:=σ2.L++ [varN lv]) (lim:=lim) (cnt:=σ2.cnt+1) (rd:=σ2.rd) hs hr hne σ2.L.length 0 (by omega) (by rw[hcn,YAZ];exact hc1) (by omega) (by omega)
 have hsi4:SI ((σ2.L++ [varN lv])++ [(⟨8,0,none,[σ2.L.length]⟩,0)]) σ2.rd:=hsi3.one (by omega)
 have hl4:((σ2.L++ [varN lv])++ [((⟨8,0,none,[σ2.L.length]⟩:Nd),(0:Int))]).length=σ.L.length+2:=by rw[YAJ,hl3];rfl
 have hy4:Mem.st ((σ2.L++ [varN lv])++ [(⟨8,0,none,[σ2.L.length]⟩,0)])=(σ.L.st++ [⟨6,lv,none,[]⟩])++ [⟨8,0,none,[σ2.L.length]⟩]:=by rw[Mem.zXM,hy3]
 have hwf4:Wf ((σ.L.st++ [⟨6,lv,none,[]⟩])++ [⟨8,0,none,[σ2.L.length]⟩]):=by rw[<-hy4];exact hsi4.wf
 have hlS:(σ.L.st++ [(⟨6,lv,none,[]⟩:Nd)]).length=σ.L.length+1:=by rw[YAJ,Mem.zXR];rfl
 have hrx:St.root ((σ.L.st++ [⟨6,lv,none,[]⟩])++ [⟨8,0,none,[σ2.L.length]⟩]) x=x:=by
  rw[hwf3.zUF hwf4 rfl x (by rw[hlS];omega),hrt3 x hx,ex]
 have hkx:St.kind ((σ.L.st++ [⟨6,lv,none,[]⟩])++ [⟨8,0,none,[σ2.L.length]⟩]) x=6:=by
  rw[St.kind,St.zPv (by rw[hlS];omega)];exact(hkd3 x hx).trans h6
 have hrm:St.root ((σ.L.st++ [⟨6,lv,none,[]⟩])++ [⟨8,0,none,[σ2.L.length]⟩]) (σ.L.length+1)=σ.L.length+1:=by
  have:=zUN (S:=σ.L.st++ [(⟨6,lv,none,[]⟩:Nd)]) (x:=⟨8,0,none,[σ2.L.length]⟩) rfl
  rwa[hlS]at this
 have q9:=fun(F:List AObj) (hs:s<F.length) (hr:r<F.length)=>zNN (F:=F) (lim:=lim) hs hr hne (σ:= {L:=(σ2.L++ [varN lv])++ [(⟨8,0,none,[σ2.L.length]⟩,0)],v:=σ2.v+1+1,cnt:=σ2.cnt+1+1,rd:=σ2.rd}) ⟨hsi4,by show List.length _<=_;rw[hl4];omega,hm2.rdb⟩ (x:=x) (y:=σ.L.length+1)
  (by show x<List.length _;rw[hl4];omega) (by show _<List.length _;rw[hl4];omega) (by show St.root (Mem.st _) _=_;rw[hy4];exact hrx) (by show St.root (Mem.st _) _=_;rw[hy4];exact hrm) (by show St.kind (Mem.st _) _=_;rw[hy4];exact hkx) (by omega)
 have n7:((7:Int) !=0)=true:=rfl
 have n0:((0:Int) !=0)=false:=rfl
 simp only[kidI,List.map_cons,List.map_nil]at q4
 have c0:((0:Int)<(1:Nat))=True:=by simp
 have c1:((1:Int)<(1:Nat))=False:=by simp
 clear hsi3 hy3 hwf3 hrt3 hkd3 hsi4 hy4 hwf4 hrx hkx hrm hl4 hlS
 rw[hl3]at q8
 rw[hln]at q6 q8 q9
 unfold Sto.mk' Sto.var
 unfold Sto.heap at q2 q3
 simp only
 generalize Sto.link _ x (σ.L.length+1)=p at*
 obtain⟨e9,σ9⟩:=p
 unfold Sto.heap at q9⊢
 simp only at q9⊢
 clear hl3
 generalize (σ2.L++ [varN lv])++ [((⟨8,0,none,[σ.L.length]⟩:Nd),(0:Int))]=L4 at*
 generalize σ2.L++ [varN lv]=L3 at*
 unfold zAd
 refine eD zAM Tryz.func95 Tryz.results95 fun ok=> ?_
 repeat' (first
  |((first|apply bG|apply bH);simp only[yP,yQ];first|refine zIB (q1) (.inl rfl) ?_|refine zIA (q2) (.inl rfl) (fun hb=>zLV (by first|exact hs|simp<;>omega) (by first|exact hr|simp<;>omega) hne hb) ?_|refine zIA (q3) (.inl rfl) (fun hb=>zLV (by first|exact hs|simp<;>omega) (by first|exact hr|simp<;>omega) hne hb) ?_|refine zIB (q4 _ (by first|exact hs|simp<;>omega) (by first|exact hr|simp<;>omega)) (.inl rfl) ?_|refine zIB (q5 _ (by first|exact hs|simp<;>omega) (by first|exact hr|simp<;>omega)) (.inl rfl) ?_|refine zIA (q6 _ (by first|exact hs|simp<;>omega) (by first|exact hr|simp<;>omega)) (.inl rfl) (fun hb=>zLV (by first|exact hs|simp<;>omega) (by first|exact hr|simp<;>omega) hne hb) ?_|refine zIl rfl trivial (q8 _ (by first|exact hs|simp<;>omega) (by first|exact hr|simp<;>omega)) (.inl rfl) (fun hb=>zLV (by first|exact hs|simp<;>omega) (by first|exact hr|simp<;>omega) hne hb) ?_|refine zIA (q9 _ (by first|exact hs|simp<;>omega) (by first|exact hr|simp<;>omega)) (.inl rfl) (fun hb=>zLV (by first|exact hs|simp<;>omega) (by first|exact hr|simp<;>omega) hne hb) ?_|refine zIk rfl (q7 (by simp[stP hs hr hne,bxS,arS])) (.inl rfl) ?_)
  |refine drA zAM 14 0 ?_
  |refine zJ9 ?_ zAM Tryz.f95.ntmps rfl (by decide)
  |skip)<;>simp only[↓zaL,WY,yA,yB,yD,reduceCtorEq,yE,yF,W1,WS,W3,yI,yM,zAN,zAL,yG,hpS,bxS,arS,stP hs hr hne,zTh,yN,b6,n0,yO]
 all_goals trace_state
end
end
section
section
variable {F : List AObj} {s r : Nat} {lim : Int}
theorem zDQ(hs:s<F.length)(hr:r<F.length)(hne:r≠s){σ:Sto}(h:LiveS σ)(hb:σ.rd+4<=90000000000)(hc0:0<=σ.cnt/\σ.cnt<=900000){x y k0 k1:Nat}(hx:x<σ.L.length)(hy:y<σ.L.length)(ex:σ.L.st.root x=x)(ey:σ.L.st.root y=y)(h6:σ.L.st.kind x=6)(hlv:0<=(σ.L.st.nd x).level)(hk:σ.L.st.kind y=7\/σ.L.st.kind y=9)(hks:σ.L.st.kids y=[k0,k1])(h4:4∈σ.L.st.all y)(hin:x ∉ σ.L.st.all y)(hc:σ.cnt=lim):
 zAd Tryz.prog 95 [.bptr s 0,.int .i64 x,.int .i64 y] (σ.heap F s r lim) (.tup [.int .i64 (-1),.int .i64 7]) (((σ.mark y).mark y).heap F s r lim):=by
 have q1:=zMi (F:=F) (v:=σ.v) (lim:=lim) (cnt:=σ.cnt) (rd:=σ.rd) hs hr hne h.si.wf y hy
 rw[ey]at q1
 have q2:=zXe (F:=F) (lim:=lim) hs hr hne h hy
 rw[decide_eq_true h4,Bool.not_true]at q2
 have hm:=h.mark (by omega) y
 have hm2:=hm.mark (by show σ.rd+1+1<=_;omega) y
 have q3:=za0 (F:=F) (lim:=lim) hs hr hne hm (x:=x) (y:=y) (by rw[Sto.zO3];exact hx) (by rw[Sto.zO3];exact hy) (by rw[Sto.zO4];exact ex)
 rw[Sto.zO4,decide_eq_false hin]at q3
 have hst:((σ.mark y).mark y).L.st=σ.L.st:=by rw[Sto.zO4,Sto.zO4]
 have hln:((σ.mark y).mark y).L.length=σ.L.length:=by rw[Sto.zO3,Sto.zO3]
 have hcn:((σ.mark y).mark y).cnt=σ.cnt:=rfl
 have b6:(σ.L.st.kind y==6)=false:=by rcases hk with hk|hk<;>rw[hk]<;>rfl
 generalize (σ.mark y).mark y=σ2 at*
 generalize σ.mark y=σ1 at*
 have q4:=fun(F:List AObj) (hs:s<F.length) (hr:r<F.length)=>zMd (F:=F) (v:=σ2.v) (lim:=lim) (cnt:=σ2.cnt) (rd:=σ2.rd) hs hr hne hm2.si.wf y (by rw[hln];exact hy) (by rw[hst,ey,hks];simp) (by rw[hst,ey,hks];simp)
 have q5:=fun(F:List AObj) (hs:s<F.length) (hr:r<F.length)=>zNI (F:=F) (v:=σ2.v) (lim:=lim) (cnt:=σ2.cnt) (rd:=σ2.rd) hs hr hne hm2.si.wf x (by rw[hln];exact hx)
 rw[hst,ey,hks]at q4
 rw[hst,ex,if_pos h6]at q5
 generalize (σ.L.st.nd x).level=lv at*
 have q6:=fun(F:List AObj) (hs:s<F.length) (hr:r<F.length)=>var_full (F:=F) (v:=σ2.v) (L:=σ2.L) (lim:=lim) (cnt:=σ2.cnt) (rd:=σ2.rd) hs hr hne lv (by omega) (by rw[hcn,hc];exact beq_self_eq_true _)
 have n7:((7:Int) !=0)=true:=rfl
 simp only[kidI,List.map_cons,List.map_nil]at q4
 have c0:((0:Int)<(2:Nat))=True:=by simp
 unfold Sto.heap at q2 q3⊢
 unfold zAd
 refine eD zAM Tryz.func95 Tryz.results95 fun ok=> ?_
 repeat' (first
  |((first|apply bG|apply bH);simp only[yP,yQ];first|refine zIB (q1) (.inl rfl) ?_|refine zIA (q2) (.inl rfl) (fun hb=>zLV (by first|exact hs|simp<;>omega) (by first|exact hr|simp<;>omega) hne hb) ?_|refine zIA (q3) (.inl rfl) (fun hb=>zLV (by first|exact hs|simp<;>omega) (by first|exact hr|simp<;>omega) hne hb) ?_|refine zIB (q4 _ (by first|exact hs|simp<;>omega) (by first|exact hr|simp<;>omega)) (.inl rfl) ?_|refine zIB (q5 _ (by first|exact hs|simp<;>omega) (by first|exact hr|simp<;>omega)) (.inl rfl) ?_|refine zIB (q6 _ (by first|exact hs|simp<;>omega) (by first|exact hr|simp<;>omega)) (.inl rfl) ?_)
  |refine zJ9 ?_ zAM Tryz.f95.ntmps rfl (by decide)
  |skip)<;>simp only[↓zaL,WY,yA,yB,yD,reduceCtorEq,yE,yF,W1,WS,W3,yI,zAN,zAL,yG,hpS,bxS,arS,stP hs hr hne,zTh,yN,b6,n7,yO]
 all_goals trace_state
theorem zDR(hs:s<F.length)(hr:r<F.length)(hne:r≠s){σ:Sto}(h:LiveS σ)(hb:σ.rd+4<=90000000000)(hc0:0<=σ.cnt/\σ.cnt<=900000)(hlen:σ.L.length<=800000){x y k0 k1:Nat}(hx:x<σ.L.length)(hy:y<σ.L.length)(ex:σ.L.st.root x=x)(ey:σ.L.st.root y=y)(h6:σ.L.st.kind x=6)(hlv:0<=(σ.L.st.nd x).level)(hk:σ.L.st.kind y=7\/σ.L.st.kind y=9)(hks:σ.L.st.kids y=[k0,k1])(h4:4∈σ.L.st.all y)(hin:x ∉ σ.L.st.all y)(hc:σ.cnt+1=lim):
 zAd Tryz.prog 95 [.bptr s 0,.int .i64 x,.int .i64 y] (σ.heap F s r lim) (.tup [.int .i64 (-1),.int .i64 7]) ((((σ.mark y).mark y).var (σ.L.st.nd x).level).heap F s r lim):=by
 have q1:=zMi (F:=F) (v:=σ.v) (lim:=lim) (cnt:=σ.cnt) (rd:=σ.rd) hs hr hne h.si.wf y hy
 rw[ey]at q1
 have q2:=zXe (F:=F) (lim:=lim) hs hr hne h hy
 rw[decide_eq_true h4,Bool.not_true]at q2
 have hm:=h.mark (by omega) y
 have hm2:=hm.mark (by show σ.rd+1+1<=_;omega) y
 have q3:=za0 (F:=F) (lim:=lim) hs hr hne hm (x:=x) (y:=y) (by rw[Sto.zO3];exact hx) (by rw[Sto.zO3];exact hy) (by rw[Sto.zO4];exact ex)
 rw[Sto.zO4,decide_eq_false hin]at q3
 have hst:((σ.mark y).mark y).L.st=σ.L.st:=by rw[Sto.zO4,Sto.zO4]
 have hln:((σ.mark y).mark y).L.length=σ.L.length:=by rw[Sto.zO3,Sto.zO3]
 have hcn:((σ.mark y).mark y).cnt=σ.cnt:=rfl
 have b6:(σ.L.st.kind y==6)=false:=by rcases hk with hk|hk<;>rw[hk]<;>rfl
 generalize (σ.mark y).mark y=σ2 at*
 generalize σ.mark y=σ1 at*
 have q4:=fun(F:List AObj) (hs:s<F.length) (hr:r<F.length)=>zMd (F:=F) (v:=σ2.v) (lim:=lim) (cnt:=σ2.cnt) (rd:=σ2.rd) hs hr hne hm2.si.wf y (by rw[hln];exact hy) (by rw[hst,ey,hks];simp) (by rw[hst,ey,hks];simp)
 have q5:=fun(F:List AObj) (hs:s<F.length) (hr:r<F.length)=>zNI (F:=F) (v:=σ2.v) (lim:=lim) (cnt:=σ2.cnt) (rd:=σ2.rd) hs hr hne hm2.si.wf x (by rw[hln];exact hx)
 rw[hst,ey,hks]at q4
 rw[hst,ex,if_pos h6]at q5
 have hlx:(σ.L.st.nd x).level=(σ.L.st.nd x).level:=rfl
 generalize hlvv:(σ.L.st.nd x).level=lv at*
 have q6:=fun(F:List AObj) (hs:s<F.length) (hr:r<F.length)=>var_ok (F:=F) (v:=σ2.v) (L:=σ2.L) (lim:=lim) (cnt:=σ2.cnt) (rd:=σ2.rd) hs hr hne lv (by omega) (by rw[hcn,YAZ];omega) (by omega) (by omega)
 have hsi3:=hm2.si.var lv
 have hl3:(σ2.L++ [varN lv]).length=σ.L.length+1:=by rw[YAJ,hln];rfl
 have hy3:Mem.st (σ2.L++ [varN lv])=σ.L.st++ [⟨6,lv,none,[]⟩]:=by rw[Mem.zXM,hst];rfl
 have hwf3:Wf (σ.L.st++ [⟨6,lv,none,[]⟩]):=by rw[<-hy3];exact hsi3.wf
 have hrt3:∀n,n<σ.L.length->St.root (σ.L.st++ [⟨6,lv,none,[]⟩]) n=σ.L.st.root n:=fun n hn=>h.si.wf.zUF hwf3 rfl n (by rw[Mem.zXR];exact hn)
 have hnd3:∀n,n<σ.L.length->St.nd (σ.L.st++ [⟨6,lv,none,[]⟩]) n=σ.L.st.nd n:=fun n hn=>St.zPv (by rw[Mem.zXR];exact hn)
 have q5':=fun(F:List AObj) (hs:s<F.length) (hr:r<F.length)=>zNI (F:=F) (v:=σ2.v+1) (L:=σ2.L++ [varN lv]) (lim:=lim) (cnt:=σ2.cnt+1) (rd:=σ2.rd) hs hr hne hsi3.wf x (by omega)
 rw[hy3,hrt3 x hx,ex,St.kind,hnd3 x hx,if_pos (show(σ.L.st.nd x).kind=6 from h6),hlvv]at q5'
 have q6':=fun(F:List AObj) (hs:s<F.length) (hr:r<F.length)=>var_full (F:=F) (v:=σ2.v+1) (L:=σ2.L++ [varN lv]) (lim:=lim) (cnt:=σ2.cnt+1) (rd:=σ2.rd) hs hr hne lv (by omega) (by rw[hcn,hc];exact beq_self_eq_true _)
 have n7:((7:Int) !=0)=true:=rfl
 have n0:((0:Int) !=0)=false:=rfl
 simp only[kidI,List.map_cons,List.map_nil]at q4
 have c0:((0:Int)<(2:Nat))=True:=by simp
 have c1:((1:Int)<(2:Nat))=True:=by simp
 have c2:((2:Int)<(2:Nat))=False:=by simp
 clear hsi3 hl3 hy3 hwf3 hrt3 hnd3
 unfold Sto.var Sto.heap
 unfold Sto.heap at q2 q3
 simp only
 generalize σ2.L++ [varN lv]=L3 at*
 unfold zAd
 refine eD zAM Tryz.func95 Tryz.results95 fun ok=> ?_
 repeat' (first
  |((first|apply bG|apply bH);simp only[yP,yQ];first|refine zIB (q1) (.inl rfl) ?_|refine zIA (q2) (.inl rfl) (fun hb=>zLV (by first|exact hs|simp<;>omega) (by first|exact hr|simp<;>omega) hne hb) ?_|refine zIA (q3) (.inl rfl) (fun hb=>zLV (by first|exact hs|simp<;>omega) (by first|exact hr|simp<;>omega) hne hb) ?_|refine zIB (q4 _ (by first|exact hs|simp<;>omega) (by first|exact hr|simp<;>omega)) (.inl rfl) ?_|refine zIB (q5 _ (by first|exact hs|simp<;>omega) (by first|exact hr|simp<;>omega)) (.inl rfl) ?_|refine zIB (q5' _ (by first|exact hs|simp<;>omega) (by first|exact hr|simp<;>omega)) (.inl rfl) ?_|refine zIA (q6 _ (by first|exact hs|simp<;>omega) (by first|exact hr|simp<;>omega)) (.inl rfl) (fun hb=>zLV (by first|exact hs|simp<;>omega) (by first|exact hr|simp<;>omega) hne hb) ?_|refine zIB (q6' _ (by first|exact hs|simp<;>omega) (by first|exact hr|simp<;>omega)) (.inl rfl) ?_)
  |refine zJ9 ?_ zAM Tryz.f95.ntmps rfl (by decide)
  |skip)<;>simp only[↓zaL,WY,yA,yB,yD,reduceCtorEq,yE,yF,W1,WS,W3,yI,yM,zAN,zAL,yG,hpS,bxS,arS,stP hs hr hne,zTh,yN,b6,n7,n0,yO]
 all_goals trace_state
theorem zDS(hs:s<F.length)(hr:r<F.length)(hne:r≠s){σ:Sto}(h:LiveS σ)(hb:σ.rd+4<=90000000000)(hc0:0<=σ.cnt/\σ.cnt<=900000)(hlen:σ.L.length<=800000){x y k0 k1:Nat}(hx:x<σ.L.length)(hy:y<σ.L.length)(ex:σ.L.st.root x=x)(ey:σ.L.st.root y=y)(h6:σ.L.st.kind x=6)(hlv:0<=(σ.L.st.nd x).level)(hk:σ.L.st.kind y=7\/σ.L.st.kind y=9)(hks:σ.L.st.kids y=[k0,k1])(h4:4∈σ.L.st.all y)(hin:x ∉ σ.L.st.all y)(hc:σ.cnt+1+1=lim):
 zAd Tryz.prog 95 [.bptr s 0,.int .i64 x,.int .i64 y] (σ.heap F s r lim) (.tup [.int .i64 (-1),.int .i64 7]) (((((σ.mark y).mark y).var (σ.L.st.nd x).level).var (σ.L.st.nd x).level).heap F s r lim):=by
 have q1:=zMi (F:=F) (v:=σ.v) (lim:=lim) (cnt:=σ.cnt) (rd:=σ.rd) hs hr hne h.si.wf y hy
 rw[ey]at q1
 have q2:=zXe (F:=F) (lim:=lim) hs hr hne h hy
 rw[decide_eq_true h4,Bool.not_true]at q2
 have hm:=h.mark (by omega) y
 have hm2:=hm.mark (by show σ.rd+1+1<=_;omega) y
 have q3:=za0 (F:=F) (lim:=lim) hs hr hne hm (x:=x) (y:=y) (by rw[Sto.zO3];exact hx) (by rw[Sto.zO3];exact hy) (by rw[Sto.zO4];exact ex)
 rw[Sto.zO4,decide_eq_false hin]at q3
 have hst:((σ.mark y).mark y).L.st=σ.L.st:=by rw[Sto.zO4,Sto.zO4]
 have hln:((σ.mark y).mark y).L.length=σ.L.length:=by rw[Sto.zO3,Sto.zO3]
 have hcn:((σ.mark y).mark y).cnt=σ.cnt:=rfl
 have b6:(σ.L.st.kind y==6)=false:=by rcases hk with hk|hk<;>rw[hk]<;>rfl
 generalize (σ.mark y).mark y=σ2 at*
 generalize σ.mark y=σ1 at*
 have q4:=fun(F:List AObj) (hs:s<F.length) (hr:r<F.length)=>zMd (F:=F) (v:=σ2.v) (lim:=lim) (cnt:=σ2.cnt) (rd:=σ2.rd) hs hr hne hm2.si.wf y (by rw[hln];exact hy) (by rw[hst,ey,hks];simp) (by rw[hst,ey,hks];simp)
 have q5:=fun(F:List AObj) (hs:s<F.length) (hr:r<F.length)=>zNI (F:=F) (v:=σ2.v) (lim:=lim) (cnt:=σ2.cnt) (rd:=σ2.rd) hs hr hne hm2.si.wf x (by rw[hln];exact hx)
 rw[hst,ey,hks]at q4
 rw[hst,ex,if_pos h6]at q5
 have hlx:(σ.L.st.nd x).level=(σ.L.st.nd x).level:=rfl
 generalize hlvv:(σ.L.st.nd x).level=lv at*
 have q6:=fun(F:List AObj) (hs:s<F.length) (hr:r<F.length)=>var_ok (F:=F) (v:=σ2.v) (L:=σ2.L) (lim:=lim) (cnt:=σ2.cnt) (rd:=σ2.rd) hs hr hne lv (by omega) (by rw[hcn,YAZ];omega) (by omega) (by omega)
 have hsi3:=hm2.si.var lv
 have hl3:(σ2.L++ [varN lv]).length=σ.L.length+1:=by rw[YAJ,hln];rfl
 have hy3:Mem.st (σ2.L++ [varN lv])=σ.L.st++ [⟨6,lv,none,[]⟩]:=by rw[Mem.zXM,hst];rfl
 have hwf3:Wf (σ.L.st++ [⟨6,lv,none,[]⟩]):=by rw[<-hy3];exact hsi3.wf
 have hrt3:∀n,n<σ.L.length->St.root (σ.L.st++ [⟨6,lv,none,[]⟩]) n=σ.L.st.root n:=fun n hn=>h.si.wf.zUF hwf3 rfl n (by rw[Mem.zXR];exact hn)
 have hnd3:∀n,n<σ.L.length->St.nd (σ.L.st++ [⟨6,lv,none,[]⟩]) n=σ.L.st.nd n:=fun n hn=>St.zPv (by rw[Mem.zXR];exact hn)
 have q5':=fun(F:List AObj) (hs:s<F.length) (hr:r<F.length)=>zNI (F:=F) (v:=σ2.v+1) (L:=σ2.L++ [varN lv]) (lim:=lim) (cnt:=σ2.cnt+1) (rd:=σ2.rd) hs hr hne hsi3.wf x (by omega)
 rw[hy3,hrt3 x hx,ex,St.kind,hnd3 x hx,if_pos (show(σ.L.st.nd x).kind=6 from h6),hlvv]at q5'
 have q6':=fun(F:List AObj) (hs:s<F.length) (hr:r<F.length)=>var_ok (F:=F) (v:=σ2.v+1) (L:=σ2.L++ [varN lv]) (lim:=lim) (cnt:=σ2.cnt+1) (rd:=σ2.rd) hs hr hne lv (by omega) (by rw[hcn,YAZ];omega) (by omega) (by omega)
 rw[hl3]at q6'
 have hsi5:SI ((σ2.L++ [varN lv])++ [varN lv]) σ2.rd:=hsi3.var lv
 have hl5:((σ2.L++ [varN lv])++ [varN lv]).length=σ.L.length+2:=by rw[YAJ,hl3];rfl
 have hy5:Mem.st ((σ2.L++ [varN lv])++ [varN lv])=(σ.L.st++ [⟨6,lv,none,[]⟩])++ [⟨6,lv,none,[]⟩]:=by rw[Mem.zXM,hy3];rfl
 have hwf5:Wf ((σ.L.st++ [⟨6,lv,none,[]⟩])++ [⟨6,lv,none,[]⟩]):=by rw[<-hy5];exact hsi5.wf
 have hlS:(σ.L.st++ [(⟨6,lv,none,[]⟩:Nd)]).length=σ.L.length+1:=by rw[YAJ,Mem.zXR];rfl
 have hrt5:∀n,n<σ.L.length->St.root ((σ.L.st++ [⟨6,lv,none,[]⟩])++ [⟨6,lv,none,[]⟩]) n=σ.L.st.root n:=fun n hn=>by rw[hwf3.zUF hwf5 rfl n (by rw[hlS];omega),hrt3 n hn]
 have hnd5:∀n,n<σ.L.length->St.nd ((σ.L.st++ [⟨6,lv,none,[]⟩])++ [⟨6,lv,none,[]⟩]) n=σ.L.st.nd n:=fun n hn=>by rw[St.zPv (by rw[hlS];omega),hnd3 n hn]
 have q7:∀ {G:List AObj} {e:Nat->AV} {b m:Nat} (hG:G[s]?=some (bxS r (σ2.v+1+1) ((σ2.L++ [varN lv])++ [varN lv]).length lim (σ2.cnt+1+1) σ2.rd)/\G[r]?=some (arS (σ2.v+1+1) ((σ2.L++ [varN lv])++ [varN lv]))),zA5 Tryz.prog 39 [.bptr s 0,.int .i64 y] (.int .i64 (σ.L.st.kind y)) (FS e G b m).obj:=fun {G e b m} hG=>by
  have:=zMm (e:=e) (b:=b) (m:=m) (v:=σ2.v+1+1) (L:=(σ2.L++ [varN lv])++ [varN lv]) (lim:=lim) (cnt:=σ2.cnt+1+1) (rd:=σ2.rd) hs hr hne hsi5.wf y (by omega) hG
  rw[hy5,hrt5 y hy,ey,St.kind,hnd5 y hy]at this
  exact this
 have q8:=fun(F:List AObj) (hs:s<F.length) (hr:r<F.length)=>make_full (F:=F) (v:=σ2.v+1+1) (L:=(σ2.L++ [varN lv])++ [varN lv]) (lim:=lim) (cnt:=σ2.cnt+1+1) (rd:=σ2.rd) hs hr hne (σ.L.st.kind y) σ.L.length (σ.L.length+1) hk (by omega) (by omega) (by rw[hcn,beq_iff_eq];omega)
 have n7:((7:Int) !=0)=true:=rfl
 have n0:((0:Int) !=0)=false:=rfl
 simp only[kidI,List.map_cons,List.map_nil]at q4
 have c0:((0:Int)<(2:Nat))=True:=by simp
 have c1:((1:Int)<(2:Nat))=True:=by simp
 have c2:((2:Int)<(2:Nat))=False:=by simp
 clear hsi3 hl3 hy3 hwf3 hrt3 hnd3 hsi5 hl5 hy5 hwf5 hrt5 hnd5 hlS
 rw[hln]at q6
 unfold Sto.var Sto.heap
 unfold Sto.heap at q2 q3
 simp only
 generalize (σ2.L++ [varN lv])++ [varN lv]=L5 at*
 generalize σ2.L++ [varN lv]=L3 at*
 generalize σ.L.st.kind y=kd at*
 unfold zAd
 refine eD zAM Tryz.func95 Tryz.results95 fun ok=> ?_
 repeat' (first
  |((first|apply bG|apply bH);simp only[yP,yQ];first|refine zIB (q1) (.inl rfl) ?_|refine zIA (q2) (.inl rfl) (fun hb=>zLV (by first|exact hs|simp<;>omega) (by first|exact hr|simp<;>omega) hne hb) ?_|refine zIA (q3) (.inl rfl) (fun hb=>zLV (by first|exact hs|simp<;>omega) (by first|exact hr|simp<;>omega) hne hb) ?_|refine zIB (q4 _ (by first|exact hs|simp<;>omega) (by first|exact hr|simp<;>omega)) (.inl rfl) ?_|refine zIB (q5 _ (by first|exact hs|simp<;>omega) (by first|exact hr|simp<;>omega)) (.inl rfl) ?_|refine zIB (q5' _ (by first|exact hs|simp<;>omega) (by first|exact hr|simp<;>omega)) (.inl rfl) ?_|refine zIA (q6 _ (by first|exact hs|simp<;>omega) (by first|exact hr|simp<;>omega)) (.inl rfl) (fun hb=>zLV (by first|exact hs|simp<;>omega) (by first|exact hr|simp<;>omega) hne hb) ?_|refine zIA (q6' _ (by first|exact hs|simp<;>omega) (by first|exact hr|simp<;>omega)) (.inl rfl) (fun hb=>zLV (by first|exact hs|simp<;>omega) (by first|exact hr|simp<;>omega) hne hb) ?_|refine zIl rfl trivial (q8 _ (by first|exact hs|simp<;>omega) (by first|exact hr|simp<;>omega)) (.inl rfl) (fun hb=>zLV (by first|exact hs|simp<;>omega) (by first|exact hr|simp<;>omega) hne hb) ?_|refine zIk rfl (q7 (by simp[stP hs hr hne,bxS,arS])) (.inl rfl) ?_)
  |refine drA zAM 14 0 ?_
  |refine zJ9 ?_ zAM Tryz.f95.ntmps rfl (by decide)
  |skip)<;>simp only[↓zaL,WY,yA,yB,yD,reduceCtorEq,yE,yF,W1,WS,W3,yH,yI,yM,zAN,zAL,yG,hpS,bxS,arS,stP hs hr hne,zTh,yN,b6,n7,n0,yO]
 all_goals trace_state
theorem zDT(hs:s<F.length)(hr:r<F.length)(hne:r≠s){σ:Sto}(h:LiveS σ)(hb:σ.rd+4<=90000000000)(hc0:0<=σ.cnt/\σ.cnt<=900000)(hlen:σ.L.length<=800000){x y k0 k1:Nat}(hx:x<σ.L.length)(hy:y<σ.L.length)(ex:σ.L.st.root x=x)(ey:σ.L.st.root y=y)(h6:σ.L.st.kind x=6)(hlv:0<=(σ.L.st.nd x).level)(hk:σ.L.st.kind y=7\/σ.L.st.kind y=9)(hks:σ.L.st.kids y=[k0,k1])(h4:4∈σ.L.st.all y)(hin:x ∉ σ.L.st.all y)(hc:σ.cnt≠lim)(hc1:σ.cnt+1≠lim)(hc2:σ.cnt+2≠lim):
 zAd Tryz.prog 95 [.bptr s 0,.int .i64 x,.int .i64 y] (σ.heap F s r lim) (.tup [.int .i64 ((σ.L.length+2:Nat):Int),.int .i64 ((((((σ.mark y).mark y).var (σ.L.st.nd x).level).var (σ.L.st.nd x).level).mk' (σ.L.st.kind y) [σ.L.length,σ.L.length+1]).link x (σ.L.length+2)).1]) (((((((σ.mark y).mark y).var (σ.L.st.nd x).level).var (σ.L.st.nd x).level).mk' (σ.L.st.kind y) [σ.L.length,σ.L.length+1]).link x (σ.L.length+2)).2.heap F s r lim):=by
 have q1:=zMi (F:=F) (v:=σ.v) (lim:=lim) (cnt:=σ.cnt) (rd:=σ.rd) hs hr hne h.si.wf y hy
 rw[ey]at q1
 have q2:=zXe (F:=F) (lim:=lim) hs hr hne h hy
 rw[decide_eq_true h4,Bool.not_true]at q2
 have hm:=h.mark (by omega) y
 have hm2:=hm.mark (by show σ.rd+1+1<=_;omega) y
 have q3:=za0 (F:=F) (lim:=lim) hs hr hne hm (x:=x) (y:=y) (by rw[Sto.zO3];exact hx) (by rw[Sto.zO3];exact hy) (by rw[Sto.zO4];exact ex)
 rw[Sto.zO4,decide_eq_false hin]at q3
 have hst:((σ.mark y).mark y).L.st=σ.L.st:=by rw[Sto.zO4,Sto.zO4]
 have hln:((σ.mark y).mark y).L.length=σ.L.length:=by rw[Sto.zO3,Sto.zO3]
 have hcn:((σ.mark y).mark y).cnt=σ.cnt:=rfl
 have b6:(σ.L.st.kind y==6)=false:=by rcases hk with hk|hk<;>rw[hk]<;>rfl
 generalize (σ.mark y).mark y=σ2 at*
 generalize σ.mark y=σ1 at*
 have q4:=fun(F:List AObj) (hs:s<F.length) (hr:r<F.length)=>zMd (F:=F) (v:=σ2.v) (lim:=lim) (cnt:=σ2.cnt) (rd:=σ2.rd) hs hr hne hm2.si.wf y (by rw[hln];exact hy) (by rw[hst,ey,hks];simp) (by rw[hst,ey,hks];simp)
 have q5:=fun(F:List AObj) (hs:s<F.length) (hr:r<F.length)=>zNI (F:=F) (v:=σ2.v) (lim:=lim) (cnt:=σ2.cnt) (rd:=σ2.rd) hs hr hne hm2.si.wf x (by rw[hln];exact hx)
 rw[hst,ey,hks]at q4
 rw[hst,ex,if_pos h6]at q5
 have hlx:(σ.L.st.nd x).level=(σ.L.st.nd x).level:=rfl
 generalize hlvv:(σ.L.st.nd x).level=lv at*
 have q6:=fun(F:List AObj) (hs:s<F.length) (hr:r<F.length)=>var_ok (F:=F) (v:=σ2.v) (L:=σ2.L) (lim:=lim) (cnt:=σ2.cnt) (rd:=σ2.rd) hs hr hne lv (by omega) (by rw[hcn,YAZ];omega) (by omega) (by omega)
 have hsi3:=hm2.si.var lv
 have hl3:(σ2.L++ [varN lv]).length=σ.L.length+1:=by rw[YAJ,hln];rfl
 have hy3:Mem.st (σ2.L++ [varN lv])=σ.L.st++ [⟨6,lv,none,[]⟩]:=by rw[Mem.zXM,hst];rfl
 have hwf3:Wf (σ.L.st++ [⟨6,lv,none,[]⟩]):=by rw[<-hy3];exact hsi3.wf
 have hrt3:∀n,n<σ.L.length->St.root (σ.L.st++ [⟨6,lv,none,[]⟩]) n=σ.L.st.root n:=fun n hn=>h.si.wf.zUF hwf3 rfl n (by rw[Mem.zXR];exact hn)
 have hnd3:∀n,n<σ.L.length->St.nd (σ.L.st++ [⟨6,lv,none,[]⟩]) n=σ.L.st.nd n:=fun n hn=>St.zPv (by rw[Mem.zXR];exact hn)
 have q5':=fun(F:List AObj) (hs:s<F.length) (hr:r<F.length)=>zNI (F:=F) (v:=σ2.v+1) (L:=σ2.L++ [varN lv]) (lim:=lim) (cnt:=σ2.cnt+1) (rd:=σ2.rd) hs hr hne hsi3.wf x (by omega)
 rw[hy3,hrt3 x hx,ex,St.kind,hnd3 x hx,if_pos (show(σ.L.st.nd x).kind=6 from h6),hlvv]at q5'
 have q6':=fun(F:List AObj) (hs:s<F.length) (hr:r<F.length)=>var_ok (F:=F) (v:=σ2.v+1) (L:=σ2.L++ [varN lv]) (lim:=lim) (cnt:=σ2.cnt+1) (rd:=σ2.rd) hs hr hne lv (by omega) (by rw[hcn,YAZ];omega) (by omega) (by omega)
 rw[hl3]at q6'
 have hsi5:SI ((σ2.L++ [varN lv])++ [varN lv]) σ2.rd:=hsi3.var lv
 have hl5:((σ2.L++ [varN lv])++ [varN lv]).length=σ.L.length+2:=by rw[YAJ,hl3];rfl
 have hy5:Mem.st ((σ2.L++ [varN lv])++ [varN lv])=(σ.L.st++ [⟨6,lv,none,[]⟩])++ [⟨6,lv,none,[]⟩]:=by rw[Mem.zXM,hy3];rfl
 have hwf5:Wf ((σ.L.st++ [⟨6,lv,none,[]⟩])++ [⟨6,lv,none,[]⟩]):=by rw[<-hy5];exact hsi5.wf
 have hlS:(σ.L.st++ [(⟨6,lv,none,[]⟩:Nd)]).length=σ.L.length+1:=by rw[YAJ,Mem.zXR];rfl
 have hrt5:∀n,n<σ.L.length->St.root ((σ.L.st++ [⟨6,lv,none,[]⟩])++ [⟨6,lv,none,[]⟩]) n=σ.L.st.root n:=fun n hn=>by rw[hwf3.zUF hwf5 rfl n (by rw[hlS];omega),hrt3 n hn]
 have hnd5:∀n,n<σ.L.length->St.nd ((σ.L.st++ [⟨6,lv,none,[]⟩])++ [⟨6,lv,none,[]⟩]) n=σ.L.st.nd n:=fun n hn=>by rw[St.zPv (by rw[hlS];omega),hnd3 n hn]
 have q7:∀ {G:List AObj} {e:Nat->AV} {b m:Nat} (hG:G[s]?=some (bxS r (σ2.v+1+1) ((σ2.L++ [varN lv])++ [varN lv]).length lim (σ2.cnt+1+1) σ2.rd)/\G[r]?=some (arS (σ2.v+1+1) ((σ2.L++ [varN lv])++ [varN lv]))),zA5 Tryz.prog 39 [.bptr s 0,.int .i64 y] (.int .i64 (σ.L.st.kind y)) (FS e G b m).obj:=fun {G e b m} hG=>by
  have:=zMm (e:=e) (b:=b) (m:=m) (v:=σ2.v+1+1) (L:=(σ2.L++ [varN lv])++ [varN lv]) (lim:=lim) (cnt:=σ2.cnt+1+1) (rd:=σ2.rd) hs hr hne hsi5.wf y (by omega) hG
  rw[hy5,hrt5 y hy,ey,St.kind,hnd5 y hy]at this
  exact this
 have q8:=fun(F:List AObj) (hs:s<F.length) (hr:r<F.length)=>make_ok (F:=F) (v:=σ2.v+1+1) (L:=(σ2.L++ [varN lv])++ [varN lv]) (lim:=lim) (cnt:=σ2.cnt+1+1) (rd:=σ2.rd) hs hr hne (σ.L.st.kind y) σ.L.length (σ.L.length+1) hk (by omega) (by omega) (by rw[hcn,YAZ];omega) (by omega) (by omega)
 have hsi6:SI (((σ2.L++ [varN lv])++ [varN lv])++ [(⟨σ.L.st.kind y,0,none,[σ.L.length,σ.L.length+1]⟩,0)]) σ2.rd:=hsi5.two hk (by omega) (by omega)
 have hl6:(((σ2.L++ [varN lv])++ [varN lv])++ [((⟨σ.L.st.kind y,0,none,[σ.L.length,σ.L.length+1]⟩:Nd),(0:Int))]).length=σ.L.length+3:=by rw[YAJ,hl5];rfl
 have hy6:Mem.st (((σ2.L++ [varN lv])++ [varN lv])++ [(⟨σ.L.st.kind y,0,none,[σ.L.length,σ.L.length+1]⟩,0)])=((σ.L.st++ [⟨6,lv,none,[]⟩])++ [⟨6,lv,none,[]⟩])++ [⟨σ.L.st.kind y,0,none,[σ.L.length,σ.L.length+1]⟩]:=by rw[Mem.zXM,hy5]
 have hwf6:Wf (((σ.L.st++ [⟨6,lv,none,[]⟩])++ [⟨6,lv,none,[]⟩])++ [⟨σ.L.st.kind y,0,none,[σ.L.length,σ.L.length+1]⟩]):=by rw[<-hy6];exact hsi6.wf
 have hlS5:((σ.L.st++ [(⟨6,lv,none,[]⟩:Nd)])++ [(⟨6,lv,none,[]⟩:Nd)]).length=σ.L.length+2:=by rw[YAJ,hlS];rfl
 have hrx:St.root (((σ.L.st++ [⟨6,lv,none,[]⟩])++ [⟨6,lv,none,[]⟩])++ [⟨σ.L.st.kind y,0,none,[σ.L.length,σ.L.length+1]⟩]) x=x:=by
  rw[hwf5.zUF hwf6 rfl x (by rw[hlS5];omega),hrt5 x hx,ex]
 have hkx:St.kind (((σ.L.st++ [⟨6,lv,none,[]⟩])++ [⟨6,lv,none,[]⟩])++ [⟨σ.L.st.kind y,0,none,[σ.L.length,σ.L.length+1]⟩]) x=6:=by
  rw[St.kind,St.zPv (by rw[hlS5];omega),hnd5 x hx];exact h6
 have hrm:St.root (((σ.L.st++ [⟨6,lv,none,[]⟩])++ [⟨6,lv,none,[]⟩])++ [⟨σ.L.st.kind y,0,none,[σ.L.length,σ.L.length+1]⟩]) (σ.L.length+2)=σ.L.length+2:=by
  have:=zUN (S:=(σ.L.st++ [(⟨6,lv,none,[]⟩:Nd)])++ [(⟨6,lv,none,[]⟩:Nd)]) (x:=⟨σ.L.st.kind y,0,none,[σ.L.length,σ.L.length+1]⟩) rfl
  rwa[hlS5]at this
 have q9:=fun(F:List AObj) (hs:s<F.length) (hr:r<F.length)=>zNN (F:=F) (lim:=lim) hs hr hne (σ:= {L:=((σ2.L++ [varN lv])++ [varN lv])++ [(⟨σ.L.st.kind y,0,none,[σ.L.length,σ.L.length+1]⟩,0)],v:=σ2.v+1+1+1,cnt:=σ2.cnt+1+1+1,rd:=σ2.rd}) ⟨hsi6,by show List.length _<=_;rw[hl6];omega,hm2.rdb⟩ (x:=x) (y:=σ.L.length+2)
  (by show x<List.length _;rw[hl6];omega) (by show _<List.length _;rw[hl6];omega) (by show St.root (Mem.st _) _=_;rw[hy6];exact hrx) (by show St.root (Mem.st _) _=_;rw[hy6];exact hrm) (by show St.kind (Mem.st _) _=_;rw[hy6];exact hkx) (by omega)
 have n7:((7:Int) !=0)=true:=rfl
 have n0:((0:Int) !=0)=false:=rfl
 simp only[kidI,List.map_cons,List.map_nil]at q4
 have c0:((0:Int)<(2:Nat))=True:=by simp
 have c1:((1:Int)<(2:Nat))=True:=by simp
 have c2:((2:Int)<(2:Nat))=False:=by simp
 clear hsi3 hl3 hy3 hwf3 hrt3 hnd3 hsi5 hy5 hwf5 hrt5 hnd5 hlS hsi6 hl6 hy6 hwf6 hlS5 hrx hkx hrm
 rw[hl5]at q8
 rw[hln]at q6
 unfold Sto.mk' Sto.var
 unfold Sto.heap at q2 q3
 simp only
 generalize Sto.link _ x (σ.L.length+2)=p at*
 obtain⟨e9,σ9⟩:=p
 unfold Sto.heap at q9⊢
 simp only at q9⊢
 clear hl5
 generalize (((σ2.L++ [varN lv])++ [varN lv])++ [((⟨σ.L.st.kind y,0,none,[σ.L.length,σ.L.length+1]⟩:Nd),(0:Int))])=L6 at*
 generalize (σ2.L++ [varN lv])++ [varN lv]=L5 at*
 generalize σ2.L++ [varN lv]=L3 at*
 generalize σ.L.st.kind y=kd at*
 unfold zAd
 refine eD zAM Tryz.func95 Tryz.results95 fun ok=> ?_
 repeat' (first
  |((first|apply bG|apply bH);simp only[yP,yQ];first|refine zIB (q1) (.inl rfl) ?_|refine zIA (q2) (.inl rfl) (fun hb=>zLV (by first|exact hs|simp<;>omega) (by first|exact hr|simp<;>omega) hne hb) ?_|refine zIA (q3) (.inl rfl) (fun hb=>zLV (by first|exact hs|simp<;>omega) (by first|exact hr|simp<;>omega) hne hb) ?_|refine zIB (q4 _ (by first|exact hs|simp<;>omega) (by first|exact hr|simp<;>omega)) (.inl rfl) ?_|refine zIB (q5 _ (by first|exact hs|simp<;>omega) (by first|exact hr|simp<;>omega)) (.inl rfl) ?_|refine zIB (q5' _ (by first|exact hs|simp<;>omega) (by first|exact hr|simp<;>omega)) (.inl rfl) ?_|refine zIA (q6 _ (by first|exact hs|simp<;>omega) (by first|exact hr|simp<;>omega)) (.inl rfl) (fun hb=>zLV (by first|exact hs|simp<;>omega) (by first|exact hr|simp<;>omega) hne hb) ?_|refine zIA (q6' _ (by first|exact hs|simp<;>omega) (by first|exact hr|simp<;>omega)) (.inl rfl) (fun hb=>zLV (by first|exact hs|simp<;>omega) (by first|exact hr|simp<;>omega) hne hb) ?_|refine zIl rfl trivial (q8 _ (by first|exact hs|simp<;>omega) (by first|exact hr|simp<;>omega)) (.inl rfl) (fun hb=>zLV (by first|exact hs|simp<;>omega) (by first|exact hr|simp<;>omega) hne hb) ?_|refine zIA (q9 _ (by first|exact hs|simp<;>omega) (by first|exact hr|simp<;>omega)) (.inl rfl) (fun hb=>zLV (by first|exact hs|simp<;>omega) (by first|exact hr|simp<;>omega) hne hb) ?_|refine zIk rfl (q7 (by simp[stP hs hr hne,bxS,arS])) (.inl rfl) ?_)
  |refine drA zAM 14 0 ?_
  |refine zJ9 ?_ zAM Tryz.f95.ntmps rfl (by decide)
  |skip)<;>simp only[↓zaL,WY,yA,yB,yD,reduceCtorEq,yE,yF,W1,WS,W3,yH,yI,yM,zAN,zAL,yG,hpS,bxS,arS,stP hs hr hne,zTh,yN,b6,n0,yO]
 all_goals trace_state
end
end
section
def St.key(m:Option Nat):Int:=match m with|none=> -1|some m=>m
theorem Wf.zCF{S:St}(h:Wf S){y:Nat}(hy:y<S.length)(ey:S.root y=y)(hk:S.kids y=[]):S.all y=[y]:=by
 rw[St.all,h.look_eq hy,ey,hk];rfl
section
variable {F : List AObj} {s r : Nat} {lim : Int}
theorem zDK(hs:s<F.length)(hr:r<F.length)(hne:r≠s){σ:Sto}(h:LiveS σ)(hb:σ.rd+4<=90000000000)(hc0:0<=σ.cnt/\σ.cnt<=900000)(hlen:σ.L.length<=800000){x y:Nat}(hx:x<σ.L.length)(hy:y<σ.L.length)(ex:σ.L.st.root x=x)(ey:σ.L.st.root y=y)(h6:σ.L.st.kind x=6)(hlv:0<=(σ.L.st.nd x).level)(hxy:x≠y)(hy4:y≠4):
 zAd Tryz.prog 95 [.bptr s 0,.int .i64 x,.int .i64 y] (σ.heap F s r lim) (.tup [.int .i64 (St.key (σ.become lim x y).1),.int .i64 (σ.become lim x y).2.1]) ((σ.become lim x y).2.2.heap F s r lim):=by
 unfold Sto.become
 by_cases hk6:σ.L.st.kind y=6
 ·rw[if_pos hk6]
  exact zDI hs hr hne h hx hy ex ey h6 hxy hk6
 rw[if_neg hk6]
 by_cases h4:4∈σ.L.st.all y
 ·rw[if_neg (by simpa using h4)]
  by_cases hin:x∈σ.L.st.all y
  ·rw[if_pos hin]
   exact zDJ hs hr hne h (by omega) hx hy ex ey hk6 h4 hin
  rw[if_neg hin]
  rcases h.si.wf.zVs (y:=y) (by rw[Mem.zXR];exact hy)with hk|⟨h5,_,hk⟩|⟨hk,a,hks⟩|⟨hk,a,b,hks⟩
  ·exact absurd hk.1 hk6
  ·rw[h.si.wf.zCF (by rw[Mem.zXR];exact hy) ey hk]at h4
   simp at h4
   omega
  ·rw[hks]
   simp only
   by_cases c0:σ.cnt=lim
   ·rw[if_pos c0]
    exact zDL hs hr hne h hb hc0 hx hy ex ey h6 hlv hk hks h4 hin c0
   rw[if_neg c0]
   by_cases c1:σ.cnt+1=lim
   ·rw[if_pos c1]
    exact zDM hs hr hne h hb hc0 hlen hx hy ex ey h6 hlv hk hks h4 hin c1
   rw[if_neg c1,hk]
   exact zDN hs hr hne h hb hc0 hlen hx hy ex ey h6 hlv hk hks h4 hin c0 c1
  ·rw[hks]
   simp only
   by_cases c0:σ.cnt=lim
   ·rw[if_pos c0]
    exact zDQ hs hr hne h hb hc0 hx hy ex ey h6 hlv hk hks h4 hin c0
   rw[if_neg c0]
   by_cases c1:σ.cnt+1=lim
   ·rw[if_pos c1]
    exact zDR hs hr hne h hb hc0 hlen hx hy ex ey h6 hlv hk hks h4 hin c1
   rw[if_neg c1]
   by_cases c2:σ.cnt+2=lim
   ·rw[if_pos c2]
    exact zDS hs hr hne h hb hc0 hlen hx hy ex ey h6 hlv hk hks h4 hin (by omega)
   rw[if_neg c2]
   exact zDT hs hr hne h hb hc0 hlen hx hy ex ey h6 hlv hk hks h4 hin c0 c1 c2
 ·rw[if_pos h4]
  exact zDP hs hr hne h (by omega) hx hy ex ey h6 hxy hk6 h4
end
end
end Go.Proofs.YtdngjamjccjlmaaGreat
