/- Lemmas: two nodes that are made to agree, first part. No condition. -/
import Derived.Test.YtdngjamjccjlmaaGreatPWc
import Derived.Test.YtdngjamjccjlmaaGreatPWb
import Derived.Test.YtdngjamjccjlmaaGreatPWe
set_option linter.unusedSimpArgs false
set_option linter.unusedVariables false
namespace Go.Proofs.YtdngjamjccjlmaaGreat
open Go Go.Ab
section
structure Sto where
 L:Mem
 v:Nat
 cnt:Int
 rd:Int
def Sto.S(σ:Sto):St:=σ.L.st
def Sto.heap(σ:Sto)(F:List AObj)(s r:Nat)(lim:Int):List AObj:=hpS F s r σ.v σ.L lim σ.cnt σ.rd
def Sto.mark(σ:Sto)(n:Nat):Sto:= {σ with L:=mkL σ.L (σ.rd+1) (σ.L.st.all n),rd:=σ.rd+1}
def Sto.low(σ:Sto)(n:Nat)(lv:Int):Sto:= {σ with L:=lowL (mkL σ.L (σ.rd+1) (σ.L.st.all n)) lv (σ.L.st.vars n),rd:=σ.rd+1}
def Sto.link(σ:Sto)(x y:Nat):Int×Sto:=if x∈σ.L.st.all y then(5,σ.mark y)else(0,{σ with L:=zNL σ.L σ.rd x y,rd:=σ.rd+2})
def Sto.var(σ:Sto)(lv:Int):Sto:= {σ with L:=σ.L++ [varN lv],v:=σ.v+1,cnt:=σ.cnt+1}
def Sto.mk'(σ:Sto)(k:Int)(ks:List Nat):Sto:= {σ with L:=σ.L++ [(⟨k,0,none,ks⟩,0)],v:=σ.v+1,cnt:=σ.cnt+1}
def Sto.become(lim:Int)(σ:Sto)(x y:Nat):Option Nat×Int×Sto:=
 if σ.L.st.kind y=6 then(none,σ.link x y)
 else if 4 ∉ σ.L.st.all y then(none,(σ.mark y).link x y)
 else if x∈σ.L.st.all y then(none,5,(σ.mark y).mark y)
 else match σ.L.st.kids y with
  | [_]=>
   if σ.cnt=lim then(none,7,(σ.mark y).mark y)
   else if σ.cnt+1=lim then(none,7,((σ.mark y).mark y).var (σ.L.st.nd x).level)
   else(some (σ.L.length+1),((((σ.mark y).mark y).var (σ.L.st.nd x).level).mk' (σ.L.st.kind y) [σ.L.length]).link x (σ.L.length+1))
  | [_,_]=>
   if σ.cnt=lim then(none,7,(σ.mark y).mark y)
   else if σ.cnt+1=lim then(none,7,((σ.mark y).mark y).var (σ.L.st.nd x).level)
   else if σ.cnt+2=lim then(none,7,(((σ.mark y).mark y).var (σ.L.st.nd x).level).var (σ.L.st.nd x).level)
   else(some (σ.L.length+2),(((((σ.mark y).mark y).var (σ.L.st.nd x).level).var (σ.L.st.nd x).level).mk' (σ.L.st.kind y) [σ.L.length,σ.L.length+1]).link x (σ.L.length+2))
  |_=>(none,0,σ)
inductive Stp where
 |go (stk:List (Nat×Nat)) (σ:Sto)
 |stop (l r e:Int) (σ:Sto)
def zXk(lim:Int)(p:Nat×Nat)(stk:List (Nat×Nat))(σ:Sto):Stp:=
 let x:=σ.L.st.root p.1
 let y:=σ.L.st.root p.2
 if x=y then .go stk σ
 else if x=4 then .go stk (σ.low y 0)
 else if y=4 then .go stk (σ.low x 0)
 else if σ.L.st.kind x=6 then
  match σ.become lim x y with
  |(m,e,σ')=>if e≠0 then .stop 0 0 e σ' else match m with
   |none=> .go stk σ'
   |some m=> .go ((σ'.L.st.kids m).zip (σ'.L.st.kids y)++stk) σ'
 else if σ.L.st.kind y=6 then
  match σ.become lim y x with
  |(m,e,σ')=>if e≠0 then .stop 0 0 e σ' else match m with
   |none=> .go stk σ'
   |some m=> .go ((σ'.L.st.kids x).zip (σ'.L.st.kids m)++stk) σ'
 else if σ.L.st.kind x≠σ.L.st.kind y then .stop (σ.L.st.kind x) (σ.L.st.kind y) 4 σ
 else .go ((σ.L.st.kids x).zip (σ.L.st.kids y)++stk) σ
def runS(lim:Int):Nat->List (Nat×Nat)->Sto->Option (Int×Int×Int×Sto)
 |_,[],σ=>some (0,0,0,σ)
 |0,_::_,_=>none
 |n+1,p::stk,σ=>match zXk lim p stk σ with
  | .go stk' σ'=>runS lim n stk' σ'
  | .stop l r e σ'=>some (l,r,e,σ')
end
section
structure GoodS (σ:Sto):Prop where
 si:SI σ.L σ.rd
 lv:∀n,σ.L.st.kind n=6->0<=(σ.L.st.nd n).level
theorem GoodS.mark{σ:Sto}(h:GoodS σ)(n:Nat):GoodS (σ.mark n):=⟨h.si.mark _,by
 intro m;show(mkL _ _ _).st.kind m=6->0<=((mkL _ _ _).st.nd m).level
 rw[zPY];exact h.lv m⟩
theorem GoodS.low{σ:Sto}(h:GoodS σ){n:Nat}(hn:n<σ.L.length){lv:Int}(hl:0<=lv):GoodS (σ.low n lv):=by
 obtain⟨h1,h2⟩:=h.si.low hn lv
 refine⟨h1,fun m hm=> ?_⟩
 have hm':σ.L.st.kind m=6:=by
  have:=h2.kind m
  rw[<-this];exact hm
 have h0:=h.lv m hm'
 show 0<=((lowL _ _ _).st.nd m).level
 rw[zNu _ _ (fun x hx=>by
  have:=zad h.si.wf (by rw[Mem.zXR];exact hn) x hx
  rw[zPW];rw[Mem.zXR]at this;exact this.2),zPY]
 split<;>omega
theorem GoodS.link{σ:Sto}(h:GoodS σ){x y:Nat}(hx:x<σ.L.length)(hy:y<σ.L.length)(ex:σ.L.st.root x=x)(ey:σ.L.st.root y=y)(h6:σ.L.st.kind x=6):GoodS (σ.link x y).2:=by
 unfold Sto.link
 split
 ·exact h.mark y
 ·rename_i hn
  have hlx:=h.si.wf.zUK x
  have hly:=h.si.wf.zUK y
  rw[ex]at hlx
  rw[ey]at hly
  obtain⟨hw,h1,h2⟩:=h.si.link hx hy hlx h6 hly hn
  refine⟨h1,fun m hm=> ?_⟩
  have hxs:x<σ.L.st.length:=by rw[Mem.zXR];exact hx
  have e:∀i,((σ.L.st.lk x y).nd i).kind=(σ.L.st.nd i).kind/\((σ.L.st.lk x y).nd i).level=(σ.L.st.nd i).level:=fun i=>by
   rw[St.lk,St.zP0]
   split
   ·rename_i e;rw[e.1];exact⟨rfl,rfl⟩
   ·exact⟨rfl,rfl⟩
  have hm':σ.L.st.kind m=6:=by
   have:=h2.kind m
   rw[St.kind,St.kind,(e m).1]at this
   rw[St.kind,<-this];exact hm
  have h0:=h.lv m hm'
  have hx0:=h.lv x h6
  show 0<=((lowL _ _ _).st.nd m).level
  rw[zNu _ _ (fun z hz=>by
   have:=zad hw (by rw[St.zNZ,Mem.zXR];exact hy) z hz
   rw[zPW,zVT,zPW];rw[St.zNZ,Mem.zXR]at this;exact this.2),zPY,zVV,zPY,(e m).2]
  split<;>omega
theorem GoodS.var{σ:Sto}(h:GoodS σ){lv:Int}(hl:0<=lv):GoodS (σ.var lv):=by
 refine⟨h.si.var lv,fun m hm=> ?_⟩
 have e:(σ.var lv).L.st=σ.L.st++ [⟨6,lv,none,[]⟩]:=by rw[Sto.var,Mem.zXM];rfl
 rw[e]at hm⊢
 by_cases hlt:m<σ.L.st.length
 ·rw[St.kind,St.zPv hlt]at hm
  rw[St.zPv hlt];exact h.lv m hm
 ·by_cases he:m=σ.L.st.length
  ·subst he;rw[St.zPw];exact hl
  ·rw[St.kind,St.zPx (by rw[YAJ];simp only[List.length_cons,List.length_nil];omega)]at hm
   exact absurd hm (by decide)
theorem GoodS.mk'{σ:Sto}(h:GoodS σ){k:Int}{ks:List Nat}(hk:(k=7\/k=9)/\ks.length=2\/k=8/\ks.length=1)(hks:∀a∈ks,a<σ.L.length):GoodS (σ.mk' k ks):=by
 refine⟨h.si.add (.inr ⟨rfl,hk⟩) rfl hks,fun m hm=> ?_⟩
 have e:(σ.mk' k ks).L.st=σ.L.st++ [⟨k,0,none,ks⟩]:=by rw[Sto.mk',Mem.zXM]
 rw[e]at hm⊢
 by_cases hlt:m<σ.L.st.length
 ·rw[St.kind,St.zPv hlt]at hm
  rw[St.zPv hlt];exact h.lv m hm
 ·by_cases he:m=σ.L.st.length
  ·subst he;rw[St.zPw];exact YAQ 0
  ·rw[St.kind,St.zPx (by rw[YAJ];simp only[List.length_cons,List.length_nil];omega)]at hm
   exact absurd hm (by decide)
end
section
structure GrowS (σ σ':Sto) (a b c:Nat):Prop where
 good:GoodS σ'
 len1:σ.L.length<=σ'.L.length
 len2:σ'.L.length<=σ.L.length+a
 rd1:σ.rd<=σ'.rd
 rd2:σ'.rd<=σ.rd+b
 cnt1:σ.cnt<=σ'.cnt
 cnt2:σ'.cnt<=σ.cnt+c
theorem Sto.zO2{σ:Sto}(h:GoodS σ)(n:Nat):GrowS σ (σ.mark n) 0 1 0:=
 ⟨h.mark n,by rw[show(σ.mark n).L.length=σ.L.length from zPW _ _ _];omega,by rw[show(σ.mark n).L.length=σ.L.length from zPW _ _ _];omega,by show σ.rd<=σ.rd+1;omega,by show σ.rd+1<=σ.rd+_;omega,YAQ _,by show σ.cnt<=σ.cnt+_;omega⟩
theorem Sto.zNx{σ:Sto}(h:GoodS σ){n:Nat}(hn:n<σ.L.length){lv:Int}(hl:0<=lv):GrowS σ (σ.low n lv) 0 1 0:=by
 have e:(σ.low n lv).L.length=σ.L.length:=by show(lowL _ _ _).length=_;rw[zNt,zPW]
 exact⟨h.low hn hl,by omega,by omega,by show σ.rd<=σ.rd+1;omega,by show σ.rd+1<=σ.rd+_;omega,YAQ _,by show σ.cnt<=σ.cnt+_;omega⟩
theorem Sto.zNQ{σ:Sto}(h:GoodS σ){x y:Nat}(hx:x<σ.L.length)(hy:y<σ.L.length)(ex:σ.L.st.root x=x)(ey:σ.L.st.root y=y)(h6:σ.L.st.kind x=6):GrowS σ (σ.link x y).2 0 2 0:=by
 have hg:=h.link hx hy ex ey h6
 unfold Sto.link at hg⊢
 split
 ·have:=Sto.zO2 h y
  exact⟨this.good,this.len1,this.len2,this.rd1,by have:=this.rd2;show(σ.mark y).rd<=_;omega,this.cnt1,this.cnt2⟩
 ·rename_i hn
  rw[if_neg hn]at hg
  refine⟨hg,?_,?_,?_,?_,YAQ _,?_⟩
  ·show _<=(zNL _ _ _ _).length;rw[zNM];omega
  ·show(zNL _ _ _ _).length<=_;rw[zNM];omega
  ·show σ.rd<=σ.rd+2;omega
  ·show σ.rd+2<=σ.rd+_;omega
  ·show σ.cnt<=σ.cnt+_;omega
theorem GrowS.trans{σ τ υ:Sto}{a b c a' b' c':Nat}(h:GrowS σ τ a b c)(h':GrowS τ υ a' b' c'):GrowS σ υ (a+a') (b+b') (c+c'):=by
 obtain⟨g,l1,l2,r1,r2,c1,c2⟩:=h
 obtain⟨g',l1',l2',r1',r2',c1',c2'⟩:=h'
 exact⟨g',by omega,by omega,by omega,by push_cast;omega,by omega,by push_cast;omega⟩
theorem GrowS.mono{σ τ:Sto}{a b c a' b' c':Nat}(h:GrowS σ τ a b c)(ha:a<=a')(hb:b<=b')(hc:c<=c'):GrowS σ τ a' b' c':=by
 obtain⟨g,l1,l2,r1,r2,c1,c2⟩:=h
 exact⟨g,l1,by omega,r1,by omega,c1,by omega⟩
theorem Sto.zaR{σ:Sto}(h:GoodS σ){lv:Int}(hl:0<=lv):GrowS σ (σ.var lv) 1 0 1:=by
 have e:(σ.var lv).L.length=σ.L.length+1:=by simp[Sto.var]
 exact⟨h.var hl,by omega,by omega,YAQ _,by show σ.rd<=σ.rd+_;omega,by show σ.cnt<=σ.cnt+1;omega,by show σ.cnt+1<=σ.cnt+_;omega⟩
theorem Sto.zPb{σ:Sto}(h:GoodS σ){k:Int}{ks:List Nat}(hk:(k=7\/k=9)/\ks.length=2\/k=8/\ks.length=1)(hks:∀a∈ks,a<σ.L.length):GrowS σ (σ.mk' k ks) 1 0 1:=by
 have e:(σ.mk' k ks).L.length=σ.L.length+1:=by simp[Sto.mk']
 exact⟨h.mk' hk hks,by omega,by omega,YAQ _,by show σ.rd<=σ.rd+_;omega,by show σ.cnt<=σ.cnt+1;omega,by show σ.cnt+1<=σ.cnt+_;omega⟩
end
section
theorem Wf.zVs{S:St}(h:Wf S){y:Nat}(hy:y<S.length):S.kind y=6/\S.kids y=[]\/(y<5/\S.kind y=y+1/\S.kids y=[])\/(S.kind y=8/\∃a,S.kids y=[a])\/((S.kind y=7\/S.kind y=9)/\∃a b,S.kids y=[a,b]):=by
 by_cases h5:y<5
 ·right;left
  refine⟨h5,?_,?_⟩
  ·rw[St.kind,h.leaf y h5]
  ·rw[St.kids,h.leaf y h5]
 ·rcases h.node y (by omega) hy with hk|⟨_,hk|hk⟩
  ·exact .inl hk
  ·right;right;right
   refine⟨hk.1,?_⟩
   have:=hk.2
   rcases e:S.kids y with _|⟨a,_|⟨b,_|⟨c,l⟩⟩⟩<;>simp[St.kids]at e<;>rw[e]at this<;>simp at this
   exact⟨a,b,rfl⟩
  ·right;right;left
   refine⟨hk.1,?_⟩
   have:=hk.2
   rcases e:S.kids y with _|⟨a,_|⟨b,l⟩⟩<;>simp[St.kids]at e<;>rw[e]at this<;>simp at this
   exact⟨a,rfl⟩
theorem Sto.zO1(σ:Sto)(n k:Nat):((σ.mark n).mark k).L.st=σ.L.st:=by
 show(mkL (mkL _ _ _) _ _).st=_
 rw[zPY,zPY]
theorem Sto.zO0(σ:Sto)(n:Nat):(σ.mark n).L.st=σ.L.st:=zPY _ _ _
theorem Sto.zOz(σ:Sto)(n:Nat):(σ.mark n).L.length=σ.L.length:=zPW _ _ _
theorem Sto.zaS(σ:Sto)(lv:Int):(σ.var lv).L.length=σ.L.length+1:=by simp[Sto.var]
theorem Sto.zPc(σ:Sto)(k:Int)(ks:List Nat):(σ.mk' k ks).L.length=σ.L.length+1:=by simp[Sto.mk']
def Ext0(σ τ:Sto):Prop:=σ.L.st.length<=τ.L.st.length/\∀x,x<σ.L.st.length->τ.L.st.root x=σ.L.st.root x/\τ.L.st.nd x=σ.L.st.nd x
theorem Ext0.app{σ τ υ:Sto}(h:Ext0 σ τ){d:Nd}(e:υ.L.st=τ.L.st++ [d])(hd:d.link=none)(hw:Wf τ.L.st)(hw':Wf υ.L.st):Ext0 σ υ:=by
 rw[e]at hw'
 refine⟨by rw[e,YAJ];have:=h.1;omega,fun x hx=> ?_⟩
 have hx':=YAW hx h.1
 rw[e,hw.zUF hw' hd x hx',St.zPv hx']
 exact h.2 x hx
theorem Ext0.var{σ τ:Sto}(h:Ext0 σ τ)(lv:Int)(hw:Wf τ.L.st)(hw':Wf (τ.var lv).L.st):Ext0 σ (τ.var lv):=
 h.app (d:=⟨6,lv,none,[]⟩) (by rw[Sto.var,Mem.zXM];rfl) rfl hw hw'
theorem Ext0.mk'{σ τ:Sto}(h:Ext0 σ τ)(k:Int)(ks:List Nat)(hw:Wf τ.L.st)(hw':Wf (τ.mk' k ks).L.st):Ext0 σ (τ.mk' k ks):=
 h.app (d:=⟨k,0,none,ks⟩) (by rw[Sto.mk',Mem.zXM]) rfl hw hw'
theorem Ext0.kind{σ τ:Sto}(h:Ext0 σ τ){x:Nat}(hx:x<σ.L.st.length):τ.L.st.root x=σ.L.st.root x/\τ.L.st.kind x=σ.L.st.kind x:=
 ⟨(h.2 x hx).1,by rw[St.kind,(h.2 x hx).2];rfl⟩
theorem Ext0.zPe{σ τ:Sto}(h:Ext0 σ τ)(k:Int)(ks:List Nat):(τ.mk' k ks).L.st.root τ.L.length=τ.L.length:=by
 have e:(τ.mk' k ks).L.st=τ.L.st++ [⟨k,0,none,ks⟩]:=by rw[Sto.mk',Mem.zXM]
 have:=zUN (S:=τ.L.st) (x:=⟨k,0,none,ks⟩) rfl
 rw[Mem.zXR]at this
 rw[e];exact this
theorem Sto.zDH{σ:Sto}(h:GoodS σ){lim:Int}{x y:Nat}(hx:x<σ.L.length)(hy:y<σ.L.length)(ex:σ.L.st.root x=x)(ey:σ.L.st.root y=y)(h6:σ.L.st.kind x=6):GrowS σ (σ.become lim x y).2.2 3 4 3:=by
 have g1:=Sto.zO2 h y
 have g2:=g1.trans (Sto.zO2 g1.good y)
 have hl:=h.lv x h6
 unfold Sto.become
 split
 ·exact(Sto.zNQ h hx hy ex ey h6).mono (by omega) (by omega) (by omega)
 split
 ·exact(g1.trans (Sto.zNQ g1.good (by rw[Sto.zOz];exact hx) (by rw[Sto.zOz];exact hy) (by rw[Sto.zO0];exact ex) (by rw[Sto.zO0];exact ey) (by rw[Sto.zO0];exact h6))).mono (by omega) (by omega) (by omega)
 split
 ·exact g2.mono (by omega) (by omega) (by omega)
 have g3:=g2.trans (Sto.zaR g2.good hl)
 have g4:=g3.trans (Sto.zaR g3.good hl)
 have e2:((σ.mark y).mark y).L.length=σ.L.length:=by rw[Sto.zOz,Sto.zOz]
 have l3:(((σ.mark y).mark y).var (σ.L.st.nd x).level).L.length=σ.L.length+1:=by rw[Sto.zaS,e2]
 have l4:((((σ.mark y).mark y).var (σ.L.st.nd x).level).var (σ.L.st.nd x).level).L.length=σ.L.length+2:=by rw[Sto.zaS,l3]
 have x2:Ext0 σ ((σ.mark y).mark y):=⟨by rw[Sto.zO1];exact YAV _,fun z _=>by rw[Sto.zO1];exact⟨rfl,rfl⟩⟩
 have x3:=x2.var (σ.L.st.nd x).level g2.good.si.wf g3.good.si.wf
 have x4:=x3.var (σ.L.st.nd x).level g3.good.si.wf g4.good.si.wf
 split
 ·rename_i k0 hks
  split
  ·exact g2.mono (by omega) (by omega) (by omega)
  split
  ·exact g3.mono (by omega) (by omega) (by omega)
  have hk:σ.L.st.kind y=8:=by
   rcases h.si.wf.zVs (y:=y) (by rw[Mem.zXR];exact hy)with hk|⟨_,_,hk⟩|⟨hk,_⟩|⟨_,a,b,hk⟩
   ·rw[hk.2]at hks;cases hks
   ·rw[hk]at hks;cases hks
   ·exact hk
   ·rw[hk]at hks;cases hks
  have g5:=g3.trans (Sto.zPb (k:=σ.L.st.kind y) (ks:=[σ.L.length]) g3.good (.inr ⟨hk,rfl⟩) (by intro a ha;simp at ha;omega))
  have x5:=x3.mk' (σ.L.st.kind y) [σ.L.length] g3.good.si.wf g5.good.si.wf
  have q:=x5.kind (x:=x) (by rw[Mem.zXR];exact hx)
  refine(g5.trans (Sto.zNQ g5.good (by rw[Sto.zPc,l3];omega) (by rw[Sto.zPc,l3];omega) (by rw[q.1];exact ex) ?_ (by rw[q.2];exact h6))).mono (by omega) (by omega) (by omega)
  have:=x3.zPe (σ.L.st.kind y) [σ.L.length]
  rwa[l3]at this
 ·rename_i k0 k1 hks
  split
  ·exact g2.mono (by omega) (by omega) (by omega)
  split
  ·exact g3.mono (by omega) (by omega) (by omega)
  split
  ·exact g4.mono (by omega) (by omega) (by omega)
  have hk:σ.L.st.kind y=7\/σ.L.st.kind y=9:=by
   rcases h.si.wf.zVs (y:=y) (by rw[Mem.zXR];exact hy)with hk|⟨_,_,hk⟩|⟨_,a,hk⟩|⟨hk,_⟩
   ·rw[hk.2]at hks;cases hks
   ·rw[hk]at hks;cases hks
   ·rw[hk]at hks;cases hks
   ·exact hk
  have g5:=g4.trans (Sto.zPb (k:=σ.L.st.kind y) (ks:=[σ.L.length,σ.L.length+1]) g4.good (.inl ⟨hk,rfl⟩) (by intro a ha;simp at ha;omega))
  have x5:=x4.mk' (σ.L.st.kind y) [σ.L.length,σ.L.length+1] g4.good.si.wf g5.good.si.wf
  have q:=x5.kind (x:=x) (by rw[Mem.zXR];exact hx)
  refine(g5.trans (Sto.zNQ g5.good (by rw[Sto.zPc,l4];omega) (by rw[Sto.zPc,l4];omega) (by rw[q.1];exact ex) ?_ (by rw[q.2];exact h6))).mono (by omega) (by omega) (by omega)
  have:=x4.zPe (σ.L.st.kind y) [σ.L.length,σ.L.length+1]
  rwa[l4]at this
 ·exact⟨h,YAV _,by show σ.L.length<=_;omega,YAQ _,by show σ.rd<=_;omega,YAQ _,by show σ.cnt<=_;omega⟩
end
section
theorem Sto.zNP{σ:Sto}(h:GoodS σ){x y:Nat}(hx:x<σ.L.length)(hy:y<σ.L.length)(ex:σ.L.st.root x=x)(ey:σ.L.st.root y=y)(h6:σ.L.st.kind x=6)(hxy:y≠x)(hn:x ∉ σ.L.st.all y):
 (σ.link x y).1=0/\(∀n,(σ.link x y).2.L.st.root n=if σ.L.st.root n=x then y else σ.L.st.root n)/\(∀n,(σ.link x y).2.L.st.kids n=σ.L.st.kids n)/\(∀n,(σ.link x y).2.L.st.kind n=σ.L.st.kind n):=by
 have hlx:=h.si.wf.zUK x
 have hly:=h.si.wf.zUK y
 rw[ex]at hlx
 rw[ey]at hly
 obtain⟨hw,h1,h2⟩:=h.si.link hx hy hlx h6 hly hn
 have hxs:x<σ.L.st.length:=by rw[Mem.zXR];exact hx
 unfold Sto.link
 rw[if_neg hn]
 refine⟨rfl,fun n=> ?_,fun n=> ?_,fun n=> ?_⟩
 ·show(zNL _ _ _ _).st.root n=_
  rw[h2.root n,h.si.wf.zUL hw hxs hlx hly hxy n]
 ·show(zNL _ _ _ _).st.kids n=_
  rw[h2.kids n,St.kids,St.zPy hxs]
  split
  ·rename_i e;subst e;rfl
  ·rfl
 ·show(zNL _ _ _ _).st.kind n=_
  rw[h2.kind n,St.kind,St.zPy hxs]
  split
  ·rename_i e;subst e;rfl
  ·rfl
theorem Sto.zNR{σ:Sto}{x y:Nat}(h:(σ.link x y).1=0):x ∉ σ.L.st.all y:=fun hn=>by
 unfold Sto.link at h
 rw[if_pos hn]at h
 exact absurd (show(5:Int)=0 from h) (by decide)
theorem Ext0.kids{σ τ:Sto}(h:Ext0 σ τ){x:Nat}(hx:x<σ.L.st.length):τ.L.st.kids x=σ.L.st.kids x:=by rw[St.kids,(h.2 x hx).2];rfl
theorem Sto.zPd(τ:Sto)(k:Int)(ks:List Nat):(τ.mk' k ks).L.st.kids τ.L.length=ks/\(τ.mk' k ks).L.st.kind τ.L.length=k:=by
 have e:(τ.mk' k ks).L.st=τ.L.st++ [⟨k,0,none,ks⟩]:=by rw[Sto.mk',Mem.zXM]
 rw[e,St.kids,St.kind,<-Mem.zXR τ.L,St.zPw]
 exact⟨rfl,rfl⟩
theorem Sto.zQA{σ τ:Sto}{x y k:Nat}{ks:List Nat}{kd:Int}(hx:x<σ.L.length)(hy:y<σ.L.length)(ex:σ.L.st.root x=x)(ey:σ.L.st.root y=y)(h6:σ.L.st.kind x=6)(hxy:y≠x)
 (hg:GoodS (τ.mk' kd ks)) (x5:Ext0 σ (τ.mk' kd ks)) (x4:Ext0 σ τ) (hle:σ.L.length<=τ.L.length) (hl:((τ.mk' kd ks).link x τ.L.length).1=0):
 (((τ.mk' kd ks).link x τ.L.length).2.L.st.root τ.L.length=τ.L.length/\((τ.mk' kd ks).link x τ.L.length).2.L.st.root y=y)/\
 (((τ.mk' kd ks).link x τ.L.length).2.L.st.kids τ.L.length=ks/\((τ.mk' kd ks).link x τ.L.length).2.L.st.kids y=σ.L.st.kids y):=by
 have hn:=Sto.zNR hl
 have hx':x<σ.L.st.length:=by rw[Mem.zXR];exact hx
 have hy':y<σ.L.st.length:=by rw[Mem.zXR];exact hy
 have em:=x4.zPe kd ks
 have q:=Sto.zNP hg (x:=x) (y:=τ.L.length) (by rw[Sto.zPc];omega) (by rw[Sto.zPc];omega) (by rw[(x5.kind hx').1];exact ex) em (by rw[(x5.kind hx').2];exact h6) (by omega) hn
 obtain⟨_,q1,q2,_⟩:=q
 refine⟨⟨?_,?_⟩,?_,?_⟩
 ·rw[q1,em,if_neg (by omega)]
 ·rw[q1,(x5.kind hy').1,ey,if_neg hxy]
 ·rw[q2];exact(τ.zPd kd ks).1
 ·rw[q2];exact x5.kids hy'
end
section
structure CopyS (σ σ':Sto) (y m:Nat):Prop where
 rm:σ'.L.st.root m=m
 ry:σ'.L.st.root y=y
 ky:σ'.L.st.kids y=σ.L.st.kids y
 km:(σ'.L.st.kids m).length=(σ.L.st.kids y).length
 lo:1<=(σ.L.st.kids y).length
 hi:(σ.L.st.kids y).length<=2
 lt:m<σ'.L.length
theorem Sto.zDO{σ:Sto}(h:GoodS σ){lim:Int}{x y:Nat}(hx:x<σ.L.length)(hy:y<σ.L.length)(ex:σ.L.st.root x=x)(ey:σ.L.st.root y=y)(h6:σ.L.st.kind x=6)(hxy:y≠x){m:Nat}(hm:(σ.become lim x y).1=some m)(he:(σ.become lim x y).2.1=0):
 CopyS σ (σ.become lim x y).2.2 y m:=by
 have hG:=(Sto.zDH h (lim:=lim) hx hy ex ey h6).good
 have g1:=Sto.zO2 h y
 have g2:=g1.trans (Sto.zO2 g1.good y)
 have hl:=h.lv x h6
 have g3:=g2.trans (Sto.zaR g2.good hl)
 have g4:=g3.trans (Sto.zaR g3.good hl)
 have e2:((σ.mark y).mark y).L.length=σ.L.length:=by rw[Sto.zOz,Sto.zOz]
 have l3:(((σ.mark y).mark y).var (σ.L.st.nd x).level).L.length=σ.L.length+1:=by rw[Sto.zaS,e2]
 have l4:((((σ.mark y).mark y).var (σ.L.st.nd x).level).var (σ.L.st.nd x).level).L.length=σ.L.length+2:=by rw[Sto.zaS,l3]
 have x2:Ext0 σ ((σ.mark y).mark y):=⟨by rw[Sto.zO1];exact YAV _,fun z _=>by rw[Sto.zO1];exact⟨rfl,rfl⟩⟩
 have x3:=x2.var (σ.L.st.nd x).level g2.good.si.wf g3.good.si.wf
 have x4:=x3.var (σ.L.st.nd x).level g3.good.si.wf g4.good.si.wf
 unfold Sto.become at hm he hG⊢
 split at hm
 ·cases hm
 rename_i c1
 rw[if_neg c1]at he hG⊢
 split at hm
 ·cases hm
 rename_i c2
 rw[if_neg c2]at he hG⊢
 split at hm
 ·cases hm
 rename_i c3
 rw[if_neg c3]at he hG⊢
 rcases h.si.wf.zVs (y:=y) (by rw[Mem.zXR];exact hy)with hk|⟨_,_,hk⟩|⟨hk,a,hks⟩|⟨hk,a,b,hks⟩
 ·exact absurd hk.1 c1
 ·rw[hk]at hm;cases hm
 ·rw[hks]at hm he hG⊢
  simp only at hm he hG⊢
  split at hm
  ·cases hm
  rename_i d1
  rw[if_neg d1]at he hG⊢
  split at hm
  ·cases hm
  rename_i d2
  rw[if_neg d2]at he hG⊢
  simp only[YAM]at hm
  subst hm
  have g5:=g3.trans (Sto.zPb (k:=σ.L.st.kind y) (ks:=[σ.L.length]) g3.good (.inr ⟨hk,rfl⟩) (by intro a ha;simp at ha;omega))
  have x5:=x3.mk' (σ.L.st.kind y) [σ.L.length] g3.good.si.wf g5.good.si.wf
  have q:=Sto.zQA (k:=0) hx hy ex ey h6 hxy g5.good x5 x3 (by omega) (by rw[l3];exact he)
  rw[l3]at q
  have gl:=(Sto.zNQ g5.good (x:=x) (y:=σ.L.length+1) (by rw[Sto.zPc,l3];omega) (by rw[Sto.zPc,l3];omega) (by rw[(x5.kind (by rw[Mem.zXR];exact hx)).1];exact ex) (by have:=x3.zPe (σ.L.st.kind y) [σ.L.length];rwa[l3]at this) (by rw[(x5.kind (by rw[Mem.zXR];exact hx)).2];exact h6)).len1
  rw[Sto.zPc,l3]at gl
  exact⟨q.1.1,q.1.2,q.2.2.trans rfl,by rw[q.2.1,hks];rfl,by rw[hks];simp,by rw[hks];simp,by simp only;omega⟩
 ·rw[hks]at hm he hG⊢
  simp only at hm he hG⊢
  split at hm
  ·cases hm
  rename_i d1
  rw[if_neg d1]at he hG⊢
  split at hm
  ·cases hm
  rename_i d2
  rw[if_neg d2]at he hG⊢
  split at hm
  ·cases hm
  rename_i d3
  rw[if_neg d3]at he hG⊢
  simp only[YAM]at hm
  subst hm
  have g5:=g4.trans (Sto.zPb (k:=σ.L.st.kind y) (ks:=[σ.L.length,σ.L.length+1]) g4.good (.inl ⟨hk,rfl⟩) (by intro a ha;simp at ha;omega))
  have x5:=x4.mk' (σ.L.st.kind y) [σ.L.length,σ.L.length+1] g4.good.si.wf g5.good.si.wf
  have q:=Sto.zQA (k:=0) hx hy ex ey h6 hxy g5.good x5 x4 (by omega) (by rw[l4];exact he)
  rw[l4]at q
  have gl:=(Sto.zNQ g5.good (x:=x) (y:=σ.L.length+2) (by rw[Sto.zPc,l4];omega) (by rw[Sto.zPc,l4];omega) (by rw[(x5.kind (by rw[Mem.zXR];exact hx)).1];exact ex) (by have:=x4.zPe (σ.L.st.kind y) [σ.L.length,σ.L.length+1];rwa[l4]at this) (by rw[(x5.kind (by rw[Mem.zXR];exact hx)).2];exact h6)).len1
  rw[Sto.zPc,l4]at gl
  exact⟨q.1.1,q.1.2,q.2.2.trans rfl,by rw[q.2.1,hks];rfl,by rw[hks];simp,by rw[hks];simp,by simp only;omega⟩
end
end Go.Proofs.YtdngjamjccjlmaaGreat
