/- Lemmas: loops known less well. No condition. -/
import Derived.Test.YtmpegnogdgbleaaPAc
section
/- A loop whose state may be known less well at each round: of a box, too, what is known of its slices' room is forgotten. Conditions stand ahead of each part. -/
set_option linter.unusedSimpArgs false
set_option linter.unusedVariables false
namespace Go.Ab
open Go
open Go.RowKit (Below)
structure Wider (s s':AState):Prop where
 n:s'.n=s.n
 b:s'.b=s.b
 rel:∀V a w,Rel V a w s->∃V',V.LeB s.b V'/\Rel V' a w s'
theorem Weak.wider{s s':AState}(h:Weak s s'):Wider s s':=⟨h.n,h.b,fun _ _ _ hr=>hr.weak h⟩
theorem Wider.trans{s s' s2:AState}(h:Wider s s')(k:Wider s' s2):Wider s s2:=
 ⟨k.n.trans h.n,k.b.trans h.b,fun V a w hr=>by
  obtain⟨V1,h1,hr1⟩:=h.rel V a w hr
  obtain⟨V2,h2,hr2⟩:=k.rel V1 a w hr1
  exact⟨V2,h1.trans (by rw[<-h.b];exact h2),hr2⟩⟩
section
variable {P : Program} {C : Cfg} {K : Exit -> AState -> Prop} {k : List KI} {s : AState}
theorem zAB.wider{b:Code}{Q:Exit->AState->Prop}{s':AState}(h:Wider s s')(k:zAB P b Q s'):zAB P b Q s:=by
 intro V a w hr bf kk cs
 obtain⟨V1,h1,hr1⟩:=h.rel V a w hr
 obtain⟨e,a',w',⟨V',s'',g1,g2,g3,g4,g5,g6⟩,harr⟩:=k V1 a w hr1 bf kk cs
 exact⟨e,a',w',⟨V',s'',h1.trans (by rw[<-h.b];exact g1),by rw[<-h1.base];exact g2,g3,g4.trans h.n,g5.trans h.b,g6⟩,harr⟩
theorem zrO{ι:Type}(S:ι->AState)(I:ι->Prop)(μ:ι->Nat){b:Code}(hC:zAb P C)(x:ι)(hx:I x)(hs:Wider s (S x))(hok:zFG s.n b=true)
 (h:∀x,I x->Go P C (zFW (Un P C K k) fun s'=>∃y,I y/\μ y<μ x/\Wider s' (S y)) [.code b] (S x)):zAB P b (Un P C K k) s:=by
 have key:∀m x,μ x=m->I x->(S x).n=s.n->zAB P b (Un P C K k) (S x):=by
  intro m
  induction m using Nat.strongRecOn with
  |_ m ih=>
   intro x hm hx hn
   refine zCM ((zBH hC zEA s.n b hok hn (h x hx)).mono fun e s' hs' _ hq=> ?_)
   cases e with
   |normal=>
    obtain⟨y,hy1,hy2,hy3⟩:=hq
    exact zAB.wider hy3 (ih (μ y) (by omega) y rfl hy1 (by rw[hy3.n,hs',hn]))
   |_=>exact hq
 exact zAB.wider hs (key _ x rfl hx hs.n)
end
section
variable {P : Program} {C : Cfg} {K : Exit -> AState -> Prop} {k : List KI} {e : Nat -> AV} {F : List AObj} {b n : Nat}
theorem zrN{ι:Type}(m:Nat)(chg:ι->List (Nat×AV))(Fx:ι->List AObj)(I:ι->Prop)(μ:ι->Nat){l:List (Nat×AV)}{c:Code}(hC:zAb P C)(x:ι)(h0:chg x=l.take m)(hF:Fx x=F)(hx:I x)
 (hok:zFG n c=true)
 (h:∀x,I x->Go P C (zFW (Un P C K k) fun s'=>∃y,I y/\μ y<μ x/\Wider s' (FS (envL (chg y++l.drop m)) (Fx y) b n)) [.code c] (FS (envL (chg x++l.drop m)) (Fx x) b n)):
 zAB P c (Un P C K k) (FS (envL l) F b n):=by
 refine zrO (s:=FS (envL l) F b n) (fun x=>FS (envL (chg x++l.drop m)) (Fx x) b n) I μ hC x hx ?_ hok h
 rw[h0,hF,List.take_append_drop]
 exact Weak.wider ⟨rfl,rfl,rfl,by simp,fun t=> .inr (.inl rfl),.inl rfl⟩
theorem ztE{r:Nat}{cs cs':List AV}(hr:F[r]?=some (.box cs))(hb:b<=r)(hl:cs'.length=cs.length)(hw:∀i:Nat,cs'.getD i .any=cs.getD i .any\/cs'.getD i .any=(cs.getD i .any).norm):Wider (FS e F b n) (FS e (F.set r (.box cs')) b n):=by
 have hrl:=zIc hr
 refine⟨rfl,rfl,fun V a w h=>⟨V,.refl _ V,?_⟩⟩
 have hbl:b<=F.length:=by omega
 have hH:(F.set r (.box cs')).take b=F.take b:=List.take_set_of_le hb
 have hobj0:∀q,(FS e F b n).obj q=F[q]?:=fun q=>by
  show(if q<b then(F.take b)[q]? else(F.drop b)[q-b]?)=_
  split
  ·rename_i h1;rw[List.getElem?_take_of_lt h1]
  ·rename_i h1;rw[List.getElem?_drop];congr 1;omega
 have hobj1:∀q,(FS e (F.set r (.box cs')) b n).obj q=(F.set r (.box cs'))[q]?:=fun q=>by
  show(if q<b then((F.set r (.box cs')).take b)[q]? else((F.set r (.box cs')).drop b)[q-b]?)=_
  split
  ·rename_i h1;rw[List.getElem?_take_of_lt h1]
  ·rename_i h1;rw[List.getElem?_drop];congr 1;omega
 have hcase:∀q y,(F.set r (.box cs'))[q]?=some y->(q=r/\y= .box cs')\/(q≠r/\F[q]?=some y):=by
  intro q y hy
  by_cases eq:q=r
  ·subst eq;rw[zVl hrl]at hy;exact .inl ⟨rfl,(Option.some.inj hy).symm⟩
  ·rw[zVk (fun h=>eq h.symm)]at hy;exact .inr ⟨eq,hy⟩
 obtain⟨g1,g2,g3,g4,g5,g6⟩:=h
 have e0:(FS e F b n).obj=fun q=>F[q]?:=funext hobj0
 rw[e0]at g3
 refine⟨by show b=((F.set r (.box cs')).take b).length;rw[hH];exact g1,fun x hx=>g2 x (by have hx:x∈(F.set r (.box cs')).take b:=hx;rw[hH]at hx;exact hx),?_,g4,g5,g6⟩
 rw[show(FS e (F.set r (.box cs')) b n).obj=fun q=>(F.set r (.box cs'))[q]? from funext hobj1]
 refine⟨g3.base,g3.imm,fun q m y hy=> ?_,fun q y hy=> ?_,fun i j y z bb hy hz h1 h2=> ?_⟩
 ·have:=g3.dom q m y hy
  simp only[List.getElem?_set]
  split
  ·first|rfl|(split<;>first|rfl|(simp_all;done))
  ·exact this
 ·rcases hcase q y hy with ⟨rfl,rfl⟩|⟨_,hy2⟩
  ·obtain⟨blk,c,cells,ty,k1,k2,k3,k4,k5,k6⟩:=g3.objs _ _ hr
   refine⟨blk,c,cells,ty,k1,k2,k3,by rw[hl];exact k4,fun i hi=> ?_,k6⟩
   have:=k5 i (by omega)
   rcases hw i with e1|e1<;>rw[e1]
   ·exact this
   ·exact this.normed
  ·exact g3.objs q y hy2
 ·have ho:own V r (.box cs')=own V r (.box cs):=rfl
  rcases hcase i y hy with ⟨rfl,rfl⟩|⟨n1,hy2⟩<;>rcases hcase j z hz with ⟨e3,e4⟩|⟨n2,hz2⟩
  ·exact e3.symm
  ·exact g3.sep _ _ _ _ bb hr hz2 h1 h2
  ·subst e3;subst e4;exact g3.sep _ _ _ _ bb hy2 hr h1 h2
  ·exact g3.sep _ _ _ _ bb hy2 hz2 h1 h2
end
end Go.Ab
end
