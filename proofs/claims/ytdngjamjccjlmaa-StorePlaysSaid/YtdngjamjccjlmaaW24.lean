/- Walks: the store: a copy with other nodes for variables. No condition. -/
import Derived.Test.YtdngjamjccjlmaaW23
set_option linter.unusedSimpArgs false
set_option linter.unusedVariables false
set_option maxHeartbeats 4000000
set_option maxRecDepth 100000
namespace Go.Proofs.Ytdngjamjccjlmaa
open Go Go.Ab
open Nat renaming reduceEqDiff -> yA, reduceAdd -> yB, reduceLT -> yC, reduceLeDiff -> yD, reduceMul -> yE, reducePow -> yF
open AV renaming belL -> yO, bel -> yN, normL -> yQ, norm -> yP
open AObj renaming bel -> yR
attribute [local irreducible] zA0 zAA zAa zAi zAj GoIf GoGb zAk GoO GoD GoX GoDX GoG GoDG GoGv zAl Go zAB
def toM(fr tt:List Nat):List (Int×Int):=(fr.zip tt).map fun p=>((p.1:Int),(p.2:Int))
theorem zqC(fr tt:List Nat)(h:fr.length=tt.length):(toM fr tt).map Prod.fst=kidI fr:=by
 simp only[toM,kidI,List.map_map]
 have e:(Prod.fst ∘ fun p:Nat×Nat=>((p.1:Int),(p.2:Int)))=(fun k:Nat=>(k:Int)) ∘ Prod.fst:=rfl
 rw[e,<-List.map_map,List.map_fst_zip (by omega)]
theorem zqB{fr tt:List Nat}(h:fr.length=tt.length){k x:Int}(hg:mget (toM fr tt) k=some x):∃i,i<fr.length/\k=(fr.getD i 0:Nat)/\x=(tt.getD i 0:Nat):=by
 have:∀(Z:List (Int×Int)),mget Z k=some x->(k,x)∈Z:=by
  intro Z
  induction Z with
  |nil=>intro h;cases h
  |cons p Z ih=>
   obtain⟨a,b⟩:=p
   intro h
   rw[mget]at h
   split at h
   ·rename_i e;cases h;subst e;exact YAU
   ·exact YAT _ (ih h)
 have hm:=this _ hg
 obtain⟨p,hp,e⟩:=List.mem_map.1 hm
 obtain⟨i,hi,rfl⟩:=List.mem_iff_getElem.1 hp
 simp only[List.length_zip]at hi
 simp only[List.getElem_zip,YAY]at e
 exact⟨i,by omega,by rw[<-e.1];simp[show i<fr.length by omega],by rw[<-e.2];simp[show i<tt.length by omega]⟩
theorem zqD{fr tt:List Nat}(h:fr.length=tt.length)(hn:fr.Nodup){i:Nat}(hi:i<fr.length):
 mget (toM (fr.take i) (tt.take i)) (fr.getD i 0:Nat)=none/\mput (toM (fr.take i) (tt.take i)) (fr.getD i 0:Nat) (tt.getD i 0:Nat)=toM (fr.take (i+1)) (tt.take (i+1)):=by
 have h1:mget (toM (fr.take i) (tt.take i)) (fr.getD i 0:Nat)=none:=by
  refine Option.not_isSome_iff_eq_none.1 fun hs=> ?_
  have hk:=(zoo _ _).1 hs
  rw[zqC _ _ (by simp;omega)]at hk
  have hk:=zPF.1 hk
  obtain⟨j,hj,e⟩:=List.mem_iff_getElem.1 hk
  simp only[List.length_take]at hj
  rw[List.getElem_take]at e
  have e2:fr.getD i 0=fr[i]:=by simp[hi]
  rw[e2]at e
  have e3:=hn.idxOf_getElem i hi
  rw[<-e,hn.idxOf_getElem j (by omega)]at e3
  omega
 refine⟨h1,?_⟩
 rw[zor _ _ _ h1]
 have hi2:i<tt.length:=by omega
 simp only[toM,List.take_add_one,YAI hi,YAI hi2,Option.toList_some]
 rw[List.zip_append (by simp;omega),List.map_append]
 simp[hi,hi2]
def cntH(S:St)(to:List (Int×Int))(ks:List Nat):Nat:=ks.countP fun x=>decide (S.kind x≠6)&&hld S to x
section
variable {s r v c m1 m2 m3 : Nat} {L : Mem} {lim cnt rd : Int} {S : St} {to : List (Int × Int)}
theorem zoW(hS:Sm S L)(h12:m1≠m2):∀(ks:List Nat),(∀k∈ks,k<S.length/\S.root k=k)->∀Z,VH S to Z->∃Zs:Nat->List (Int×Int),Zs 0=Z/\(∀i,i<=ks.length->VH S to (Zs i))/\
 ∀i,i<ks.length->(S.kind (ks.getD i 0)=6->Zs (i+1)=Zs i)/\(S.kind (ks.getD i 0)≠6->∀F:List AObj,F[c]?=some (cpB s m1 m2 m3)->F[s]?=some (bxS r v L.length lim cnt rd)->F[r]?=some (arS v L)->F[m1]?=some (.map (embM to))->F[m2]?=some (.map (embM (Zs i)))->
  DCalls Try.prog 92 [.bptr c 0,.int .i64 (ks.getD i 0:Nat)] F (.bool (hld S to (ks.getD i 0))) (F.set m2 (.map (embM (Zs (i+1))))))
 | [],_,Z,hZ=>⟨fun _=>Z,rfl,fun _ _=>hZ,fun i hi=>by simp at hi⟩
 |k::ks,h,Z,hZ=>by
  obtain⟨hk,hr⟩:=h k YAU
  obtain⟨Z1,hZ1,q1⟩:=zoY (s:=s) (r:=r) (v:=v) (c:=c) (m1:=m1) (m2:=m2) (m3:=m3) (L:=L) (lim:=lim) (cnt:=cnt) (rd:=rd) (to:=to) hS h12 k hk Z hZ
  rw[hr]at q1
  have hZ2:VH S to (if S.kind k=6 then Z else Z1):=by split;exact hZ;exact hZ1
  obtain⟨Zs,e0,e1,e2⟩:=zoW hS h12 ks (fun x hx=>h x (YAT _ hx)) _ hZ2
  refine⟨fun i=>match i with|0=>Z|i+1=>Zs i,rfl,fun i hi=> ?_,fun i hi=> ?_⟩
  ·cases i with
   |zero=>exact hZ
   |succ i=>exact e1 i (by simpa using hi)
  ·cases i with
   |zero=>
    refine⟨fun h6=> ?_,fun h6=> ?_⟩
    ·have h6:S.kind k=6:=h6
     simp only[e0,if_pos h6]
    ·have h6:¬S.kind k=6:=h6
     simp only[e0,if_neg h6]
     exact q1
   |succ i=>exact e2 i (by simpa using hi)
end
section
variable {F : List AObj} {s r v : Nat} {L : Mem} {lim cnt rd : Int}
theorem locD{J:List AObj}(hs:s<F.length)(hr:r<F.length)(hne:r≠s)(hJ:4<=J.length):SixD (F++J) s r (F.length+3) F.length (F.length+1) (F.length+2):=
 ⟨by simp;omega,by simp;omega,by simp;omega,by simp;omega,by simp;omega,by simp;omega,⟨fun e=>hne e.symm,by omega,by omega,by omega,by omega⟩,⟨by omega,by omega,by omega,by omega⟩,⟨by omega,by omega,by omega⟩,by omega,by omega,by omega⟩
def cpJ(F:List AObj)(s:Nat)(to Z M:List (Int×Int)):List AObj:=[.map (embM to),.map (embM Z),.map (embM M),.box [.bptr s 0,.mp F.length,.mp (F.length+1),.mp (F.length+2)]]
theorem zob(hs:s<F.length)(hr:r<F.length){to Z M to' Z' M':List (Int×Int)}:hpC (F++cpJ F s to' Z' M') s r (F.length+3) F.length (F.length+1) (F.length+2) v L lim cnt rd to Z M=hpS (F++cpJ F s to Z M) s r v L lim cnt rd:=by
 unfold hpC six hpS cpJ cpB
 congr 1
 rw[zCY rfl,zCX rfl,zCY rfl,zCY rfl]
 rfl
end
end Go.Proofs.Ytdngjamjccjlmaa
