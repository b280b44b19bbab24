/- Lemmas: a variable becomes a node, first part. No condition. -/
import Derived.Test.YtdngjamjccjlmaaGreatPWb
import Derived.Test.YtdngjamjccjlmaaGreatPNa
import Derived.Test.YtdngjamjccjlmaaGreatPWa
set_option linter.unusedSimpArgs false
set_option linter.unusedVariables false
set_option maxHeartbeats 4000000
set_option maxRecDepth 100000
namespace Go.Proofs.YtdngjamjccjlmaaGreat
open Go Go.Ab
open Nat renaming reduceEqDiff -> yA, reduceAdd -> yB, reduceLT -> yC, reduceLeDiff -> yD, reduceMul -> yE, reducePow -> yF
open AV renaming bel -> yN, normL -> yQ, norm -> yP, belL -> yO
open Int renaming reduceAdd -> yH, reduceLT -> yI, reduceBEq -> yK, reduceLE -> yM
attribute [local irreducible] zA0 zAA zAa zAi zAj GoIf GoGb zAk GoO GoD GoX GoDX GoG GoDG GoGv zAl Go zAB
section
theorem zEs(x:Int)(l:List Int)(hl:l.length<=1000000):zA0 Tryz.prog 73 [.sl ((x::l).map I64) .no] (.sl ((x::l).map I64) .no):=by
 have hb:(AV.sl ((x::l).map I64) .no).bel 0=true:=by simp only[yN,zLy,Bool.and_self]
 have r1:(l.length+1<=9223372036854775807)=True:=by simp only[YAb,iff_true];omega
 have r2:((l.length+1)*8<=140737488355328)=True:=by simp only[YAb,iff_true];omega
 have ha:=zCE (x::l)
 have hn:=zLz (x::l)
 simp only[List.map_cons]at hb ha hn⊢
 refine zSa C_ok Tryz.func73 rfl (by decide) (YAL rfl) (by decide) hb fun ok H=> ?_
 rw[Tryz.results73]
 repeat' simp only[↓zaL,WZ,yA,yD,reduceCtorEq,yE,yF,W1,r1,r2,hn]
 exact⟨⟨rfl,rfl⟩,fun a ha=>by obtain⟨z,_,rfl⟩:=List.mem_map.1 ha;exact⟨rfl,rfl⟩⟩
section
variable {F : List AObj} {s r v : Nat} {L : Mem} {lim cnt rd : Int}
theorem zMd(hs:s<F.length)(hr:r<F.length)(hne:r≠s)(hw:Wf L.st)(n:Nat)(hn:n<L.length)(hk2:(L.st.kids (L.st.root n)).length<=1000000)(hk0:L.st.kids (L.st.root n)≠[]):zAd Tryz.prog 41 [.bptr s 0,.int .i64 n] (hpS F s r v L lim cnt rd) (.sl ((kidI (L.st.kids (L.st.root n))).map I64) .no) (hpS F s r v L lim cnt rd):=by
 have q1:=zMI (v:=v) (L:=L) (lim:=lim) (cnt:=cnt) (rd:=rd) hs hr hne hn
 have hrl:L.st.root n<L.length:=by have:=hw.root_lt n (by rw[Mem.zXR];exact hn);rwa[Mem.zXR]at this
 have hk:(L.getD (L.st.root n) default).1.kids=L.st.kids (L.st.root n):=by rw[<-L.nd];rfl
 have q3:zA0 Tryz.prog 73 [.sl ((kidI (L.st.kids (L.st.root n))).map I64) .no] (.sl ((kidI (L.st.kids (L.st.root n))).map I64) .no):=by
  cases hks:L.st.kids (L.st.root n)with
  |nil=>exact absurd hks hk0
  |cons x l=>rw[hks]at hk2;exact zEs x (kidI l) (by rw[zMZ];simp only[List.length_cons]at hk2;omega)
 unfold zAd
 refine eD C_ok Tryz.func41 Tryz.results41 fun ok=> ?_
 repeat' (first
  |((first|apply bG|apply bH);simp only[yP,yQ,zLz];first|refine zIj (q3) (.inl rfl) ?_|refine zIB (q1) (.inl rfl) ?_|refine zIk rfl (zUP (v:=v) (L:=L) (lim:=lim) (cnt:=cnt) (rd:=rd) hs hr hne hw n hn (by simp[stP hs hr hne,bxS,arS])) (.inl rfl) ?_)
  |refine drA C_ok 3 0 ?_
  |skip)<;>simp only[↓zaL,WY,yA,yB,yC,reduceCtorEq,W1,WS,hpS,bxS,arS,stP hs hr hne,zTh,yN,hrl,zOf hrl,zGZ,hk,zLz]
 exact zLy _ _
end
end
section
structure LiveS (σ:Sto):Prop where
 si:SI σ.L σ.rd
 len:σ.L.length<=900000
 rdb:σ.rd<=90000000000
section
variable {F : List AObj} {s r : Nat} {lim : Int}
theorem zNN(hs:s<F.length)(hr:r<F.length)(hne:r≠s){σ:Sto}(h:LiveS σ){x y:Nat}(hx:x<σ.L.length)(hy:y<σ.L.length)(ex:σ.L.st.root x=x)(ey:σ.L.st.root y=y)(h6:σ.L.st.kind x=6)(hxy:x≠y):
 zAd Tryz.prog 103 [.bptr s 0,.int .i64 x,.int .i64 y] (σ.heap F s r lim) (.int .i64 (σ.link x y).1) ((σ.link x y).2.heap F s r lim):=by
 have hL:σ.L.length<=1000000:=by have:=h.len;omega
 have h0:=h.si.rd0
 have h1:=h.rdb
 unfold Sto.link Sto.heap
 by_cases hin:x∈σ.L.st.all y
 ·rw[if_pos hin]
  have q:=zNT (F:=F) (v:=σ.v) (lim:=lim) (cnt:=σ.cnt) hs hr hne h.si.wf h.si.mb hL ⟨h0,by omega⟩ x y hx hy (by rw[ex];exact h6) (by rw[ex,ey];exact hxy) (by rw[ex,ey];exact hin)
  rw[ey]at q
  exact q
 ·rw[if_neg hin]
  have q:=zNU (F:=F) (v:=σ.v) (lim:=lim) (cnt:=σ.cnt) hs hr hne h.si.wf h.si.mb hL ⟨h0,by omega⟩ x y hx hy (by rw[ex];exact h6) (by rw[ex,ey];exact hxy) (by rw[ex,ey];exact hin)
  rw[ex,ey]at q
  exact q
theorem Sto.zO4(σ:Sto)(n:Nat):(σ.mark n).L.st=σ.L.st:=zPY _ _ _
theorem Sto.zO3(σ:Sto)(n:Nat):(σ.mark n).L.length=σ.L.length:=zPW _ _ _
theorem LiveS.mark{σ:Sto}(h:LiveS σ)(hb:σ.rd+1<=90000000000)(n:Nat):LiveS (σ.mark n):=⟨h.si.mark _,by rw[Sto.zO3];exact h.len,hb⟩
theorem LiveS.st{σ:Sto}{n:Nat}:(σ.mark n).L.st=σ.L.st:=zPY _ _ _
theorem zDI(hs:s<F.length)(hr:r<F.length)(hne:r≠s){σ:Sto}(h:LiveS σ){x y:Nat}(hx:x<σ.L.length)(hy:y<σ.L.length)(ex:σ.L.st.root x=x)(ey:σ.L.st.root y=y)(h6:σ.L.st.kind x=6)(hxy:x≠y)(hk:σ.L.st.kind y=6):
 zAd Tryz.prog 95 [.bptr s 0,.int .i64 x,.int .i64 y] (σ.heap F s r lim) (.tup [.int .i64 (-1),.int .i64 (σ.link x y).1]) ((σ.link x y).2.heap F s r lim):=by
 have q1:=zMi (F:=F) (v:=σ.v) (lim:=lim) (cnt:=σ.cnt) (rd:=σ.rd) hs hr hne h.si.wf y hy
 rw[ey,hk]at q1
 have q2:=zNN (lim:=lim) hs hr hne h hx hy ex ey h6 hxy
 have b6:((6:Int)==6)=true:=rfl
 generalize σ.link x y=p at*
 obtain⟨e,σ'⟩:=p
 unfold Sto.heap at q2⊢
 simp only at q2⊢
 unfold zAd
 refine eD C_ok Tryz.func95 Tryz.results95 fun ok=> ?_
 repeat' (first
  |((first|apply bG|apply bH);simp only[yP,yQ];first|refine zIB (q1) (.inl rfl) ?_|refine zIA (q2) (.inl rfl) (fun hb=>zLV (by first|exact hs|simp<;>omega) (by first|exact hr|simp<;>omega) hne hb) ?_)
  |skip)<;>simp only[↓zaL,WY,yA,reduceCtorEq,W1,WS,hpS,bxS,arS,stP hs hr hne,zTh,yN,yO]
theorem zXe(hs:s<F.length)(hr:r<F.length)(hne:r≠s){σ:Sto}(h:LiveS σ){y:Nat}(hy:y<σ.L.length):zAd Tryz.prog 47 [.bptr s 0,.int .i64 y] (σ.heap F s r lim) (.bool (!decide (4∈σ.L.st.all y))) ((σ.mark y).heap F s r lim):=
 static_in hs hr hne h.si.wf h.si.mb (by have:=h.len;omega) ⟨h.si.rd0,by have:=h.rdb;omega⟩ y hy
theorem za0(hs:s<F.length)(hr:r<F.length)(hne:r≠s){σ:Sto}(h:LiveS σ){x y:Nat}(hx:x<σ.L.length)(hy:y<σ.L.length)(ex:σ.L.st.root x=x):zAd Tryz.prog 104 [.bptr s 0,.int .i64 x,.int .i64 y] (σ.heap F s r lim) (.bool (decide (x∈σ.L.st.all y))) ((σ.mark y).heap F s r lim):=by
 have:=za1 (F:=F) (v:=σ.v) (lim:=lim) (cnt:=σ.cnt) hs hr hne h.si.wf h.si.mb (by have:=h.len;omega) ⟨h.si.rd0,by have:=h.rdb;omega⟩ x y hx hy
 rw[ex]at this
 exact this
theorem zDP(hs:s<F.length)(hr:r<F.length)(hne:r≠s){σ:Sto}(h:LiveS σ)(hb:σ.rd+1<=90000000000){x y:Nat}(hx:x<σ.L.length)(hy:y<σ.L.length)(ex:σ.L.st.root x=x)(ey:σ.L.st.root y=y)(h6:σ.L.st.kind x=6)(hxy:x≠y)(hk:σ.L.st.kind y≠6)(h4:4 ∉ σ.L.st.all y):
 zAd Tryz.prog 95 [.bptr s 0,.int .i64 x,.int .i64 y] (σ.heap F s r lim) (.tup [.int .i64 (-1),.int .i64 ((σ.mark y).link x y).1]) (((σ.mark y).link x y).2.heap F s r lim):=by
 have q1:=zMi (F:=F) (v:=σ.v) (lim:=lim) (cnt:=σ.cnt) (rd:=σ.rd) hs hr hne h.si.wf y hy
 rw[ey]at q1
 have q2:=zXe (F:=F) (lim:=lim) hs hr hne h hy
 rw[decide_eq_false h4,Bool.not_false]at q2
 have hm:=h.mark hb y
 have q3:=zNN (F:=F) (lim:=lim) hs hr hne hm (x:=x) (y:=y) (by rw[Sto.zO3];exact hx) (by rw[Sto.zO3];exact hy) (by rw[Sto.zO4];exact ex) (by rw[Sto.zO4];exact ey) (by rw[Sto.zO4];exact h6) hxy
 have b6:(σ.L.st.kind y==6)=false:=by simpa using hk
 generalize (σ.mark y).link x y=p at*
 obtain⟨e,σ'⟩:=p
 generalize σ.mark y=σ1 at*
 unfold Sto.heap at q2 q3⊢
 simp only at q2 q3⊢
 unfold zAd
 refine eD C_ok Tryz.func95 Tryz.results95 fun ok=> ?_
 repeat' (first
  |((first|apply bG|apply bH);simp only[yP,yQ];first|refine zIB (q1) (.inl rfl) ?_|refine zIA (q2) (.inl rfl) (fun hb=>zLV (by first|exact hs|simp<;>omega) (by first|exact hr|simp<;>omega) hne hb) ?_|refine zIA (q3) (.inl rfl) (fun hb=>zLV (by first|exact hs|simp<;>omega) (by first|exact hr|simp<;>omega) hne hb) ?_)
  |skip)<;>simp only[↓zaL,WY,yA,reduceCtorEq,W1,WS,hpS,bxS,arS,stP hs hr hne,zTh,yN,b6,yO]
theorem zDJ(hs:s<F.length)(hr:r<F.length)(hne:r≠s){σ:Sto}(h:LiveS σ)(hb:σ.rd+1<=90000000000){x y:Nat}(hx:x<σ.L.length)(hy:y<σ.L.length)(ex:σ.L.st.root x=x)(ey:σ.L.st.root y=y)(hk:σ.L.st.kind y≠6)(h4:4∈σ.L.st.all y)(hin:x∈σ.L.st.all y):
 zAd Tryz.prog 95 [.bptr s 0,.int .i64 x,.int .i64 y] (σ.heap F s r lim) (.tup [.int .i64 (-1),.int .i64 5]) (((σ.mark y).mark y).heap F s r lim):=by
 have q1:=zMi (F:=F) (v:=σ.v) (lim:=lim) (cnt:=σ.cnt) (rd:=σ.rd) hs hr hne h.si.wf y hy
 rw[ey]at q1
 have q2:=zXe (F:=F) (lim:=lim) hs hr hne h hy
 rw[decide_eq_true h4,Bool.not_true]at q2
 have hm:=h.mark hb y
 have q3:=za0 (F:=F) (lim:=lim) hs hr hne hm (x:=x) (y:=y) (by rw[Sto.zO3];exact hx) (by rw[Sto.zO3];exact hy) (by rw[Sto.zO4];exact ex)
 rw[Sto.zO4,decide_eq_true hin]at q3
 have b6:(σ.L.st.kind y==6)=false:=by simpa using hk
 generalize (σ.mark y).mark y=σ2 at*
 generalize σ.mark y=σ1 at*
 unfold Sto.heap at q2 q3⊢
 unfold zAd
 refine eD C_ok Tryz.func95 Tryz.results95 fun ok=> ?_
 repeat' (first
  |((first|apply bG|apply bH);simp only[yP,yQ];first|refine zIB (q1) (.inl rfl) ?_|refine zIA (q2) (.inl rfl) (fun hb=>zLV (by first|exact hs|simp<;>omega) (by first|exact hr|simp<;>omega) hne hb) ?_|refine zIA (q3) (.inl rfl) (fun hb=>zLV (by first|exact hs|simp<;>omega) (by first|exact hr|simp<;>omega) hne hb) ?_)
  |skip)<;>simp only[↓zaL,WY,yA,reduceCtorEq,W1,WS,hpS,bxS,arS,stP hs hr hne,zTh,yN,b6,yO]
end
end
section
section
variable {F : List AObj} {s r v : Nat} {L : Mem} {lim cnt rd : Int}
theorem zMm{e:Nat->AV}{b m:Nat}{G:List AObj}(hs:s<F.length)(hr:r<F.length)(hne:r≠s)(hw:Wf L.st)(n:Nat)(hn:n<L.length)(hG:G[s]?=some (bxS r v L.length lim cnt rd)/\G[r]?=some (arS v L)):zA5 Tryz.prog 39 [.bptr s 0,.int .i64 n] (.int .i64 (L.st.kind (L.st.root n))) (FS e G b m).obj:=
 qcalls_st (s:=s) (r:=r) (bx:=bxS r v L.length lim cnt rd) (ar:=arS v L) (fun F' h1 h2=>zMi h1 h2 hne hw n hn) (by rw[zIP];exact hG.1) (by rw[zIP];exact hG.2) rfl rfl
theorem make_full(hs:s<F.length)(hr:r<F.length)(hne:r≠s)(kd:Int)(a b:Nat)(hk:kd=7\/kd=9)(ha:a<L.length)(hb':b<L.length)(hc:(cnt==lim)=true):
 zAd Tryz.prog 24 [.bptr s 0,.int .i64 kd,.int .i64 a,.int .i64 b] (hpS F s r v L lim cnt rd) (.tup [.int .i64 0,.int .i64 7]) (hpS F s r v L lim cnt rd):=by
 have i1:=zMH (v:=v) (L:=L) (lim:=lim) (cnt:=cnt) (rd:=rd) hs hr hne (a:Int)
 have i2:=zMH (v:=v) (L:=L) (lim:=lim) (cnt:=cnt) (rd:=rd) hs hr hne (b:Int)
 rw[show(decide (0<=(a:Int))&&decide ((a:Int)<L.length))=true by simp;omega]at i1
 rw[show(decide (0<=(b:Int))&&decide ((b:Int)<L.length))=true by simp;omega]at i2
 unfold zAd
 rcases hk with rfl|rfl
 ·refine eD C_ok Tryz.func24 Tryz.results24 fun ok=> ?_
  repeat' (first
   |((first|apply bG|apply bH);simp only[yP,yQ];first|refine zIB (i1) (.inl rfl) ?_|refine zIB (i2) (.inl rfl) ?_)
   |refine drA C_ok 14 0 ?_
   |refine zJ9 ?_ C_ok Tryz.f24.ntmps rfl (by decide)
   |skip)<;>simp only[↓zaL,WY,yA,yB,yC,yD,reduceCtorEq,yE,yF,W1,WS,W3,yH,yI,yM,hpS,bxS,arS,stP hs hr hne,zTh,yN,hc,yO]
 ·refine eD C_ok Tryz.func24 Tryz.results24 fun ok=> ?_
  repeat' (first
   |((first|apply bG|apply bH);simp only[yP,yQ];first|refine zIB (i1) (.inl rfl) ?_|refine zIB (i2) (.inl rfl) ?_)
   |refine drA C_ok 14 0 ?_
   |refine zJ9 ?_ C_ok Tryz.f24.ntmps rfl (by decide)
   |skip)<;>simp only[↓zaL,WY,yA,yB,yC,yD,reduceCtorEq,yE,yF,W1,WS,W3,yH,yI,yK,yM,hpS,bxS,arS,stP hs hr hne,zTh,yN,hc,yO]
theorem make_fullL(hs:s<F.length)(hr:r<F.length)(hne:r≠s)(a:Nat)(b:Int)(ha:a<L.length)(hc:(cnt==lim)=true):
 zAd Tryz.prog 24 [.bptr s 0,.int .i64 8,.int .i64 a,.int .i64 b] (hpS F s r v L lim cnt rd) (.tup [.int .i64 0,.int .i64 7]) (hpS F s r v L lim cnt rd):=by
 have i1:=zMH (v:=v) (L:=L) (lim:=lim) (cnt:=cnt) (rd:=rd) hs hr hne (a:Int)
 rw[show(decide (0<=(a:Int))&&decide ((a:Int)<L.length))=true by simp;omega]at i1
 unfold zAd
 refine eD C_ok Tryz.func24 Tryz.results24 fun ok=> ?_
 repeat' (first
  |((first|apply bG|apply bH);simp only[yP,yQ];refine zIB (i1) (.inl rfl) ?_)
  |refine drA C_ok 14 0 ?_
  |refine zJ9 ?_ C_ok Tryz.f24.ntmps rfl (by decide)
  |skip)<;>simp only[↓zaL,WY,yA,yB,yC,yD,reduceCtorEq,yE,yF,W1,WS,W3,yI,yK,yM,hpS,bxS,arS,stP hs hr hne,zTh,yN,hc,yO]
end
end
end Go.Proofs.YtdngjamjccjlmaaGreat
