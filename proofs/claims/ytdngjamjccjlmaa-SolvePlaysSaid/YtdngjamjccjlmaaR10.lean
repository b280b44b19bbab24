/- The document's store, walked: pairs that are to be done. No condition. -/
import Derived.Test.YtdngjamjccjlmaaR9
import Derived.Test.YtdngjamjccjlmaaPBe
set_option linter.unusedSimpArgs false
set_option linter.unusedVariables false
set_option maxHeartbeats 4000000
set_option maxRecDepth 100000
namespace Go.Proofs.Ytdngjamjccjlmaa
open Go Go.Ab
open Nat renaming reduceEqDiff -> yA, reduceAdd -> yB, reduceLT -> yC, reduceLeDiff -> yD, reduceMul -> yE, reducePow -> yF, reduceBEq -> yG
open Int renaming reduceAdd -> yH, reduceLT -> yI, reduceToNat -> yJ, reduceBEq -> yK, reduceBNe -> yL, reduceLE -> yM
attribute [local irreducible] zA0 zAA zAa zAi zAj GoIf GoGb zAk GoO GoD GoX GoDX GoG GoDG GoGv zAl Go zAB
def Sto.zeM(σ:Sto)(F:List AObj)(p q:Nat)(lim:Int):List AObj:=hpR F p q σ.v σ.L.st lim σ.cnt
def bxK(p a ver len:Nat):AObj:= .box [.bptr p 0,.ms a ver len]
def arK(ver:Nat)(ps:List (Nat×Nat)):AObj:= .arr ver 2 (ps.map prI)
def wK(F:List AObj)(p q w a:Nat)(lim:Int)(σ:Sto)(ver len:Nat)(ps:List (Nat×Nat)):List AObj:=qua F p q w a (bxR q σ.v σ.L.st.length lim σ.cnt) (arR σ.v σ.L.st) (bxK p a ver len) (arK ver ps)
theorem zd3(m ver:Nat)(ps:List (Nat×Nat)):(arK ver ps).bel m=true:=by simp only[arK,AObj.bel,zSh]
theorem zeA{m p a ver len ver' len':Nat}(h:(bxK p a ver len).bel m=true):(bxK p a ver' len').bel m=true:=by
 simp only[bxK,AObj.bel,AV.belL,AV.bel,YAA,YAa]at h⊢
 exact h
section
variable {F : List AObj} {p q w a : Nat}
theorem kdB(hD:QuaD F p q w a){b v v' v2 v2' ver ver' ver2 ver2' n n' len len':Nat}{S S':St}{lim cnt lim' cnt':Int}{ps ps':List (Nat×Nat)}(hb:∀x∈(qua F p q w a (bxR q v n lim cnt) (arR v2 S) (bxK p a ver len) (arK ver2 ps)).take b,x.bel b=true):
 ∀x∈(qua F p q w a (bxR q v' n' lim' cnt') (arR v2' S') (bxK p a ver' len') (arK ver2' ps')).take b,x.bel b=true:=
 zfL hD (fun h=>zeB h) (zd4 _ _ _) (fun h=>zeA h) (zd3 _ _ _) hb
theorem dK{f:Nat}{args:List AV}{res:AV}{σ σ':Sto}{lim:Int}(h:∀G:List AObj,p<G.length->q<G.length->zAd Try.prog f args (σ.zeM G p q lim) res (σ'.zeM G p q lim))
 (hD:QuaD F p q w a) (ver len:Nat) (ps:List (Nat×Nat)):zAd Try.prog f args (wK F p q w a lim σ ver len ps) res (wK F p q w a lim σ' ver len ps):=
 h _ (by simpa using hD.hs) (by simpa using hD.hr)
def CK:Cfg:= {C with inpl:=fun d=>d==29}
theorem zdc:zAb Try.prog CK:=C_ok
theorem zdd(t:Nat):CK.ty t=C.ty t:=rfl
theorem zdb(t:Nat):CK.inpl t=(t==29):=rfl
theorem zfm(hD:QuaD F p q w a){lim:Int}(σ:Sto)(ver len:Nat)(ps:List (Nat×Nat))(x y:Nat)(hle:len<=ps.length)(hl:len<=1000000000000):
 zAd Try.prog 106 [.bptr w 0,.sl [.int .i64 x] .no,.sl [.int .i64 y] .no] (wK F p q w a lim σ ver len ps) (.tup []) (wK F p q w a lim σ (ver+1) (len+1) (ps.take len++ [(x,y)])):=by
 have v0:IntKind.wrap .i64 (1-1)=0:=by decide
 have v1:IntKind.wrap .i64 (0-1)= -1:=by decide
 have u0:((0:Int)≥0)=True:=by simp
 have u1:((-1:Int)≥0)=False:=by simp
 have hle':(len<=ps.length)=True:=by simp[hle]
 have m1:(len+1<=9223372036854775807)=True:=by simp only[YAb,iff_true];omega
 have m2:((len+1)*16<=140737488355328)=True:=by simp only[YAb,iff_true];omega
 have e0:List.take len (List.map prI ps)++ [AV.agg [.int .i64 x,.int .i64 y]]=List.map prI (ps.take len++ [(x,y)]):=by rw[<-List.map_take,zSg]
 have hqa:decide (a<F.length)=true:=decide_eq_true hD.hq
 unfold zAd
 refine zBN zdc Try.func106 rfl (by decide) (YAL rfl) (by decide) fun ok=> ?_
 rw[Try.results106]
 have h:=YAN
 repeat' (first
  |(with_reducible first|apply bA|apply bB|apply bC|apply bD|apply bE|apply bF)<;>intro h
  |refine zKh (id:=3) zdc (fun _=>trivial) mixed 0 Try.f106.ntmps (by first|(simp;done)|(simp;omega)) rfl (by kernel_rfl) (by decide) ?_
  |refine zJ9 ?_ zdc Try.f106.ntmps rfl (by decide)
  |skip)<;>simp only[h,↓zaL,↓zHC,WY,reduceIte,yA,yB,yC,yD,reduceCtorEq,yE,yF,W1,WS,W3,yH,yI,yJ,yK,yL,yM,zdd,zdb,yG,isMs,zWF,wK,bxR,arR,bxK,arK,quaP hD,zTh,zTg,AV.bel,AV.belL,ze0,v0,v1,u0,u1,hle',m1,m2,e0,hqa,zFY]
 all_goals exact⟨rfl,rfl⟩
theorem zfn(hD:QuaD F p q w a){lim:Int}(σ:Sto)(ver len:Nat)(ps:List (Nat×Nat))(x1 x2 y1 y2:Nat)(hle:len<=ps.length)(hl:len<=1000000000000):
 zAd Try.prog 106 [.bptr w 0,.sl [.int .i64 x1,.int .i64 x2] .no,.sl [.int .i64 y1,.int .i64 y2] .no] (wK F p q w a lim σ ver len ps) (.tup []) (wK F p q w a lim σ (ver+1+1) (len+1+1) (ps.take len++ [(x2,y2),(x1,y1)])):=by
 have v0:IntKind.wrap .i64 (2-1)=1:=by decide
 have v1:IntKind.wrap .i64 (1-1)=0:=by decide
 have v2:IntKind.wrap .i64 (0-1)= -1:=by decide
 have u0:((1:Int)≥0)=True:=by simp
 have u1:((0:Int)≥0)=True:=by simp
 have u2:((-1:Int)≥0)=False:=by simp
 have hle':(len<=ps.length)=True:=by simp[hle]
 have m1:(len+1<=9223372036854775807)=True:=by simp only[YAb,iff_true];omega
 have m2:((len+1)*16<=140737488355328)=True:=by simp only[YAb,iff_true];omega
 have m3:(len+1+1<=9223372036854775807)=True:=by simp only[YAb,iff_true];omega
 have m4:((len+1+1)*16<=140737488355328)=True:=by simp only[YAb,iff_true];omega
 have e0:List.take len (List.map prI ps)++ [AV.agg [.int .i64 x2,.int .i64 y2]]=List.map prI (ps.take len++ [(x2,y2)]):=by rw[<-List.map_take,zSg]
 have hl1:(ps.take len++ [(x2,y2)]).length=len+1:=by simp[hle]
 have hle2:(len+1<=(ps.take len++ [(x2,y2)]).length)=True:=by rw[hl1];simp
 have e1:List.take (len+1) (List.map prI (ps.take len++ [(x2,y2)]))++ [AV.agg [.int .i64 x1,.int .i64 y1]]=List.map prI (ps.take len++ [(x2,y2),(x1,y1)]):=by
  rw[List.take_of_length_le (by rw[YAK,hl1];exact YAV _),zSg];simp
 have hqa:decide (a<F.length)=true:=decide_eq_true hD.hq
 unfold zAd
 refine zBN zdc Try.func106 rfl (by decide) (YAL rfl) (by decide) fun ok=> ?_
 rw[Try.results106]
 have h:=YAN
 repeat' (first
  |(with_reducible first|apply bA|apply bB|apply bC|apply bD|apply bE|apply bF)<;>intro h
  |refine zKh (id:=3) zdc (fun _=>trivial) mixed 0 Try.f106.ntmps (by first|(simp;done)|(simp;omega)) rfl (by kernel_rfl) (by decide) ?_
  |refine zJ9 ?_ zdc Try.f106.ntmps rfl (by decide)
  |skip)<;>simp only[h,↓zaL,↓zHC,WY,reduceIte,yA,yB,yC,yD,reduceCtorEq,yE,yF,W1,WS,W3,yH,yI,yJ,yK,yL,yM,zdd,zdb,yG,isMs,zWF,wK,bxR,arR,bxK,arK,quaP hD,zTh,zTg,AV.bel,AV.belL,ze0,v0,v1,v2,u0,u1,u2,hle',m1,m2,m3,m4,e0,e1,hl1,hqa,YAV,zFY]
 all_goals exact⟨rfl,rfl⟩
end
end Go.Proofs.Ytdngjamjccjlmaa
