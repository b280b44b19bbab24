/- The document's store, walked: a variable becomes a copy. No condition. -/
import Derived.Test.YtdngjamjccjlmaaR11
set_option linter.unusedSimpArgs false
set_option linter.unusedVariables false
set_option maxHeartbeats 4000000
set_option maxRecDepth 100000
namespace Go.Proofs.Ytdngjamjccjlmaa
open Go Go.Ab
theorem Ext0.refl(σ:Sto):Ext0 σ σ:=⟨YAV _,fun _ _=>⟨rfl,rfl⟩⟩
structure BcF (σ τ:Sto) (x y:Nat) (lv:Int):Prop where
 good:GoodS τ
 x0:Ext0 σ τ
 xl:x<τ.L.length
 yl:y<τ.L.length
 rx:τ.L.st.root x=x
 ry:τ.L.st.root y=y
 kx:τ.L.st.kind x=6
 ky:τ.L.st.kind y=σ.L.st.kind y
 lvx:(τ.L.st.nd x).level=lv
theorem BcF.init{σ:Sto}(hg:GoodS σ){x y:Nat}(hx:x<σ.L.length)(hy:y<σ.L.length)(ex:σ.L.st.root x=x)(ey:σ.L.st.root y=y)(h6:σ.L.st.kind x=6):BcF σ σ x y (σ.L.st.nd x).level:=
 ⟨hg,Ext0.refl σ,hx,hy,ex,ey,h6,rfl,rfl⟩
theorem BcF.var{σ τ:Sto}{x y:Nat}{lv l:Int}(h:BcF σ τ x y lv)(hl:0<=l):BcF σ (τ.var l) x y lv:=by
 have hg:=h.good.var hl
 have e:=(Ext0.refl τ).var l h.good.si.wf hg.si.wf
 have hx:x<τ.L.st.length:=by rw[Mem.zXR];exact h.xl
 have hy:y<τ.L.st.length:=by rw[Mem.zXR];exact h.yl
 obtain⟨a1,a2⟩:=e.2 x hx
 obtain⟨b1,b2⟩:=e.2 y hy
 refine⟨hg,h.x0.var l h.good.si.wf hg.si.wf,by rw[Sto.zaS];have:=h.xl;omega,by rw[Sto.zaS];have:=h.yl;omega,by rw[a1,h.rx],by rw[b1,h.ry],?_,?_,by rw[a2,h.lvx]⟩
 ·rw[St.kind,a2];exact h.kx
 ·rw[St.kind,b2];exact h.ky
section
variable {F : List AObj} {p q w a : Nat} {lim : Int}
theorem BcF.q5{σ τ:Sto}{x y:Nat}{lv:Int}(h:BcF σ τ x y lv)(hD:QuaD F p q w a)(ver len:Nat)(ps:List (Nat×Nat)):
 zAd Try.prog 109 [.bptr p 0,.int .i64 x] (wK F p q w a lim τ ver len ps) (.int .i64 lv) (wK F p q w a lim τ ver len ps):=by
 have hne:q≠p:=fun e=>hD.d1.1 e.symm
 have:=dK (lim:=lim) (fun G hs hr=>zfu (F:=G) (v:=τ.v) (lim:=lim) (cnt:=τ.cnt) hs hr hne h.good.si.wf x (by rw[Mem.zXR];exact h.xl)) hD ver len ps
 rw[h.rx,if_pos h.kx,h.lvx]at this
 exact this
theorem zfF{τ:Sto}(hD:QuaD F p q w a)(lv:Int)(hl:0<=lv)(hc:τ.cnt<lim)(hL:τ.L.length<=900000)(hcb:0<=τ.cnt/\τ.cnt<=900000)(ver len:Nat)(ps:List (Nat×Nat)):
 zAd Try.prog 99 [.bptr p 0,.int .i64 lv] (wK F p q w a lim τ ver len ps) (.tup [.int .i64 τ.L.length,.int .i64 0]) (wK F p q w a lim (τ.var lv) ver len ps):=by
 have hne:q≠p:=fun e=>hD.d1.1 e.symm
 refine dK (lim:=lim) (fun G hs hr=> ?_) hD ver len ps
 have:=zgb (F:=G) (v:=τ.v) (S:=τ.L.st) (lim:=lim) (cnt:=τ.cnt) hs hr hne lv (by omega) (by omega) (by rw[Mem.zXR];omega) ⟨hcb.1,by omega⟩
 rw[Mem.zXR]at this
 unfold Sto.zeM
 have e:(τ.var lv).L.st=τ.L.st++ [⟨6,lv,none,[]⟩]:=by rw[Sto.var,Mem.zXM];rfl
 rw[e];exact this
theorem zfE{τ:Sto}(hD:QuaD F p q w a)(lv:Int)(hl:0<=lv)(hc:¬τ.cnt<lim)(ver len:Nat)(ps:List (Nat×Nat)):
 zAd Try.prog 99 [.bptr p 0,.int .i64 lv] (wK F p q w a lim τ ver len ps) (.tup [.int .i64 0,.int .i64 7]) (wK F p q w a lim τ ver len ps):=by
 have hne:q≠p:=fun e=>hD.d1.1 e.symm
 exact dK (lim:=lim) (fun G hs hr=>zga (F:=G) (v:=τ.v) (S:=τ.L.st) (lim:=lim) (cnt:=τ.cnt) hs hr hne lv (by omega) (by omega)) hD ver len ps
theorem zfG{τ:Sto}(hD:QuaD F p q w a)(c:Nat)(b:Int)(hcl:c<τ.L.length)(hc:τ.cnt<lim)(hL:τ.L.length<=900000)(hcb:0<=τ.cnt/\τ.cnt<=900000)(ver len:Nat)(ps:List (Nat×Nat)):
 zAd Try.prog 100 [.bptr p 0,.int .i64 8,.int .i64 c,.int .i64 b] (wK F p q w a lim τ ver len ps) (.tup [.int .i64 τ.L.length,.int .i64 0]) (wK F p q w a lim (τ.mk' 8 [c]) ver len ps):=by
 have hne:q≠p:=fun e=>hD.d1.1 e.symm
 refine dK (lim:=lim) (fun G hs hr=> ?_) hD ver len ps
 have:=zf3 (F:=G) (v:=τ.v) (S:=τ.L.st) (lim:=lim) (cnt:=τ.cnt) hs hr hne c b (by rw[Mem.zXR];exact hcl) (by omega) (by rw[Mem.zXR];omega) ⟨hcb.1,by omega⟩
 rw[Mem.zXR]at this
 unfold Sto.zeM
 have e:(τ.mk' 8 [c]).L.st=τ.L.st++ [⟨8,0,none,[c]⟩]:=by rw[Sto.mk',Mem.zXM]
 rw[e];exact this
theorem zfH{τ:Sto}(hD:QuaD F p q w a)(c:Nat)(b:Int)(hcl:c<τ.L.length)(hc:¬τ.cnt<lim)(ver len:Nat)(ps:List (Nat×Nat)):
 zAd Try.prog 100 [.bptr p 0,.int .i64 8,.int .i64 c,.int .i64 b] (wK F p q w a lim τ ver len ps) (.tup [.int .i64 0,.int .i64 7]) (wK F p q w a lim τ ver len ps):=by
 have hne:q≠p:=fun e=>hD.d1.1 e.symm
 exact dK (lim:=lim) (fun G hs hr=>zf4 (F:=G) (v:=τ.v) (S:=τ.L.st) (lim:=lim) (cnt:=τ.cnt) hs hr hne c b (by rw[Mem.zXR];exact hcl) (by omega)) hD ver len ps
theorem zfI{τ:Sto}(hD:QuaD F p q w a){kd:Int}(hk:kd=7\/kd=9)(c b:Nat)(hcl:c<τ.L.length)(hbl:b<τ.L.length)(hc:τ.cnt<lim)(hL:τ.L.length<=900000)(hcb:0<=τ.cnt/\τ.cnt<=900000)(ver len:Nat)(ps:List (Nat×Nat)):
 zAd Try.prog 100 [.bptr p 0,.int .i64 kd,.int .i64 c,.int .i64 b] (wK F p q w a lim τ ver len ps) (.tup [.int .i64 τ.L.length,.int .i64 0]) (wK F p q w a lim (τ.mk' kd [c,b]) ver len ps):=by
 have hne:q≠p:=fun e=>hD.d1.1 e.symm
 refine dK (lim:=lim) (fun G hs hr=> ?_) hD ver len ps
 have:=zf5 (F:=G) (v:=τ.v) (S:=τ.L.st) (lim:=lim) (cnt:=τ.cnt) hs hr hne kd c b hk (by rw[Mem.zXR];exact hcl) (by rw[Mem.zXR];exact hbl) (by omega) (by rw[Mem.zXR];omega) ⟨hcb.1,by omega⟩
 rw[Mem.zXR]at this
 unfold Sto.zeM
 have e:(τ.mk' kd [c,b]).L.st=τ.L.st++ [⟨kd,0,none,[c,b]⟩]:=by rw[Sto.mk',Mem.zXM]
 rw[e];exact this
theorem zfJ{τ:Sto}(hD:QuaD F p q w a){kd:Int}(hk:kd=7\/kd=9)(c b:Nat)(hcl:c<τ.L.length)(hbl:b<τ.L.length)(hc:¬τ.cnt<lim)(ver len:Nat)(ps:List (Nat×Nat)):
 zAd Try.prog 100 [.bptr p 0,.int .i64 kd,.int .i64 c,.int .i64 b] (wK F p q w a lim τ ver len ps) (.tup [.int .i64 0,.int .i64 7]) (wK F p q w a lim τ ver len ps):=by
 have hne:q≠p:=fun e=>hD.d1.1 e.symm
 exact dK (lim:=lim) (fun G hs hr=>zf2 (F:=G) (v:=τ.v) (S:=τ.L.st) (lim:=lim) (cnt:=τ.cnt) hs hr hne kd c b hk (by rw[Mem.zXR];exact hcl) (by rw[Mem.zXR];exact hbl) (by omega)) hD ver len ps
theorem BcF.q7{σ τ:Sto}{x y:Nat}{lv:Int}(h:BcF σ τ x y lv)(hD:QuaD F p q w a)(ver len:Nat)(ps:List (Nat×Nat)):
 ∀(e:Nat->AV) (G:List AObj) (b m:Nat),G[p]?=some (bxR q τ.v τ.L.st.length lim τ.cnt)/\G[q]?=some (arR τ.v τ.L.st)->zA5 Try.prog 104 [.bptr p 0,.int .i64 y] (.int .i64 (σ.L.st.kind y)) (FS e G b m).obj:=fun e G b m hG=>by
 have:=zft (e:=e) (b:=b) (m:=m) (fun e=>hD.d1.1 e.symm) h.good.si.wf y (by rw[Mem.zXR];exact h.yl) hG
 rw[h.ry,h.ky]at this
 exact this
end
end Go.Proofs.Ytdngjamjccjlmaa
