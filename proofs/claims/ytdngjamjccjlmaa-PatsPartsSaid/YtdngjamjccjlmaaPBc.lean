/- Lemmas: rows of pairs, walked. No condition. -/
import Derived.Test.YtdngjamjccjlmaaPTa
set_option linter.defProp false
namespace Go.Proofs.Ytdngjamjccjlmaa
open Go Go.Ab
section
abbrev Pr:=Ty×Ty
def embQ(p:Pr):AV:= .agg [.int .i64 p.1.kind,.int .i64 p.1.num,.sl (p.1.kids.map emb) .no,.int .i64 p.2.kind,.int .i64 p.2.num,.sl (p.2.kids.map emb) .no]
theorem zGs(k n k' n':Int)(l l':List Ty):AV.agg [.int .i64 k,.int .i64 n,.sl (l.map emb) .no,.int .i64 k',.int .i64 n',.sl (l'.map emb) .no]=embQ (.mk k n l,.mk k' n' l'):=rfl
theorem zGr(p:Pr):cellsOf (embQ p)=[.int .i64 p.1.kind,.int .i64 p.1.num,.sl (p.1.kids.map emb) .no,.int .i64 p.2.kind,.int .i64 p.2.num,.sl (p.2.kids.map emb) .no]:=rfl
theorem zGu(p:Pr):(embQ p).solid=true:=rfl
theorem zCD(l:List Pr):(∀y,y∈l.map embQ->(cellsOf y).length=6)=True:=by
 simp only[YAb,iff_true];intro y hy;obtain⟨t,_,rfl⟩:=List.mem_map.1 hy;rw[zGr];rfl
theorem zGt(p:Pr):(embQ p).norm=embQ p:=by simp only[embQ,AV.norm,AV.zQg,zOu]
theorem zOn(l:List Pr):AV.zQg (l.map embQ)=l.map embQ:=by
 induction l with
 |nil=>rfl
 |cons a l ih=>simp only[List.map_cons,AV.zQg,zGt,ih]
def W1Qd:=cjI @zCD (cjI @zGu (cjI @zGr (cjI @zGs (cjI @zGt (@zOn)))))
def W2Qd:=cjI @zGt (cjI @zOn (@zGs))
end
end Go.Proofs.Ytdngjamjccjlmaa
