/- Lemmas: binds and what is put for variables. No condition. -/
import Derived.Test.YtdngjamjccjlmaaEmb
import Derived.Test.YtdngjamjccjlmaaPCa
import Derived.Test.YtdngjamjccjlmaaPVa
import Derived.Test.YtdngjamjccjlmaaPFa
import Derived.Test.YtdngjamjccjlmaaTO
import Derived.Test.YtdngjamjccjlmaaPHa

set_option linter.defProp false
set_option linter.unusedSimpArgs false
set_option linter.unusedVariables false
set_option maxHeartbeats 4000000
set_option maxRecDepth 100000
namespace Go.Proofs.Ytdngjamjccjlmaa
open Go Go.Ab
open Nat renaming reduceEqDiff → yA, reduceAdd → yB, reduceLT → yC, reduceLeDiff → yD, reduceMul → yE, reducePow → yF, reduceBEq → yG
open Int renaming reduceAdd → yH, reduceLT → yI, reduceToNat → yJ, reduceBEq → yK, reduceBNe → yL, reduceLE → yM
section
abbrev Bd := Int × Ty
def embB (p : Bd) : AV := .agg [.int .i64 p.1, .int .i64 p.2.kind, .int .i64 p.2.num, .sl (p.2.kids.map emb) .no]
theorem embB_mk (v k n : Int) (l : List Ty) : AV.agg [.int .i64 v, .int .i64 k, .int .i64 n, .sl (l.map emb) .no] = embB (v, .mk k n l) := rfl
theorem embB_mk0 (v k n : Int) : AV.agg [.int .i64 v, .int .i64 k, .int .i64 n, .sl [] .no] = embB (v, .mk k n []) := rfl
theorem embB_cells (p : Bd) : cellsOf (embB p) = [.int .i64 p.1, .int .i64 p.2.kind, .int .i64 p.2.num, .sl (p.2.kids.map emb) .no] := rfl
theorem embB_solid (p : Bd) : (embB p).solid = true := rfl
theorem all_embB4 (l : List Bd) : (∀ y, y ∈ l.map embB → (cellsOf y).length = 4) = True := by
  simp only [eq_iff_iff, iff_true]; intro y hy; obtain ⟨t, _, rfl⟩ := List.mem_map.1 hy; rw [embB_cells]; rfl
theorem embB_norm (p : Bd) : (embB p).norm = embB p := by simp only [embB, AV.norm, AV.normL, map_norm]
theorem embB_bel (m : Nat) (p : Bd) : (embB p).bel m = true := by simp only [embB, AV.bel, AV.belL, map_bel, Bool.and_self]
theorem mapB_norm (l : List Bd) : AV.normL (l.map embB) = l.map embB := by
  induction l with
  | nil => rfl
  | cons a l ih => simp only [List.map_cons, AV.normL, embB_norm, ih]
theorem mapB_bel (m : Nat) (l : List Bd) : AV.belL m (l.map embB) = true := by
  induction l with
  | nil => rfl
  | cons a l ih => simp only [List.map_cons, AV.belL, embB_bel, ih, Bool.and_self]
theorem mapB_get {l : List Bd} {i : Nat} (h : i < l.length) : (l.map embB).getD i .any = embB (l.getD i default) := by simp [h]

def W1Bd := cjI @all_embB4 (cjI @embB_solid (cjI @embB_cells (cjI @embB_mk (cjI @embB_mk0 (cjI @embB_norm (@mapB_norm))))))
theorem W1B : type_of% W1Bd := W1Bd
def W2Bd := cjI @embB_norm (cjI @mapB_norm (cjI @embB_mk (@embB_mk0)))
theorem W2B : type_of% W2Bd := W2Bd
end
section
attribute [local irreducible] PCalls ACalls CallK GoCall GoDCall GoIf GoGb GoDGb GoO GoD GoX GoDX GoG GoDG GoGv GoDGv Go ALoop

def lookB : List Bd → Int → Option Ty
  | [], _ => none
  | p :: l, n => if p.1 = n then some p.2 else lookB l n
mutual
def rputT (l : List Bd) : Ty → Ty
  | .mk k n ks => if k = 6 then (match lookB l n with | some t => t | none => .mk k n ks) else .mk k 0 (rputTL l ks)
def rputTL (l : List Bd) : List Ty → List Ty
  | [] => []
  | t :: ts => rputT l t :: rputTL l ts
end
noncomputable def sigB (l : List Bd) (n : Int) : T := match lookB l n with | some t => tOf t | none => .var n
def plainS (c : Bool) : T → T
  | .dyn => .base 3
  | .var n => if c = true then .base 2 else .var n
  | .pair a b => .pair (plainS c a) (plainS c b)
  | .list a => .list (plainS c a)
  | .fn a b => .fn (plainS c a) (plainS c b)
  | .base k => .base k
end
end Go.Proofs.Ytdngjamjccjlmaa
