/- Lemmas: matching. No condition. -/
import Derived.Test.YtdngjamjccjlmaaPEa
import Derived.Test.YtdngjamjccjlmaaPAc

set_option linter.unusedSimpArgs false
set_option linter.unusedVariables false
set_option maxHeartbeats 4000000
set_option maxRecDepth 100000
namespace Go.Proofs.Ytdngjamjccjlmaa
open Go Go.Ab
open Nat renaming reduceEqDiff → yA, reduceAdd → yB, reduceLT → yC, reduceLeDiff → yD, reduceMul → yE, reducePow → yF, reduceBEq → yG
open Int renaming reduceAdd → yH, reduceLT → yI, reduceToNat → yJ, reduceBEq → yK, reduceBNe → yL, reduceLE → yM
section
attribute [local irreducible] PCalls ACalls CallK GoCall GoDCall GoIf GoGb GoDGb GoO GoD GoX GoDX GoG GoDG GoGv GoDGv Go ALoop

def fitsT : T → T → List BT → List BT × Bool
  | .var n, u, L => match lookT L n with
    | some v => (L, decide (v = u))
    | none => (L ++ [(n, u)], u.stat)
  | .pair a b, .pair c d, L => if (fitsT a c L).2 = true then fitsT b d (fitsT a c L).1 else ((fitsT a c L).1, false)
  | .fn a b, .fn c d, L => if (fitsT a c L).2 = true then fitsT b d (fitsT a c L).1 else ((fitsT a c L).1, false)
  | .list a, .list c, L => fitsT a c L
  | .dyn, .dyn, L => (L, true)
  | .base k, .base k', L => (L, decide (k = k'))
  | _, _, L => (L, false)
def bdL (L : List BT) : List Bd := L.map fun p => (p.1, p.2.ty)
def idM (L : List BT) : List (Int × Int) := (List.range L.length).map fun i => ((L.getD i (0, .dyn)).1, (i : Int))
def mbx (q v mr : Nat) (L : List BT) : AObj := .box [.ms q v L.length, .mp mr]
def mar (v : Nat) (L : List BT) : AObj := .arr v 4 ((bdL L).map embB)
def hpF (F : List AObj) (p q mr v : Nat) (L : List BT) : List AObj := tri F p q mr (mbx q v mr L) (mar v L) (.map (embM (idM L)))
section
variable {p q mr : Nat}
def FitsC (p q mr : Nat) (t u : T) : Prop := ∀ (L : List BT) (v : Nat), L.length + t.size ≤ 1000000 → ∀ F : List AObj, TriD F p q mr →
  DCalls Try.prog 124 [.bptr p 0, emb t.ty, emb u.ty] (hpF F p q mr v L) (.bool (fitsT t u L).2) (hpF F p q mr (v + ((fitsT t u L).1.length - L.length)) (fitsT t u L).1)
def CF : Cfg := { C with inpl := fun d => d == 56 }
end
end
section
attribute [local irreducible] PCalls ACalls CallK GoCall GoDCall GoIf GoGb GoDGb GoO GoD GoX GoDX GoG GoDG GoGv GoDGv Go ALoop

noncomputable def matchV (t u : Ty) : AV := if right t = true ∧ right u = true then (match matchT (tOf t) (tOf u) [] with
    | some L => .tup [.sl ((bdL L).map embB) .no, .bool true]
    | none => .tup [.sl [] .no, .bool false]) else .tup [.sl [] .no, .bool false]
def mtJ (F : List AObj) (t u : Ty) (v : Nat) (L : List BT) : List AObj := F ++ [.box [.int .i64 t.kind, .int .i64 t.num, .sl (t.kids.map emb) .no], .box [.int .i64 u.kind, .int .i64 u.num, .sl (u.kids.map emb) .no], .map (embM (idM L)), .box [.ms (F.length + 4) v L.length, .mp (F.length + 2)], .arr v 4 ((bdL L).map embB)]
end
section
noncomputable def gT (l : List Ty) (c : Bool) (i : Nat) : T := if l.length = 0 then .base 0 else plainS c (tOf (l.getD (i % l.length) default))
end
end Go.Proofs.Ytdngjamjccjlmaa
