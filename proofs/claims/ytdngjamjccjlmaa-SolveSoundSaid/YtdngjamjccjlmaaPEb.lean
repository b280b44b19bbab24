/- Lemmas: matching. No condition. -/
import Derived.Test.YtdngjamjccjlmaaA9
import Derived.Test.YtdngjamjccjlmaaPEa

section
/- A heap with a box, an array and a map. No condition. -/
set_option linter.unusedSimpArgs false
set_option linter.unusedVariables false
namespace Go.Ab
open Go

def tri (F : List AObj) (p q m : Nat) (x1 x2 x3 : AObj) : List AObj := stF (F.set m x3) p q x1 x2
structure TriD (F : List AObj) (p q m : Nat) : Prop where
  hp : p < F.length
  hq : q < F.length
  hm : m < F.length
  d1 : p ≠ q
  d2 : p ≠ m
  d3 : q ≠ m
section
variable {F : List AObj} {p q m : Nat}
theorem TriD.app (h : TriD F p q m) (J : List AObj) : TriD (F ++ J) p q m := by
  obtain ⟨h1, h2, h3, d1, d2, d3⟩ := h
  exact ⟨by simp; omega, by simp; omega, by simp; omega, d1, d2, d3⟩
@[simp] theorem tri_len {x1 x2 x3 : AObj} : (tri F p q m x1 x2 x3).length = F.length := by simp [tri]
end

end Go.Ab
end

section
/- Walks: what a type's variables stand for where it is another one. No condition. -/
set_option linter.unusedSimpArgs false
set_option linter.unusedVariables false
set_option maxHeartbeats 4000000
set_option maxRecDepth 100000
namespace Go.Proofs.Ytdngjamjccjlmaa
open Go Go.Ab
open Nat (reduceEqDiff reduceAdd reduceLT reduceLeDiff reduceMul reducePow)
attribute [local irreducible] PCalls ACalls CallK GoCall GoDCall GoIf GoGb GoDGb GoO GoD GoX GoDX GoG GoDG GoGv GoDGv Go ALoop

/-- What is found so far, and whether it fits. -/
def fitsT : T → T → List BT → List BT × Bool
  | .var n, u, L => match lookT L n with
    | some v => (L, decide (v = u))
    | none => (L ++ [(n, u)], u.stat)
  | .pair a b, .pair c d, L => if (fitsT a c L).2 = true then fitsT b d (fitsT a c L).1 else ((fitsT a c L).1, false)
  | .fn a b, .fn c d, L => if (fitsT a c L).2 = true then fitsT b d (fitsT a c L).1 else ((fitsT a c L).1, false)
  | .list a, .list c, L => fitsT a c L
  | .dyn, .dyn, L => (L, true)
  | .base k, .base k', L => (L, decide (k = k'))
  | _, _, L => (L, false)
def bdL (L : List BT) : List Bd := L.map fun p => (p.1, p.2.ty)
def idM (L : List BT) : List (Int × Int) := (List.range L.length).map fun i => ((L.getD i (0, .dyn)).1, (i : Int))
def mbx (q v mr : Nat) (L : List BT) : AObj := .box [.ms q v L.length, .mp mr]
def mar (v : Nat) (L : List BT) : AObj := .arr v 4 ((bdL L).map embB)
def hpF (F : List AObj) (p q mr v : Nat) (L : List BT) : List AObj := tri F p q mr (mbx q v mr L) (mar v L) (.map (embM (idM L)))
section
variable {p q mr : Nat}
def FitsC (p q mr : Nat) (t u : T) : Prop := ∀ (L : List BT) (v : Nat), L.length + t.size ≤ 1000000 → ∀ F : List AObj, TriD F p q mr →
  DCalls Try.prog 124 [.bptr p 0, emb t.ty, emb u.ty] (hpF F p q mr v L) (.bool (fitsT t u L).2) (hpF F p q mr (v + ((fitsT t u L).1.length - L.length)) (fitsT t u L).1)
def CF : Cfg := { C with inpl := fun d => d == 56 }
end

end Go.Proofs.Ytdngjamjccjlmaa
end

section
/- Walks: matching. No condition. -/
set_option linter.unusedSimpArgs false
set_option linter.unusedVariables false
set_option maxHeartbeats 4000000
set_option maxRecDepth 100000
namespace Go.Proofs.Ytdngjamjccjlmaa
open Go Go.Ab
open Nat (reduceEqDiff reduceAdd reduceLT reduceLeDiff reduceMul reducePow)
attribute [local irreducible] PCalls ACalls CallK GoCall GoDCall GoIf GoGb GoDGb GoO GoD GoX GoDX GoG GoDG GoGv GoDGv Go ALoop

/-- What a matching tells. -/
noncomputable def matchV (t u : Ty) : AV := if right t = true ∧ right u = true then (match matchT (tOf t) (tOf u) [] with
    | some L => .tup [.sl ((bdL L).map embB) .no, .bool true]
    | none => .tup [.sl [] .no, .bool false]) else .tup [.sl [] .no, .bool false]
/-- The heap with which it goes on. -/
def mtJ (F : List AObj) (t u : Ty) (v : Nat) (L : List BT) : List AObj := F ++ [.box [.int .i64 t.kind, .int .i64 t.num, .sl (t.kids.map emb) .no], .box [.int .i64 u.kind, .int .i64 u.num, .sl (u.kids.map emb) .no], .map (embM (idM L)), .box [.ms (F.length + 4) v L.length, .mp (F.length + 2)], .arr v 4 ((bdL L).map embB)]
end Go.Proofs.Ytdngjamjccjlmaa
end

section
/- Layer 11: matching: plain laws about the binds of the statements. No condition. -/
set_option linter.unusedSimpArgs false
set_option linter.unusedVariables false
namespace Go.Proofs.Ytdngjamjccjlmaa
open Go Go.Ab

theorem lookB_nodup : ∀ {L : List Bd}, (L.map Prod.fst).Nodup → ∀ p ∈ L, lookB L p.1 = some p.2 := by
  intro L
  induction L with
  | nil => intro _ p hp; cases hp
  | cons a L ih =>
    intro hn p hp
    rw [List.map_cons, List.nodup_cons] at hn
    rw [lookB]
    rcases List.mem_cons.1 hp with rfl | hp
    · rw [if_pos rfl]
    · rw [if_neg fun e => hn.1 (List.mem_map.2 ⟨p, hp, e.symm⟩)]
      exact ih hn.2 p hp
noncomputable def gT (l : List Ty) (c : Bool) (i : Nat) : T := if l.length = 0 then .base 0 else plainS c (tOf (l.getD (i % l.length) default))
theorem statG_eq (vs : List Int) (l : List Ty) (c : Bool) (i : Nat) : statG vs l c i = (vs.getD i 0, (gT l c i).ty) := by
  unfold statG gT
  split <;> rfl
theorem statB_fst (vs : List Int) (l : List Ty) (c : Bool) : (statB vs l c).map Prod.fst = vs := by
  apply List.ext_getElem (by simp [statB])
  intro i h1 h2
  simp [statB, statG, h2]
theorem sig_stat {vs : List Int} (hn : vs.Nodup) (l : List Ty) (c : Bool) {n : Int} (h : n ∈ vs) : ∃ i, sigB (statB vs l c) n = gT l c i ∧ (n, (gT l c i).ty) ∈ statB vs l c := by
  obtain ⟨i, hi, e⟩ := List.mem_iff_getElem.1 h
  have hm : statG vs l c i ∈ statB vs l c := List.mem_map.2 ⟨i, List.mem_range.2 hi, rfl⟩
  have hl := lookB_nodup (L := statB vs l c) (by rw [statB_fst]; exact hn) _ hm
  rw [statG_eq] at hl hm
  have e1 : vs.getD i 0 = n := by rw [← e]; simp [hi]
  rw [e1] at hl hm
  exact ⟨i, by rw [sigB, hl]; exact tOf_ty _, hm⟩
theorem statB_okBs {x : T} (hx : x.ok = true) {l : List Ty} (hl : ∀ y ∈ l, right y = true) (c : Bool) : okBs (statB (x.varsF []) l c) = true := by
  refine List.all_eq_true.2 fun p hp => ?_
  obtain ⟨i, hi, rfl⟩ := List.mem_map.1 hp
  have hi := List.mem_range.1 hi
  have h1 := has_ok hx ((x.varsF []).getD i 0) (mem_vars0.1 (by simp [hi]))
  have h2 := statG_right (vs := x.varsF []) (c := c) hl i
  have h3 : (statG (x.varsF []) l c i).1 = (x.varsF []).getD i 0 := rfl
  simp only [okBd, h2, Bool.and_true, Bool.and_eq_true]
  rw [h3]
  exact ⟨decide_eq_true h1.1, decide_eq_true h1.2⟩
end Go.Proofs.Ytdngjamjccjlmaa
end

