/- Walks: layer 12: a type with variables made in a store. No condition. -/
import Derived.Test.YtdngjamjccjlmaaW16
set_option linter.unusedSimpArgs false
set_option linter.unusedVariables false
set_option maxHeartbeats 4000000
set_option maxRecDepth 100000
namespace Go.Proofs.Ytdngjamjccjlmaa
open Go Go.Ab
open Nat (reduceEqDiff reduceAdd reduceLT reduceLeDiff reduceMul reducePow)
attribute [local irreducible] PCalls ACalls CallK GoCall GoDCall GoIf GoGb GoDGb GoO GoD GoX GoDX GoG GoDG GoGv GoDGv Go ALoop

def madeM (lvl : Int) : T → Mem → List (Int × Int) → Mem × List (Int × Int) × Nat
  | .var k, S, vs => match mget vs k with
    | some n => (S, vs, n.toNat)
    | none => (S ++ [(⟨6, lvl, none, []⟩, 0)], mput vs k S.length, S.length)
  | .base k, S, vs => (S, vs, k.val)
  | .dyn, S, vs => (S, vs, 4)
  | .pair a b, S, vs => let p := madeM lvl a S vs; let q := madeM lvl b p.1 p.2.1; (q.1 ++ [(⟨7, 0, none, [p.2.2, q.2.2]⟩, 0)], q.2.1, q.1.length)
  | .fn a b, S, vs => let p := madeM lvl a S vs; let q := madeM lvl b p.1 p.2.1; (q.1 ++ [(⟨9, 0, none, [p.2.2, q.2.2]⟩, 0)], q.2.1, q.1.length)
  | .list a, S, vs => let p := madeM lvl a S vs; (p.1 ++ [(⟨8, 0, none, [p.2.2]⟩, 0)], p.2.1, p.1.length)
theorem lt_set {q m : Nat} {F : List AObj} {X : AObj} (h : q < F.length) : q < (F.set m X).length := by simpa using h
/-! The heap: a store's two objects and a map. -/
section
variable {F : List AObj} {s r m : Nat}
def MadeC (s r m : Nat) (lim rd lvl : Int) (t : Ty) (v : Nat) (L : Mem) (cnt : Int) (Z : List (Int × Int)) (v' : Nat) (L' : Mem) (cnt' : Int) (Z' : List (Int × Int)) (n : Nat) : Prop :=
  ∀ F : List AObj, s < F.length → r < F.length → m < F.length → DCalls Try.prog 22 [.bptr s 0, emb t, .int .i64 lvl, .mp m] (hpS (F.set m (.map (embM Z))) s r v L lim cnt rd) (.tup [.int .i64 n, .int .i64 0]) (hpS (F.set m (.map (embM Z'))) s r v' L' lim cnt' rd)
theorem MadeC.at {lim rd lvl : Int} {t : Ty} {v : Nat} {L : Mem} {cnt : Int} {Z : List (Int × Int)} {v' : Nat} {L' : Mem} {cnt' : Int} {Z' : List (Int × Int)} {n : Nat} (h : MadeC s r m lim rd lvl t v L cnt Z v' L' cnt' Z' n) (hs : s < F.length) (hr : r < F.length) (hm : m < F.length) (J : List AObj) :
    DCalls Try.prog 22 [.bptr s 0, emb t, .int .i64 lvl, .mp m] (hpS (F.set m (.map (embM Z)) ++ J) s r v L lim cnt rd) (.tup [.int .i64 n, .int .i64 0]) (hpS (F.set m (.map (embM Z')) ++ J) s r v' L' lim cnt' rd) := by
  have := h (F ++ J) (lt_app hs) (lt_app hr) (lt_app hm)
  rwa [app_set hm, app_set hm] at this
end
section
variable {s r m v v1 v2 : Nat} {L L1 L2 : Mem} {lim cnt cnt1 cnt2 rd lvl : Int} {Z Z1 Z2 : List (Int × Int)}
end

end Go.Proofs.Ytdngjamjccjlmaa
