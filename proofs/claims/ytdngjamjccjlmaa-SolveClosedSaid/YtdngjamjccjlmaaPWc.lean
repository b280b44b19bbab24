/- Lemmas: the functions of stores, third part. No condition. -/
import Derived.Test.YtdngjamjccjlmaaPSb
import Derived.Test.YtdngjamjccjlmaaPWb
import Derived.Test.YtdngjamjccjlmaaPWa

section
/- What is put into a store, with marks; how many nodes that makes. No condition. -/
set_option linter.unusedSimpArgs false
set_option linter.unusedVariables false
namespace Go.Proofs.Ytdngjamjccjlmaa
open Go Go.Ab

def putM : T → Mem → Mem × Nat
  | .base k, S => (S, k.val)
  | .dyn, S => (S, 4)
  | .var _, S => (S, 0)
  | .pair a b, S => let p := putM a S; let q := putM b p.1; (q.1 ++ [(⟨7, 0, none, [p.2, q.2]⟩, 0)], q.1.length)
  | .fn a b, S => let p := putM a S; let q := putM b p.1; (q.1 ++ [(⟨9, 0, none, [p.2, q.2]⟩, 0)], q.1.length)
  | .list a, S => let p := putM a S; (p.1 ++ [(⟨8, 0, none, [p.2]⟩, 0)], p.1.length)
theorem Mem.st_app (L : Mem) (x : Nd × Int) : Mem.st (L ++ [x]) = L.st ++ [x.1] := by simp [Mem.st]
theorem putM_st : ∀ (t : T) (L : Mem), (putM t L).1.st = (putN t L.st).1 ∧ (putM t L).2 = (putN t L.st).2 := by
  intro t
  induction t with
  | base k => intro L; exact ⟨rfl, rfl⟩
  | dyn => intro L; exact ⟨rfl, rfl⟩
  | var k => intro L; exact ⟨rfl, rfl⟩
  | pair a b ih1 ih2 =>
    intro L
    have h1 := ih1 L
    have h2 := ih2 (putM a L).1
    rw [h1.1] at h2
    constructor
    · simp only [putM, putN, Mem.st_app, h2.1, h2.2, h1.2]
    · simp only [putM, putN]; rw [← Mem.st_len, h2.1]
  | fn a b ih1 ih2 =>
    intro L
    have h1 := ih1 L
    have h2 := ih2 (putM a L).1
    rw [h1.1] at h2
    constructor
    · simp only [putM, putN, Mem.st_app, h2.1, h2.2, h1.2]
    · simp only [putM, putN]; rw [← Mem.st_len, h2.1]
  | list a ih1 =>
    intro L
    have h1 := ih1 L
    constructor
    · simp only [putM, putN, Mem.st_app, h1.1, h1.2]
    · simp only [putM, putN]; rw [← Mem.st_len, h1.1]
theorem putM_len : ∀ (t : T) (L : Mem), (putM t L).1.length = L.length + t.inner := by
  intro t
  induction t with
  | base k => intro L; rfl
  | dyn => intro L; rfl
  | var k => intro L; rfl
  | pair a b ih1 ih2 => intro L; simp only [putM, List.length_append, List.length_cons, List.length_nil, ih1, ih2, T.inner]; omega
  | fn a b ih1 ih2 => intro L; simp only [putM, List.length_append, List.length_cons, List.length_nil, ih1, ih2, T.inner]; omega
  | list a ih1 => intro L; simp only [putM, List.length_append, List.length_cons, List.length_nil, ih1, T.inner]; omega
theorem MB.add {L : Mem} {rd : Int} (h : MB L rd) (hr : 0 ≤ rd) (x : Nd) : MB (L ++ [(x, 0)]) rd := fun i hi => by
  simp only [List.length_append, List.length_cons, List.length_nil] at hi
  by_cases e : i < L.length
  · have := h i e
    simp only [List.getD_eq_getElem?_getD, List.getElem?_append_left e] at this ⊢; exact this
  · have : i = L.length := by omega
    subst this; simp; exact hr
theorem putM_mb {rd : Int} (hr : 0 ≤ rd) : ∀ (t : T) (L : Mem), MB L rd → MB (putM t L).1 rd := by
  intro t
  induction t with
  | base k => intro L h; exact h
  | dyn => intro L h; exact h
  | var k => intro L h; exact h
  | pair a b ih1 ih2 => intro L h; exact (ih2 _ (ih1 _ h)).add hr _
  | fn a b ih1 ih2 => intro L h; exact (ih2 _ (ih1 _ h)).add hr _
  | list a ih1 => intro L h; exact (ih1 _ h).add hr _
/-- What made tells. -/
def madeC : T → Nat → Nat
  | .pair a b, m => if m < 1 then 1 else let n := 1 + madeC a (m - 1); if m < n then n else n + madeC b (m - n)
  | .fn a b, m => if m < 1 then 1 else let n := 1 + madeC a (m - 1); if m < n then n else n + madeC b (m - n)
  | .list a, m => if m < 1 then 1 else 1 + madeC a (m - 1)
  | _, _ => 0
theorem madeC_ok : ∀ (t : T) (m : Nat), madeC t m ≤ t.inner ∧ (t.inner ≤ m → madeC t m = t.inner) ∧ (m < t.inner → m < madeC t m) := by
  intro t
  induction t with
  | base k => intro m; simp [madeC, T.inner]
  | dyn => intro m; simp [madeC, T.inner]
  | var k => intro m; simp [madeC, T.inner]
  | pair a b ih1 ih2 =>
    intro m
    have h1 := ih1 (m - 1)
    simp only [madeC, T.inner]
    split
    · omega
    · have h2 := ih2 (m - (1 + madeC a (m - 1)))
      split <;> omega
  | fn a b ih1 ih2 =>
    intro m
    have h1 := ih1 (m - 1)
    simp only [madeC, T.inner]
    split
    · omega
    · have h2 := ih2 (m - (1 + madeC a (m - 1)))
      split <;> omega
  | list a ih1 =>
    intro m
    have h1 := ih1 (m - 1)
    simp only [madeC, T.inner]
    split <;> omega
theorem inner_lt : ∀ t : T, t.inner < t.size := by
  intro t
  induction t with
  | base k => simp [T.inner, T.size]
  | dyn => simp [T.inner, T.size]
  | var k => simp [T.inner, T.size]
  | pair a b ih1 ih2 => simp only [T.inner, T.size]; omega
  | fn a b ih1 ih2 => simp only [T.inner, T.size]; omega
  | list a ih1 => simp only [T.inner, T.size]; omega

end Go.Proofs.Ytdngjamjccjlmaa
end

section
/- A store stays a store. No condition. -/
set_option linter.unusedSimpArgs false
set_option linter.unusedVariables false
namespace Go.Proofs.Ytdngjamjccjlmaa
open Go Go.Ab

/-- A store's nodes and marks are right. -/
structure SI (L : Mem) (rd : Int) : Prop where
  wf : Wf L.st
  mb : MB L rd
  rd0 : 0 ≤ rd
theorem wf_mem0 : Wf mem0.st := by
  have hk : ∀ i, mem0.st.kids i = [] ∧ mem0.st.link i = none := fun i => by
    match i with
    | 0 | 1 | 2 | 3 | 4 => exact ⟨rfl, rfl⟩
    | i + 5 => exact ⟨rfl, rfl⟩
  refine ⟨by decide, fun i hi => ?_, fun i h1 h2 => ?_, fun i j h => ?_, fun i j h => ?_, ⟨fun _ => 0, ⟨fun i j h => ?_, fun i j h => ?_⟩⟩⟩
  · match i, hi with
    | 0, _ | 1, _ | 2, _ | 3, _ | 4, _ => rfl
  · have : mem0.st.length = 5 := rfl
    omega
  · rw [(hk i).2] at h; cases h
  · rw [(hk i).1] at h; cases h
  · rw [(hk i).2] at h; cases h
  · rw [(hk i).1] at h; cases h
theorem SI.mem0 : SI mem0 0 := by
  refine ⟨wf_mem0, fun i hi => ?_, Int.le_refl _⟩
  have hi : i < 5 := hi
  match i, hi with
  | 0, _ | 1, _ | 2, _ | 3, _ | 4, _ => exact Int.le_refl _
theorem SI.add {L : Mem} {rd : Int} (h : SI L rd) {x : Nd} (hx : okNd x) (hl : x.link = none) (hk : ∀ k ∈ x.kids, k < L.length) : SI (L ++ [(x, 0)]) rd :=
  ⟨by rw [Mem.st_app]; exact h.wf.add hx hl (by rw [Mem.st_len]; exact hk), h.mb.add h.rd0 x, h.rd0⟩
theorem SI.var {L : Mem} {rd : Int} (h : SI L rd) (lv : Int) : SI (L ++ [varN lv]) rd := h.add (.inl ⟨rfl, rfl⟩) rfl (by simp)
theorem SI.two {L : Mem} {rd : Int} (h : SI L rd) {k : Int} (hk : k = 7 ∨ k = 9) {a b : Nat} (ha : a < L.length) (hb : b < L.length) : SI (L ++ [(⟨k, 0, none, [a, b]⟩, 0)]) rd :=
  h.add (.inr ⟨rfl, .inl ⟨hk, rfl⟩⟩) rfl (by simp; exact ⟨ha, hb⟩)
theorem SI.one {L : Mem} {rd : Int} (h : SI L rd) {a : Nat} (ha : a < L.length) : SI (L ++ [(⟨8, 0, none, [a]⟩, 0)]) rd :=
  h.add (.inr ⟨rfl, .inr ⟨rfl, rfl⟩⟩) rfl (by simp; exact ha)
theorem SI.mark {L : Mem} {rd : Int} (h : SI L rd) (l : List Nat) : SI (mkL L (rd + 1) l) (rd + 1) :=
  ⟨by rw [mkL_st]; exact h.wf, h.mb.mk l, by have := h.rd0; omega⟩
theorem low1_st {L : Mem} {lv : Int} {x : Nat} : (low1 L lv x).st = L.st.lv x (if lv < (L.st.nd x).level then lv else (L.st.nd x).level) := by
  rw [low1, Mem.st, List.map_set, St.lv, L.nd]; rfl
theorem low1_mb {L : Mem} {rd lv : Int} {x : Nat} (h : MB L rd) : MB (low1 L lv x) rd := fun i hi => by
  rw [low1_len] at hi
  have h1 := h i hi
  simp only [low1, List.getD_eq_getElem?_getD, List.getElem?_set]
  by_cases e : x = i
  · subst e; simp only [if_true, hi, Option.getD_some]; rw [List.getD_eq_getElem?_getD] at h1; exact h1
  · simp only [e, if_false]; rw [List.getD_eq_getElem?_getD] at h1; exact h1
theorem lowL_si {rd lv : Int} : ∀ (vs : List Nat) (L : Mem), SI L rd → (∀ x ∈ vs, 5 ≤ x ∧ x < L.length) → SI (lowL L lv vs) rd ∧ Lv L.st (lowL L lv vs).st
  | [], L, h, _ => ⟨h, Lv.refl _⟩
  | x :: vs, L, h, hv => by
    obtain ⟨h5, hx⟩ := hv x List.mem_cons_self
    have h1 : SI (low1 L lv x) rd := ⟨by rw [low1_st]; exact h.wf.lv h5 (by rw [Mem.st_len]; exact hx), low1_mb h.mb, h.rd0⟩
    obtain ⟨h2, h3⟩ := lowL_si vs (low1 L lv x) h1 fun y hy => by rw [low1_len]; exact hv y (List.mem_cons_of_mem _ hy)
    refine ⟨h2, Lv.trans ?_ h3⟩
    rw [low1_st]; exact Lv.lv (by rw [Mem.st_len]; exact hx)
/-- What the levels are behind a lowering. -/
theorem lowL_level {lv : Int} : ∀ (vs : List Nat) (L : Mem), (∀ x ∈ vs, x < L.length) → ∀ i, ((lowL L lv vs).st.nd i).level = if i ∈ vs then min (L.st.nd i).level lv else (L.st.nd i).level
  | [], L, _, i => by simp [lowL]
  | x :: vs, L, hv, i => by
    have hx := hv x List.mem_cons_self
    have h := lowL_level (lv := lv) vs (low1 L lv x) (fun y hy => by rw [low1_len]; exact hv y (List.mem_cons_of_mem _ hy)) i
    show ((lowL (low1 L lv x) lv vs).st.nd i).level = _
    rw [h, low1_st, St.nd_lv (by rw [Mem.st_len]; exact hx)]
    by_cases e : i = x
    · subst e
      simp only [if_true, List.mem_cons, true_or]
      split <;> split <;> omega
    · simp only [e, if_false, List.mem_cons, false_or]
theorem vars_five {S : St} (h : Wf S) {n : Nat} (hn : n < S.length) : ∀ x ∈ S.vars n, 5 ≤ x ∧ x < S.length := fun x hx => by
  obtain ⟨h1, h2⟩ := (h.mem_vars hn).1 hx
  refine ⟨Nat.le_of_not_lt fun h5 => ?_, h1.lt h hn⟩
  rw [St.kind, h.leaf x h5] at h2
  simp only at h2; omega
theorem SI.low {L : Mem} {rd : Int} (h : SI L rd) {n : Nat} (hn : n < L.length) (lv : Int) : SI (lowL (mkL L (rd + 1) (L.st.all n)) lv (L.st.vars n)) (rd + 1) ∧ Lv L.st (lowL (mkL L (rd + 1) (L.st.all n)) lv (L.st.vars n)).st := by
  have := lowL_si (lv := lv) (L.st.vars n) (mkL L (rd + 1) (L.st.all n)) (h.mark _) fun x hx => by
    have := vars_five h.wf (by rw [Mem.st_len]; exact hn) x hx
    rw [mkL_len]; rwa [Mem.st_len] at this
  rwa [mkL_st] at this
theorem linkM_len {L : Mem} {rd : Int} {x y : Nat} : (linkM L rd x y).length = L.length := by
  rw [linkM, lowL_len, mkL_len, setLk_len, mkL_len]
theorem SI.link {L : Mem} {rd : Int} (h : SI L rd) {x y : Nat} (hx : x < L.length) (hy : y < L.length) (hlx : L.st.link x = none) (hk : L.st.kind x = 6) (hly : L.st.link y = none) (hn : x ∉ L.st.all y) :
    Wf (L.st.lk x y) ∧ SI (linkM L rd x y) (rd + 2) ∧ Lv (L.st.lk x y) (linkM L rd x y).st := by
  have hw : Wf (L.st.lk x y) := h.wf.lk (by rw [Mem.st_len]; exact hx) (by rw [Mem.st_len]; exact hy) hlx hk hly hn
  have e1 : (setLk (mkL L (rd + 1) (L.st.all y)) x y).st = L.st.lk x y := by rw [setLk_st, mkL_st]
  have h1 : SI (setLk (mkL L (rd + 1) (L.st.all y)) x y) (rd + 1) := ⟨by rw [e1]; exact hw, setLk_mb (h.mark _).mb, (h.mark []).rd0⟩
  have h2 := h1.mark ((L.st.lk x y).all y)
  rw [show rd + 1 + 1 = rd + 2 by omega] at h2
  have h3 := lowL_si (lv := (L.st.nd x).level) ((L.st.lk x y).vars y) _ h2 fun z hz => by
    have := vars_five hw (by rw [St.lk_len, Mem.st_len]; exact hy) z hz
    rw [mkL_len, setLk_len, mkL_len]; rwa [St.lk_len, Mem.st_len] at this
  rw [mkL_st, e1] at h3
  exact ⟨hw, h3.1, h3.2⟩

end Go.Proofs.Ytdngjamjccjlmaa
end

section
/- Walks: the store: how much is read. No condition. -/
set_option linter.unusedSimpArgs false
set_option linter.unusedVariables false
set_option maxHeartbeats 4000000
set_option maxRecDepth 100000
namespace Go.Proofs.Ytdngjamjccjlmaa
open Go Go.Ab
open Nat (reduceEqDiff reduceAdd reduceLT reduceLeDiff reduceMul reducePow)
attribute [local irreducible] PCalls ACalls CallK GoCall GoDCall GoIf GoGb GoDGb GoO GoD GoX GoDX GoG GoDG GoGv GoDGv Go ALoop

/-- A reading's box. -/
def rdB (s m1 m2 : Nat) (most : Nat) : AObj := .box [.bptr s 0, .int .i64 most, .mp m1, .mp m2]
def szc (S : St) (most n : Nat) : Nat := min (nodes (S.tree n)) (most + 1)
def szA (S : St) (most : Nat) (ks : List Nat) : Nat := min (1 + nodesL (ks.map S.tree)) (most + 1)
/-- The sizes that are known are right. -/
def VZ (S : St) (most : Nat) (Z : List (Int × Int)) : Prop := ∀ k x, mget Z k = some x → ∃ n : Nat, k = n ∧ n < S.length ∧ S.root n = n ∧ x = szc S most n
section
variable {s r v c m1 m2 : Nat} {L : Mem} {lim cnt rd : Int} {most : Nat}
def RSzOK (s r v c m1 m2 : Nat) (L : Mem) (lim cnt rd : Int) (most n : Nat) : Prop := ∀ Z, VZ L.st most Z → ∃ Z', VZ L.st most Z' ∧
  ∀ F : List AObj, F[c]? = some (rdB s m1 m2 most) → F[s]? = some (bxS r v L.length lim cnt rd) → F[r]? = some (arS v L) → F[m1]? = some (.map (embM Z)) →
    ACalls Try.prog 89 [.bptr c 0, .int .i64 n] F fun x G => x = .int .i64 (szc L.st most n) ∧ G = F.set m1 (.map (embM Z'))
end

end Go.Proofs.Ytdngjamjccjlmaa
end

section
/- Walks: the store: what is read. No condition. -/
set_option linter.unusedSimpArgs false
set_option linter.unusedVariables false
set_option maxHeartbeats 4000000
set_option maxRecDepth 100000
namespace Go.Proofs.Ytdngjamjccjlmaa
open Go Go.Ab
open Nat (reduceEqDiff reduceAdd reduceLT reduceLeDiff reduceMul reducePow)
attribute [local irreducible] PCalls ACalls CallK GoCall GoDCall GoIf GoGb GoDGb GoO GoD GoX GoDX GoG GoDG GoGv GoDGv Go ALoop

/-- The types of roots that were read. -/
def embRd (S : St) (K : List Nat) : List (AV × AV) := K.map fun k => (.int .i64 (k : Nat), emb (S.tree k))
def rfind (S : St) : List Nat → Nat → Nat → Option (Nat × AV)
  | [], _, _ => none
  | k :: K, n, i => if k = n then some (i, emb (S.tree k)) else rfind S K n (i + 1)
section
variable {s r v c m1 m2 : Nat} {L : Mem} {lim cnt rd : Int} {most : Nat}
def RTyOK (s r v c m1 m2 : Nat) (L : Mem) (lim cnt rd : Int) (most n : Nat) : Prop := ∀ K : List Nat, ∃ K' : List Nat,
  ∀ F : List AObj, F[c]? = some (rdB s m1 m2 most) → F[s]? = some (bxS r v L.length lim cnt rd) → F[r]? = some (arS v L) → F[m2]? = some (.map (embRd L.st K)) →
    DCalls Try.prog 90 [.bptr c 0, .int .i64 n] F (emb (L.st.tree n)) (F.set m2 (.map (embRd L.st K')))
end

end Go.Proofs.Ytdngjamjccjlmaa
end

section
/- Walks: the store: a node is read. No condition. -/
set_option linter.unusedSimpArgs false
set_option linter.unusedVariables false
set_option maxHeartbeats 4000000
set_option maxRecDepth 100000
namespace Go.Proofs.Ytdngjamjccjlmaa
open Go Go.Ab
open Nat (reduceEqDiff reduceAdd reduceLT reduceLeDiff reduceMul reducePow)
attribute [local irreducible] PCalls ACalls CallK GoCall GoDCall GoIf GoGb GoDGb GoO GoD GoX GoDX GoG GoDG GoGv GoDGv Go ALoop

section
variable {F : List AObj} {s r v : Nat} {L : Mem} {lim cnt rd : Int}
end

end Go.Proofs.Ytdngjamjccjlmaa
end

