/- Lemmas: trees and coercions in plain Lean. No condition. -/
import Derived.Test.YtdngjamjccjlmaaEmb
import Derived.Test.YtdngjamjccjlmaaPAb

set_option linter.unusedSimpArgs false
set_option linter.unusedVariables false
set_option maxHeartbeats 4000000
namespace Go.Proofs.Ytdngjamjccjlmaa
open Go Go.Ab
open Nat renaming reduceEqDiff → yA, reduceAdd → yB, reduceLT → yC, reduceLeDiff → yD, reduceMul → yE, reducePow → yF, reduceBEq → yG
open Int renaming reduceAdd → yH, reduceLT → yI, reduceToNat → yJ, reduceBEq → yK, reduceBNe → yL, reduceLE → yM
section
theorem Ty.ind {p : Ty → Prop} (h : ∀ t, (∀ x ∈ t.kids, p x) → p t) : ∀ t, p t := by
  intro t
  have key : ∀ (n : Nat) (t : Ty), SizeOf.sizeOf t ≤ n → p t := by
    intro n
    induction n with
    | zero => intro t hs; cases t; simp at hs
    | succ n ih =>
      rintro ⟨k, m, l⟩ hs
      refine h _ fun x hx => ih x ?_
      have := List.sizeOf_lt_of_mem (show x ∈ l from hx)
      simp only [Ty.mk.sizeOf_spec] at hs; omega
  exact key _ t (Nat.le_refl _)

def Ty.kid (t : Ty) (i : Nat) : Ty := t.kids.getD i default

def allN (n : Nat) (g : Nat → Bool) : Bool := (List.range n).all g
theorem allN_false {n i : Nat} {g : Nat → Bool} (h : i < n) (hg : g i = false) : allN n g = false := by
  cases h0 : allN n g with
  | false => rfl
  | true => simp only [allN, List.all_eq_true, List.mem_range] at h0; rw [h0 i h] at hg; cases hg
theorem allN_true {n : Nat} {g : Nat → Bool} (h : ∀ i, i < n → g i = true) : allN n g = true := by
  simp only [allN, List.all_eq_true, List.mem_range]; exact h
theorem allN_iff {n : Nat} {g : Nat → Bool} : allN n g = true ↔ ∀ i, i < n → g i = true := by
  simp only [allN, List.all_eq_true, List.mem_range]
theorem allN_zero (g : Nat → Bool) : allN 0 g = true := rfl
theorem allN_succ (n : Nat) (g : Nat → Bool) : allN (n + 1) g = (g 0 && allN n fun i => g (i + 1)) := by
  rw [Bool.eq_iff_iff, Bool.and_eq_true, allN_iff, allN_iff]
  constructor
  · intro h; exact ⟨h 0 (by omega), fun i hi => h (i + 1) (by omega)⟩
  · rintro ⟨h0, h1⟩ i hi
    cases i with
    | zero => exact h0
    | succ i => exact h1 i (by omega)

def arity (k : Int) : Int :=
  if k = 1 ∨ k = 2 ∨ k = 3 ∨ k = 4 ∨ k = 5 ∨ k = 6 then 0 else if k = 8 then 1 else if k = 7 ∨ k = 9 then 2 else -1

def okN (t : Ty) : Bool := decide ((t.kids.length : Int) = arity t.kind) && (if t.kind = 6 then decide (0 ≤ t.num) && decide (t.num ≤ 1048576) else decide (t.num = 0))

mutual
def right : Ty → Bool
  | .mk k n l => okN (.mk k n l) && rightL l
def rightL : List Ty → Bool
  | [] => true
  | t :: l => right t && rightL l
end
theorem rightL_all : ∀ l, rightL l = allN l.length fun i => right (l.getD i default)
  | [] => rfl
  | t :: l => by rw [rightL, List.length_cons, allN_succ, rightL_all l]; rfl
theorem right_eq (t : Ty) : right t = (okN t && allN t.kids.length fun i => right (t.kid i)) := by
  cases t with | mk k n l => rw [right, rightL_all]; rfl

mutual
def same : Ty → Ty → Bool
  | .mk k n l, .mk k' n' l' => decide (k = k') && decide (n = n') && sameL l l'
def sameL : List Ty → List Ty → Bool
  | [], [] => true
  | a :: l, b :: l' => same a b && sameL l l'
  | _, _ => false
end
theorem sameL_all : ∀ l l', sameL l l' = (decide (l.length = l'.length) && allN l.length fun i => same (l.getD i default) (l'.getD i default))
  | [], [] => rfl
  | [], _ :: _ => rfl
  | _ :: _, [] => rfl
  | a :: l, b :: l' => by
    rw [sameL, List.length_cons, List.length_cons, allN_succ, sameL_all l l']
    simp [Bool.and_left_comm]
theorem same_eq (a b : Ty) : same a b = (decide (a.kind = b.kind) && decide (a.num = b.num) && decide (a.kids.length = b.kids.length) && allN a.kids.length fun i => same (a.kid i) (b.kid i)) := by
  cases a with | mk k n l => cases b with | mk k' n' l' => rw [same, sameL_all]; simp only [Ty.kind, Ty.num, Ty.kids, Ty.kid, Bool.and_assoc]; rfl
end
section
mutual
def nodes : Ty → Nat
  | .mk _ _ l => 1 + nodesL l
def nodesL : List Ty → Nat
  | [] => 0
  | t :: l => nodes t + nodesL l
end
mutual
def depth : Ty → Nat
  | .mk _ _ l => depthL l + 1
def depthL : List Ty → Nat
  | [] => 0
  | t :: l => max (depth t) (depthL l)
end
theorem nodesL_app : ∀ l l', nodesL (l ++ l') = nodesL l + nodesL l'
  | [], l' => by simp [nodesL]
  | a :: l, l' => by simp [nodesL, nodesL_app l l', Nat.add_assoc]
theorem nodes_eq (t : Ty) : nodes t = 1 + nodesL t.kids := by cases t; rfl
theorem nodes_pos (t : Ty) : 0 < nodes t := by rw [nodes_eq]; omega
theorem nodesL_mem {x : Ty} : ∀ {l : List Ty}, x ∈ l → nodes x ≤ nodesL l
  | a :: l, h => by
    rcases List.mem_cons.1 h with rfl | h
    · simp [nodesL]
    · have := nodesL_mem h; simp [nodesL]; omega
theorem nodes_kid {t x : Ty} (h : x ∈ t.kids) : nodes x < nodes t := by have := nodesL_mem h; rw [nodes_eq t]; omega
theorem length_le_nodesL : ∀ l : List Ty, l.length ≤ nodesL l
  | [] => Nat.le_refl _
  | a :: l => by have := length_le_nodesL l; have := nodes_pos a; simp [nodesL]; omega
theorem length_lt_nodes (t : Ty) : t.kids.length < nodes t := by have := length_le_nodesL t.kids; rw [nodes_eq]; omega
mutual
theorem depth_le_nodes : ∀ t, depth t ≤ nodes t
  | .mk _ _ l => by have := depthL_le_nodes l; simp [depth, nodes]; omega
theorem depthL_le_nodes : ∀ l, depthL l ≤ nodesL l
  | [] => Nat.le_refl _
  | t :: l => by have := depthL_le_nodes l; have := depth_le_nodes t; simp [depthL, nodesL]; omega
end

mutual
def without (k : Int) : Ty → Bool
  | .mk k' _ l => decide (k' ≠ k) && withoutL k l
def withoutL (k : Int) : List Ty → Bool
  | [] => true
  | t :: l => without k t && withoutL k l
end
theorem withoutL_all (k : Int) : ∀ l, withoutL k l = allN l.length fun i => without k (l.getD i default)
  | [] => rfl
  | t :: l => by rw [withoutL, List.length_cons, allN_succ, withoutL_all k l]; rfl
theorem without_eq (k : Int) (t : Ty) : without k t = (decide (t.kind ≠ k) && allN t.kids.length fun i => without k (t.kid i)) := by
  cases t with | mk k n l => rw [without, withoutL_all]; rfl

def dynT : Ty := .mk 5 0 []
def leafT (k : Int) : Ty := .mk k 0 []
def twoT (k : Int) (a b : Ty) : Ty := .mk k 0 [a, b]
def listT (a : Ty) : Ty := .mk 8 0 [a]
def noneT : Ty := .mk 0 0 []

mutual
def agree : Ty → Ty → Bool
  | .mk ka na la, b => if ka = 5 then without 6 b else if b.kind = 5 then without 6 (.mk ka na la) else if ka ≠ b.kind ∨ na ≠ b.num then false else agreeL la b.kids
def agreeL : List Ty → List Ty → Bool
  | [], _ => true
  | a :: l, m => agree a (m.getD 0 default) && agreeL l (m.drop 1)
end
mutual
def meet : Ty → Ty → Ty
  | .mk ka na la, b => if ka = 5 then b else if b.kind = 5 ∨ la = [] then .mk ka na la else .mk ka 0 (meetL la b.kids)
def meetL : List Ty → List Ty → List Ty
  | [], _ => []
  | a :: l, m => meet a (m.getD 0 default) :: meetL l (m.drop 1)
end
mutual
def below : Ty → Ty → Bool
  | .mk ka na la, b => if b.kind = 5 then true else if ka ≠ b.kind ∨ na ≠ b.num then false else belowL la b.kids
def belowL : List Ty → List Ty → Bool
  | [], _ => true
  | a :: l, m => below a (m.getD 0 default) && belowL l (m.drop 1)
end
theorem belowL_all : ∀ l m, belowL l m = allN l.length fun i => below (l.getD i default) (m.getD i default)
  | [], _ => rfl
  | a :: l, m => by
    rw [belowL, List.length_cons, allN_succ, belowL_all l (m.drop 1)]
    congr 2; funext i
    simp [List.getD_eq_getElem?_getD]
theorem below_eq (a b : Ty) : below a b = if b.kind = 5 then true else if a.kind ≠ b.kind ∨ a.num ≠ b.num then false else allN a.kids.length fun i => below (a.kid i) (b.kid i) := by
  cases a with | mk k n l => rw [below, belowL_all]; rfl

def ground (t : Ty) : Ty := .mk t.kind 0 (List.replicate t.kids.length dynT)
def headK (k : Int) : Bool := decide (k = 1 ∨ k = 2 ∨ k = 3 ∨ k = 4 ∨ k = 7 ∨ k = 8 ∨ k = 9)

def other (s : Int) : Int := if s = 0 then 1 else if s = 1 then 0 else 2
def subF : Nat → Int → Ty → Ty → Bool
  | 0, _, _, _ => false
  | n + 1, s, a, b =>
    if (s = 0 ∧ b.kind = 5) ∨ (s = 1 ∧ a.kind = 5) then true
    else if b.kind = 5 ∧ a.kind ≠ 5 then decide (a.kind ≠ 6) && (if a.kind = 9 then subF n (other s) dynT (a.kid 0) && subF n s (a.kid 1) dynT else if a.kind = 7 then subF n s (a.kid 0) dynT && subF n s (a.kid 1) dynT else if a.kind = 8 then subF n s (a.kid 0) dynT else true)
    else if a.kind ≠ b.kind ∨ a.num ≠ b.num then false
    else if a.kind = 9 then subF n (other s) (b.kid 0) (a.kid 0) && subF n s (a.kid 1) (b.kid 1) else if a.kind = 7 then subF n s (a.kid 0) (b.kid 0) && subF n s (a.kid 1) (b.kid 1) else if a.kind = 8 then subF n s (a.kid 0) (b.kid 0) else true
def sub (s : Int) (a b : Ty) : Bool := subF (nodes a + nodes b) s a b

theorem right_kids {t : Ty} (h : right t = true) : (t.kids.length : Int) = arity t.kind ∧ ∀ x ∈ t.kids, right x = true := by
  rw [right_eq, Bool.and_eq_true] at h
  obtain ⟨h1, h2⟩ := h
  simp only [okN, Bool.and_eq_true, decide_eq_true_eq] at h1
  refine ⟨h1.1, fun x hx => ?_⟩
  obtain ⟨i, hi, rfl⟩ := List.mem_iff_getElem.1 hx
  have := allN_iff.1 h2 i hi
  simpa [Ty.kid, hi] using this
theorem right_num {t : Ty} (h : right t = true) (hk : t.kind ≠ 6) : t.num = 0 := by
  rw [right_eq, Bool.and_eq_true] at h
  simp only [okN, Bool.and_eq_true, hk, if_false, decide_eq_true_eq] at h
  exact h.1.2
theorem right_kid {t : Ty} (h : right t = true) {i : Nat} (hi : i < t.kids.length) : right (t.kid i) = true :=
  (right_kids h).2 _ (by simp [Ty.kid, hi])
theorem right_arity {t : Ty} (h : right t = true) : (t.kind = 1 ∨ t.kind = 2 ∨ t.kind = 3 ∨ t.kind = 4 ∨ t.kind = 5 ∨ t.kind = 6) ∧ t.kids = [] ∨ t.kind = 8 ∧ t.kids.length = 1 ∨ (t.kind = 7 ∨ t.kind = 9) ∧ t.kids.length = 2 := by
  have h1 := (right_kids h).1
  unfold arity at h1
  split at h1
  · rename_i hk
    exact .inl ⟨hk, List.eq_nil_of_length_eq_zero (by omega)⟩
  · split at h1
    · rename_i hk; exact .inr (.inl ⟨hk, by omega⟩)
    · split at h1
      · rename_i hk; exact .inr (.inr ⟨hk, by omega⟩)
      · omega
end
section
theorem kidmem {t : Ty} {i : Nat} (h : i < t.kids.length) : t.kid i ∈ t.kids := by simp [h, Ty.kid]

theorem Ty.ext' {a b : Ty} (h : a.kind = b.kind) (hn : a.num = b.num) (hl : b.kids.length = a.kids.length) (hk : ∀ i, i < a.kids.length → a.kid i = b.kid i) : a = b := by
  cases a with | mk k n l => cases b with | mk k' n' l' =>
    simp only [Ty.kind, Ty.num, Ty.kids, Ty.kid] at *
    subst h; subst hn
    have : l = l' := List.ext_getElem hl.symm fun i h1 h2 => by
      have := hk i h1
      simpa [h1, h2] using this
    rw [this]

theorem same_refl : ∀ t : Ty, same t t = true := Ty.ind fun t ih => by
  rw [same_eq, allN_true fun i hi => ih _ (kidmem hi)]; simp
theorem below_iff {a b : Ty} : below a b = true ↔ b.kind = 5 ∨ (b.kind ≠ 5 ∧ a.kind = b.kind ∧ a.num = b.num ∧ ∀ i, i < a.kids.length → below (a.kid i) (b.kid i) = true) := by
  rw [below_eq]
  by_cases h5 : b.kind = 5
  · simp [h5]
  · by_cases hk : a.kind = b.kind
    · by_cases hn : a.num = b.num
      · simp [h5, hk, hn, allN_iff]
      · simp [h5, hk, hn]
    · simp [h5, hk]

theorem below_dyn (t : Ty) {d : Ty} (h : d.kind = 5) : below t d = true := below_iff.2 (.inl h)

theorem mk_len (k n : Int) (m : Nat) (g : Nat → Ty) : (Ty.mk k n ((List.range m).map g)).kids.length = m := by simp [Ty.kids]

theorem right_okN {t : Ty} (h : right t = true) : okN t = true := by rw [right_eq, Bool.and_eq_true] at h; exact h.1
theorem okN_of {a b : Ty} (h1 : b.kind = a.kind) (h2 : b.num = a.num) (h3 : b.kids.length = a.kids.length) (h : okN a = true) : okN b = true := by
  simp only [okN, h1, h2, h3] at h ⊢; exact h
end
section
mutual
def fillT : Ty → Ty → Ty
  | .mk k n l, b => if k = 5 then b else .mk k n (if k = b.kind then fillL l b.kids else l)
def fillL : List Ty → List Ty → List Ty
  | [], _ => []
  | a :: l, m => fillT a (m.getD 0 default) :: fillL l (m.drop 1)
end
mutual
def putT (v : Int) : Ty → Ty
  | .mk k n l => .mk (if k = 5 then 6 else k) (if k = 5 then v else n) (putL v l)
def putL (v : Int) : List Ty → List Ty
  | [] => []
  | a :: l => putT v a :: putL v l
end
mutual
def lessT : Ty → List Bool → Ty × List Bool
  | .mk k n kids, l => if l.head? = some true then (dynT, l.tail) else (.mk k n (lessL kids l.tail).1, (lessL kids l.tail).2)
def lessL : List Ty → List Bool → List Ty × List Bool
  | [], l => ([], l)
  | a :: ks, l => ((lessT a l).1 :: (lessL ks (lessT a l).2).1, (lessL ks (lessT a l).2).2)
end

mutual
theorem lessT_keep : ∀ (t : Ty) (l : List Bool), right t = true → right (lessT t l).1 = true ∧ below t (lessT t l).1 = true ∧ nodes (lessT t l).1 ≤ nodes t
  | .mk k n kids, l, h => by
    rw [lessT]
    split
    · exact ⟨rfl, below_dyn _ rfl, nodes_pos _⟩
    · have hr : rightL kids = true := by rw [right, Bool.and_eq_true] at h; exact h.2
      obtain ⟨h1, h2, h3, h4⟩ := lessL_keep kids l.tail hr
      have hok := right_okN h
      refine ⟨?_, ?_, ?_⟩
      · rw [right, Bool.and_eq_true]; exact ⟨okN_of (a := .mk k n kids) rfl rfl h2 hok, h1⟩
      · refine below_iff.2 ?_
        by_cases h5 : k = 5
        · exact .inl h5
        · refine .inr ⟨h5, rfl, rfl, fun i hi => h3 i hi⟩
      · simp only [nodes_eq, Ty.kids]; omega
theorem lessL_keep : ∀ (ks : List Ty) (l : List Bool), rightL ks = true → rightL (lessL ks l).1 = true ∧ (lessL ks l).1.length = ks.length ∧ (∀ i, i < ks.length → below (ks.getD i default) ((lessL ks l).1.getD i default) = true) ∧ nodesL (lessL ks l).1 ≤ nodesL ks
  | [], l, _ => ⟨rfl, rfl, fun i hi => absurd hi (by simp), Nat.le_refl _⟩
  | a :: ks, l, h => by
    rw [rightL, Bool.and_eq_true] at h
    obtain ⟨h1, h2, h3⟩ := lessT_keep a l h.1
    obtain ⟨g1, g2, g3, g4⟩ := lessL_keep ks (lessT a l).2 h.2
    rw [lessL]
    refine ⟨by rw [rightL, h1, g1]; rfl, by simp [g2], fun i hi => ?_, by simp only [nodesL]; omega⟩
    cases i with
    | zero => exact h2
    | succ i => exact g3 i (by simpa using hi)
end
end
section
def kidF (r : Int → Ty → Ty → Bool) (s : Int) (a x y : Ty) : Bool :=
  if a.kind = 9 then r (other s) x (a.kid 0) && r s (a.kid 1) y
  else if a.kind = 7 then r s (a.kid 0) x && r s (a.kid 1) y
  else if a.kind = 8 then r s (a.kid 0) x else true

def sbF : Nat → Int → Ty → Ty → Bool
  | 0, _, _, _ => false
  | n + 1, s, a, b =>
    if (s = 0 ∧ b.kind = 5) ∨ (s = 1 ∧ a.kind = 5) then true
    else if b.kind = 5 ∧ a.kind ≠ 5 then decide (a.kind ≠ 6) && kidF (sbF n) s a dynT dynT
    else if a.kind ≠ b.kind ∨ a.num ≠ b.num then false
    else kidF (sbF n) s a (b.kid 0) (b.kid 1)
def sb (s : Int) (a b : Ty) : Bool := sbF (nodes a + nodes b) s a b

def sideOK (s : Int) : Prop := s = 0 ∨ s = 1 ∨ s = 2
end
section
inductive Co where
  | mk (kind head label : Int) (neg : Bool) (kids : List Co)
instance : Inhabited Co := ⟨.mk 0 0 0 false []⟩
def Co.kind : Co → Int | .mk k _ _ _ _ => k
def Co.head : Co → Int | .mk _ h _ _ _ => h
def Co.label : Co → Int | .mk _ _ l _ _ => l
def Co.neg : Co → Bool | .mk _ _ _ n _ => n
def Co.kids : Co → List Co | .mk _ _ _ _ ks => ks
def Co.kid (c : Co) (i : Nat) : Co := c.kids.getD i default
theorem Co.eta (c : Co) : Co.mk c.kind c.head c.label c.neg c.kids = c := by cases c; rfl
theorem Co.kind_mk (k h l : Int) (n : Bool) (ks : List Co) : (Co.mk k h l n ks).kind = k := rfl
theorem Co.kids_mk (k h l : Int) (n : Bool) (ks : List Co) : (Co.mk k h l n ks).kids = ks := rfl

theorem Co.ind {p : Co → Prop} (h : ∀ t, (∀ x ∈ t.kids, p x) → p t) : ∀ t, p t := by
  intro t
  have key : ∀ (n : Nat) (t : Co), SizeOf.sizeOf t ≤ n → p t := by
    intro n
    induction n with
    | zero => intro t hs; cases t; simp at hs
    | succ n ih =>
      rintro ⟨k, m, l, b, ks⟩ hs
      refine h _ fun x hx => ih x ?_
      have := List.sizeOf_lt_of_mem (show x ∈ ks from hx)
      simp only [Co.mk.sizeOf_spec] at hs; omega
  exact key _ t (Nat.le_refl _)

theorem cokid_mem {c : Co} {i : Nat} (h : i < c.kids.length) : c.kid i ∈ c.kids := by simp [h, Co.kid]

def former (k : Int) : Int := if k = 2 then 9 else if k = 3 then 7 else if k = 4 then 8 else 0
def labelOK (l : Int) : Bool := decide (0 ≤ l) && decide (l ≤ 1048576)

def okC (c : Co) : Bool :=
  if c.kind = 1 then decide (c.kids.length = 0) && decide (c.head = 0) && decide (c.label = 0) && !c.neg
  else if c.kind = 7 then decide (c.kids.length = 0) && decide (c.head = 0) && labelOK c.label
  else if c.kind = 5 then decide (c.kids.length = 1) && headK c.head && decide (c.label = 0) && !c.neg && (decide ((c.kid 0).kind = 1) || decide (former (c.kid 0).kind = c.head))
  else if c.kind = 6 then decide (c.kids.length = 1) && headK c.head && labelOK c.label && (decide ((c.kid 0).kind = 7) || (decide ((c.kid 0).kind = 5) && decide ((c.kid 0).head = c.head)) || (decide ((c.kid 0).kind = 1) || decide (former (c.kid 0).kind = c.head)))
  else if c.kind = 2 ∨ c.kind = 3 ∨ c.kind = 4 then decide (c.kids.length = if c.kind = 4 then 1 else 2) && decide (c.head = 0) && decide (c.label = 0) && !c.neg && c.kids.any fun x => decide (x.kind ≠ 1)
  else false

mutual
def rightC : Co → Bool
  | .mk k h l n ks => okC (.mk k h l n ks) && rightCL ks
def rightCL : List Co → Bool
  | [] => true
  | t :: l => rightC t && rightCL l
end
theorem rightCL_all : ∀ l, rightCL l = allN l.length fun i => rightC (l.getD i default)
  | [] => rfl
  | t :: l => by rw [rightCL, List.length_cons, allN_succ, rightCL_all l]; rfl
theorem rightC_eq (t : Co) : rightC t = (okC t && allN t.kids.length fun i => rightC (t.kid i)) := by
  cases t with | mk k h l n ks => rw [rightC, rightCL_all]; rfl
theorem rightC_mem {c x : Co} (h : rightC c = true) (hx : x ∈ c.kids) : rightC x = true := by
  rw [rightC_eq, Bool.and_eq_true, allN_iff] at h
  obtain ⟨i, hi, rfl⟩ := List.mem_iff_getElem.1 hx
  have := h.2 i hi
  simpa [Co.kid, hi] using this
theorem rightC_kid {c : Co} (h : rightC c = true) {i : Nat} (hi : i < c.kids.length) : rightC (c.kid i) = true := rightC_mem h (cokid_mem hi)
theorem rightC_ok {c : Co} (h : rightC c = true) : okC c = true := by rw [rightC_eq, Bool.and_eq_true] at h; exact h.1

def within (c : Co) (h : Int) : Bool := (decide (c.kind = 1) || decide (former c.kind = h)) && rightC c

mutual
def sameC : Co → Co → Bool
  | .mk k h l n ks, .mk k' h' l' n' ks' => decide (k = k') && decide (h = h') && decide (l = l') && (n == n') && sameCL ks ks'
def sameCL : List Co → List Co → Bool
  | [], [] => true
  | a :: l, b :: l' => sameC a b && sameCL l l'
  | _, _ => false
end
mutual
def nodesC : Co → Nat
  | .mk _ _ _ _ l => 1 + nodesCL l
def nodesCL : List Co → Nat
  | [] => 0
  | t :: l => nodesC t + nodesCL l
end
mutual
def heightC : Co → Nat
  | .mk k _ _ _ l => if k = 5 ∨ k = 6 then heightCL l else heightCL l + 1
def heightCL : List Co → Nat
  | [] => 0
  | t :: l => max (heightC t) (heightCL l)
end
inductive K where
  | id
  | fn (a b : K)
  | pair (a b : K)
  | list (a : K)
  | inj (h : Int) (k : K)
  | proj (h l : Int) (n : Bool) (k : K)
  | fail (l : Int) (n : Bool)

def K.co : K → Co
  | .id => .mk 1 0 0 false []
  | .fn a b => .mk 2 0 0 false [a.co, b.co]
  | .pair a b => .mk 3 0 0 false [a.co, b.co]
  | .list a => .mk 4 0 0 false [a.co]
  | .inj h k => .mk 5 h 0 false [k.co]
  | .proj h l n k => .mk 6 h l n [k.co]
  | .fail l n => .mk 7 0 l n []

def K.form : K → Int
  | .fn _ _ => 9
  | .pair _ _ => 7
  | .list _ => 8
  | _ => 0
def K.isId : K → Bool | .id => true | _ => false
def K.isFail : K → Bool | .fail _ _ => true | _ => false
def K.injOf (h : Int) : K → Bool | .inj h' _ => decide (h' = h) | _ => false

def K.ok : K → Bool
  | .id => true
  | .fn a b => a.ok && b.ok && !(a.isId && b.isId)
  | .pair a b => a.ok && b.ok && !(a.isId && b.isId)
  | .list a => a.ok && !a.isId
  | .inj h k => k.ok && headK h && (k.isId || decide (k.form = h))
  | .proj h l _ k => k.ok && headK h && labelOK l && (k.isFail || k.injOf h || (k.isId || decide (k.form = h)))
  | .fail l _ => labelOK l

theorem one_kid {c : Co} (h : c.kids.length = 1) : c.kids = [c.kid 0] := by
  obtain ⟨k, hd, l, n, ks⟩ := c
  match ks, h with
  | [x], _ => rfl
theorem two_kids {c : Co} (h : c.kids.length = 2) : c.kids = [c.kid 0, c.kid 1] := by
  obtain ⟨k, hd, l, n, ks⟩ := c
  match ks, h with
  | [x, y], _ => rfl
theorem no_kids {c : Co} (h : c.kids.length = 0) : c.kids = [] := List.length_eq_zero_iff.1 h

theorem K.of_right : ∀ c : Co, rightC c = true → ∃ k : K, c = k.co := by
  refine Co.ind fun c ih hc => ?_
  have ho := rightC_ok hc
  have hk : ∀ i, i < c.kids.length → ∃ k : K, c.kid i = k.co := fun i hi => ih _ (cokid_mem hi) (rightC_kid hc hi)
  have e := Co.eta c
  unfold okC at ho
  split at ho
  · rename_i h1
    simp only [Bool.and_eq_true, decide_eq_true_eq, Bool.not_eq_true'] at ho
    exact ⟨.id, by rw [← e, h1, ho.1.1.2, ho.1.2, ho.2, no_kids ho.1.1.1]; rfl⟩
  split at ho
  · rename_i h1
    simp only [Bool.and_eq_true, decide_eq_true_eq, Bool.not_eq_true'] at ho
    exact ⟨.fail c.label c.neg, by conv => lhs; rw [← e, h1, ho.1.2, no_kids ho.1.1]
                                   rfl⟩
  split at ho
  · rename_i h1
    simp only [Bool.and_eq_true, decide_eq_true_eq, Bool.not_eq_true'] at ho
    obtain ⟨k, hk0⟩ := hk 0 (by omega)
    exact ⟨.inj c.head k, by conv => lhs; rw [← e, h1, ho.1.1.2, ho.1.2, one_kid ho.1.1.1.1, hk0]
                             rfl⟩
  split at ho
  · rename_i h1
    simp only [Bool.and_eq_true, decide_eq_true_eq, Bool.not_eq_true'] at ho
    obtain ⟨k, hk0⟩ := hk 0 (by omega)
    exact ⟨.proj c.head c.label c.neg k, by conv => lhs; rw [← e, h1, one_kid ho.1.1.1, hk0]
                                            rfl⟩
  split at ho
  · rename_i h1
    simp only [Bool.and_eq_true, decide_eq_true_eq, Bool.not_eq_true'] at ho
    obtain ⟨⟨⟨⟨h2, h3⟩, h4⟩, h5⟩, h6⟩ := ho
    rcases h1 with h1 | h1 | h1
    · rw [if_neg (by omega)] at h2
      obtain ⟨a, ha⟩ := hk 0 (by omega)
      obtain ⟨b, hb⟩ := hk 1 (by omega)
      exact ⟨.fn a b, by rw [← e, h1, h3, h4, h5, two_kids h2, ha, hb]; rfl⟩
    · rw [if_neg (by omega)] at h2
      obtain ⟨a, ha⟩ := hk 0 (by omega)
      obtain ⟨b, hb⟩ := hk 1 (by omega)
      exact ⟨.pair a b, by rw [← e, h1, h3, h4, h5, two_kids h2, ha, hb]; rfl⟩
    · rw [if_pos h1] at h2
      obtain ⟨a, ha⟩ := hk 0 (by omega)
      exact ⟨.list a, by rw [← e, h1, h3, h4, h5, one_kid h2, ha]; rfl⟩
  · cases ho
end
section
def K.size : K → Nat
  | .id => 1
  | .fn a b => a.size + b.size + 1
  | .pair a b => a.size + b.size + 1
  | .list a => a.size + 1
  | .inj _ k => k.size + 1
  | .proj _ _ _ k => k.size + 1
  | .fail _ _ => 1
theorem K.size_pos (k : K) : 0 < k.size := by cases k <;> simp [K.size]

def mkFn (a b : K) : K := if a.isId && b.isId then .id else .fn a b
def mkPair (a b : K) : K := if a.isId && b.isId then .id else .pair a b
def mkList (a : K) : K := if a.isId then .id else .list a
def both2 (f : K → K → K) : Option K → Option K → Option K
  | some x, some y => some (f x y)
  | _, _ => none

def joinF : Nat → K → K → Option K
  | 0, _, _ => none
  | n + 1, .id, d => some d
  | n + 1, .fail l b, _ => some (.fail l b)
  | n + 1, .proj h l b k, d => (joinF n k d).map (.proj h l b)
  | n + 1, .inj h k, d => match d with
    | .id => some (.inj h k)
    | .proj h' l b k' => if h = h' then joinF n k k' else some (.fail l b)
    | _ => none
  | n + 1, .fn a a', d => match d with
    | .id => some (.fn a a')
    | .fail l b => some (.fail l b)
    | .inj h k => (joinF n (.fn a a') k).map (.inj h)
    | .fn b b' => both2 mkFn (joinF n b a) (joinF n a' b')
    | _ => none
  | n + 1, .pair a a', d => match d with
    | .id => some (.pair a a')
    | .fail l b => some (.fail l b)
    | .inj h k => (joinF n (.pair a a') k).map (.inj h)
    | .pair b b' => both2 mkPair (joinF n a b) (joinF n a' b')
    | _ => none
  | n + 1, .list a, d => match d with
    | .id => some (.list a)
    | .fail l b => some (.fail l b)
    | .inj h k => (joinF n (.list a) k).map (.inj h)
    | .list b => (joinF n a b).map mkList
    | _ => none

def joinK (c d : K) : Option K := joinF (c.size + d.size) c d
def K.isForm (c : K) : Bool := decide (c.form ≠ 0)
end
section
attribute [local irreducible] PCalls ACalls CallK GoCall GoDCall GoIf GoGb GoDGb GoO GoD GoX GoDX GoG GoDG GoGv GoDGv Go ALoop

theorem wrap_i {n : Int} (h1 : -9223372036854775808 ≤ n) (h2 : n ≤ 9223372036854775807) : IntKind.wrap .i64 n = n := wrap_id .i64 n h1 h2
def kint (x n : Int) : Int := (x % 18446744073709551616) % n
end
end Go.Proofs.Ytdngjamjccjlmaa
