/- Types: further plain functions. No condition. -/
import Derived.Test.YtcpfjabjonpdaaaM1
namespace Go.Proofs.Ytcpfjabjonpdaaa
open Go Go.Ab

mutual
def nodes : Ty → Nat
  | .mk _ _ l => 1 + nodesL l
def nodesL : List Ty → Nat
  | [] => 0
  | t :: l => nodes t + nodesL l
end
mutual
def depth : Ty → Nat
  | .mk _ _ l => depthL l + 1
def depthL : List Ty → Nat
  | [] => 0
  | t :: l => max (depth t) (depthL l)
end
theorem nodesL_app : ∀ l l', nodesL (l ++ l') = nodesL l + nodesL l'
  | [], l' => by simp [nodesL]
  | a :: l, l' => by simp [nodesL, nodesL_app l l', Nat.add_assoc]
theorem depthL_app : ∀ l l', depthL (l ++ l') = max (depthL l) (depthL l')
  | [], l' => by simp [depthL]
  | a :: l, l' => by simp [depthL, depthL_app l l', Nat.max_assoc]
theorem nodes_eq (t : Ty) : nodes t = 1 + nodesL t.kids := by cases t; rfl
theorem depth_eq (t : Ty) : depth t = depthL t.kids + 1 := by cases t; rfl
theorem nodes_pos (t : Ty) : 0 < nodes t := by rw [nodes_eq]; omega
theorem nodesL_mem {x : Ty} : ∀ {l : List Ty}, x ∈ l → nodes x ≤ nodesL l
  | a :: l, h => by
    rcases List.mem_cons.1 h with rfl | h
    · simp [nodesL]
    · have := nodesL_mem h; simp [nodesL]; omega
theorem nodes_kid {t x : Ty} (h : x ∈ t.kids) : nodes x < nodes t := by have := nodesL_mem h; rw [nodes_eq t]; omega
theorem length_le_nodesL : ∀ l : List Ty, l.length ≤ nodesL l
  | [] => Nat.le_refl _
  | a :: l => by have := length_le_nodesL l; have := nodes_pos a; simp [nodesL]; omega
theorem length_lt_nodes (t : Ty) : t.kids.length < nodes t := by have := length_le_nodesL t.kids; rw [nodes_eq]; omega
mutual
theorem depth_le_nodes : ∀ t, depth t ≤ nodes t
  | .mk _ _ l => by have := depthL_le_nodes l; simp [depth, nodes]; omega
theorem depthL_le_nodes : ∀ l, depthL l ≤ nodesL l
  | [] => Nat.le_refl _
  | t :: l => by have := depthL_le_nodes l; have := depth_le_nodes t; simp [depthL, nodesL]; omega
end

mutual
def without (k : Int) : Ty → Bool
  | .mk k' _ l => decide (k' ≠ k) && withoutL k l
def withoutL (k : Int) : List Ty → Bool
  | [] => true
  | t :: l => without k t && withoutL k l
end
theorem withoutL_all (k : Int) : ∀ l, withoutL k l = allN l.length fun i => without k (l.getD i default)
  | [] => rfl
  | t :: l => by rw [withoutL, List.length_cons, allN_succ, withoutL_all k l]; rfl
theorem without_eq (k : Int) (t : Ty) : without k t = (decide (t.kind ≠ k) && allN t.kids.length fun i => without k (t.kid i)) := by
  cases t with | mk k n l => rw [without, withoutL_all]; rfl

def dynT : Ty := .mk 5 0 []
def leafT (k : Int) : Ty := .mk k 0 []
def twoT (k : Int) (a b : Ty) : Ty := .mk k 0 [a, b]
def listT (a : Ty) : Ty := .mk 8 0 [a]
def noneT : Ty := .mk 0 0 []

mutual
def agree : Ty → Ty → Bool
  | .mk ka na la, b => if ka = 5 then without 6 b else if b.kind = 5 then without 6 (.mk ka na la) else if ka ≠ b.kind ∨ na ≠ b.num then false else agreeL la b.kids
def agreeL : List Ty → List Ty → Bool
  | [], _ => true
  | a :: l, m => agree a (m.getD 0 default) && agreeL l (m.drop 1)
end
theorem agreeL_all : ∀ l m, agreeL l m = allN l.length fun i => agree (l.getD i default) (m.getD i default)
  | [], _ => rfl
  | a :: l, m => by
    rw [agreeL, List.length_cons, allN_succ, agreeL_all l (m.drop 1)]
    congr 2; funext i
    simp [List.getD_eq_getElem?_getD]
theorem agree_eq (a b : Ty) : agree a b = if a.kind = 5 then without 6 b else if b.kind = 5 then without 6 a else if a.kind ≠ b.kind ∨ a.num ≠ b.num then false else allN a.kids.length fun i => agree (a.kid i) (b.kid i) := by
  cases a with | mk k n l => rw [agree, agreeL_all]; rfl

mutual
def meet : Ty → Ty → Ty
  | .mk ka na la, b => if ka = 5 then b else if b.kind = 5 ∨ la = [] then .mk ka na la else .mk ka 0 (meetL la b.kids)
def meetL : List Ty → List Ty → List Ty
  | [], _ => []
  | a :: l, m => meet a (m.getD 0 default) :: meetL l (m.drop 1)
end
theorem meetL_get : ∀ l m, meetL l m = (List.range l.length).map fun i => meet (l.getD i default) (m.getD i default)
  | [], _ => rfl
  | a :: l, m => by
    rw [meetL, List.length_cons, List.range_succ_eq_map, List.map_cons, List.map_map, meetL_get l (m.drop 1)]
    congr 1
    refine List.map_congr_left fun i _ => ?_
    simp [List.getD_eq_getElem?_getD]
theorem meet_eq (a b : Ty) : meet a b = if a.kind = 5 then b else if b.kind = 5 ∨ a.kids = [] then a else .mk a.kind 0 ((List.range a.kids.length).map fun i => meet (a.kid i) (b.kid i)) := by
  cases a with | mk k n l => rw [meet, meetL_get]; rfl

mutual
def below : Ty → Ty → Bool
  | .mk ka na la, b => if b.kind = 5 then true else if ka ≠ b.kind ∨ na ≠ b.num then false else belowL la b.kids
def belowL : List Ty → List Ty → Bool
  | [], _ => true
  | a :: l, m => below a (m.getD 0 default) && belowL l (m.drop 1)
end
theorem belowL_all : ∀ l m, belowL l m = allN l.length fun i => below (l.getD i default) (m.getD i default)
  | [], _ => rfl
  | a :: l, m => by
    rw [belowL, List.length_cons, allN_succ, belowL_all l (m.drop 1)]
    congr 2; funext i
    simp [List.getD_eq_getElem?_getD]
theorem below_eq (a b : Ty) : below a b = if b.kind = 5 then true else if a.kind ≠ b.kind ∨ a.num ≠ b.num then false else allN a.kids.length fun i => below (a.kid i) (b.kid i) := by
  cases a with | mk k n l => rw [below, belowL_all]; rfl

def ground (t : Ty) : Ty := .mk t.kind 0 (List.replicate t.kids.length dynT)
/-- A kind that has a ground. -/
def headK (k : Int) : Bool := decide (k = 1 ∨ k = 2 ∨ k = 3 ∨ k = 4 ∨ k = 7 ∨ k = 8 ∨ k = 9)

/-- Sides: 0: positive, 1: negative, 2: both. -/
def other (s : Int) : Int := if s = 0 then 1 else if s = 1 then 0 else 2
def subF : Nat → Int → Ty → Ty → Bool
  | 0, _, _, _ => false
  | n + 1, s, a, b =>
    if (s = 0 ∧ b.kind = 5) ∨ (s = 1 ∧ a.kind = 5) then true
    else if b.kind = 5 ∧ a.kind ≠ 5 then decide (a.kind ≠ 6) && (if a.kind = 9 then subF n (other s) dynT (a.kid 0) && subF n s (a.kid 1) dynT else if a.kind = 7 then subF n s (a.kid 0) dynT && subF n s (a.kid 1) dynT else if a.kind = 8 then subF n s (a.kid 0) dynT else true)
    else if a.kind ≠ b.kind ∨ a.num ≠ b.num then false
    else if a.kind = 9 then subF n (other s) (b.kid 0) (a.kid 0) && subF n s (a.kid 1) (b.kid 1) else if a.kind = 7 then subF n s (a.kid 0) (b.kid 0) && subF n s (a.kid 1) (b.kid 1) else if a.kind = 8 then subF n s (a.kid 0) (b.kid 0) else true
def sub (s : Int) (a b : Ty) : Bool := subF (nodes a + nodes b) s a b

/-! What is right has the kids that its kind has. -/
theorem right_kids {t : Ty} (h : right t = true) : (t.kids.length : Int) = arity t.kind ∧ ∀ x ∈ t.kids, right x = true := by
  rw [right_eq, Bool.and_eq_true] at h
  obtain ⟨h1, h2⟩ := h
  simp only [okN, Bool.and_eq_true, decide_eq_true_eq] at h1
  refine ⟨h1.1, fun x hx => ?_⟩
  obtain ⟨i, hi, rfl⟩ := List.mem_iff_getElem.1 hx
  have := allN_iff.1 h2 i hi
  simpa [Ty.kid, hi] using this
theorem right_num {t : Ty} (h : right t = true) (hk : t.kind ≠ 6) : t.num = 0 := by
  rw [right_eq, Bool.and_eq_true] at h
  simp only [okN, Bool.and_eq_true, hk, if_false, decide_eq_true_eq] at h
  exact h.1.2
theorem right_len {a b : Ty} (ha : right a = true) (hb : right b = true) (h : a.kind = b.kind) : b.kids.length = a.kids.length := by
  have h1 := (right_kids ha).1
  have h2 := (right_kids hb).1
  rw [h] at h1; omega
theorem right_kid {t : Ty} (h : right t = true) {i : Nat} (hi : i < t.kids.length) : right (t.kid i) = true :=
  (right_kids h).2 _ (by simp [Ty.kid, hi])
theorem right_arity {t : Ty} (h : right t = true) : (t.kind = 1 ∨ t.kind = 2 ∨ t.kind = 3 ∨ t.kind = 4 ∨ t.kind = 5 ∨ t.kind = 6) ∧ t.kids = [] ∨ t.kind = 8 ∧ t.kids.length = 1 ∨ (t.kind = 7 ∨ t.kind = 9) ∧ t.kids.length = 2 := by
  have h1 := (right_kids h).1
  unfold arity at h1
  split at h1
  · rename_i hk
    exact .inl ⟨hk, List.eq_nil_of_length_eq_zero (by omega)⟩
  · split at h1
    · rename_i hk; exact .inr (.inl ⟨hk, by omega⟩)
    · split at h1
      · rename_i hk; exact .inr (.inr ⟨hk, by omega⟩)
      · omega
theorem right_len2 {t : Ty} (h : right t = true) : t.kids.length ≤ 2 := by
  rcases right_arity h with h | h | h
  · simp [h.2]
  · omega
  · omega

end Go.Proofs.Ytcpfjabjonpdaaa
