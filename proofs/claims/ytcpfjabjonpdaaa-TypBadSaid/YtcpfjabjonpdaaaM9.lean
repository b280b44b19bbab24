/- Variables of types: plain laws. No condition. -/
import Derived.Test.YtcpfjabjonpdaaaV2
import Derived.Test.YtcpfjabjonpdaaaM4
set_option linter.unusedSimpArgs false
set_option linter.unusedVariables false
namespace Go.Proofs.Ytcpfjabjonpdaaa
open Go Go.Ab

/-- What is new of a row. -/
def news : List Int → List Int → List Int
  | _, [] => []
  | l, x :: xs => if x ∈ l then news l xs else x :: news (l ++ [x]) xs

theorem news_congr {l l' : List Int} (h : ∀ y, y ∈ l ↔ y ∈ l') : ∀ xs, news l xs = news l' xs := by
  intro xs
  induction xs generalizing l l' with
  | nil => rfl
  | cons x xs ih =>
    simp only [news, h x]
    split
    · exact ih h
    · rw [ih (l := l ++ [x]) (l' := l' ++ [x]) (by intro y; simp [h y])]
theorem news_app : ∀ (xs l m : List Int), news (l ++ m) xs = (news m xs).filter fun x => decide (x ∉ l) := by
  intro xs
  induction xs with
  | nil => intro l m; rfl
  | cons x xs ih =>
    intro l m
    by_cases hm : x ∈ m
    · simp [news, hm, ih]
    · by_cases hl : x ∈ l
      · have : news (l ++ m) xs = news (l ++ (m ++ [x])) xs := news_congr (fun y => by
          simp only [List.mem_append, List.mem_singleton]
          refine ⟨fun h => ?_, fun h => ?_⟩
          · rcases h with h | h
            · exact .inl h
            · exact .inr (.inl h)
          · rcases h with h | h | h
            · exact .inl h
            · exact .inr h
            · subst h; exact .inl hl) xs
        simp only [news, List.mem_append, hl, hm, true_or, if_true, if_false, List.filter_cons, not_true_eq_false, decide_false, Bool.false_eq_true]
        rw [this, ih]
      · simp only [news, List.mem_append, hl, hm, or_self, if_false, List.filter_cons, not_false_eq_true, decide_true, if_true]
        rw [← ih, List.append_assoc]
theorem news_nil (l xs : List Int) : news l xs = (news [] xs).filter fun x => decide (x ∉ l) := by
  have := news_app xs l []
  rwa [List.append_nil] at this
theorem news_append : ∀ (xs ys l : List Int), news l (xs ++ ys) = news l xs ++ news (l ++ news l xs) ys := by
  intro xs
  induction xs with
  | nil => intro ys l; simp [news]
  | cons x xs ih =>
    intro ys l
    simp only [news, List.cons_append]
    split
    · exact ih ys l
    · rw [ih, List.cons_append, List.append_assoc, List.singleton_append]
theorem mem_news : ∀ (xs l : List Int) (y : Int), y ∈ news l xs ↔ y ∈ xs ∧ y ∉ l := by
  intro xs
  induction xs with
  | nil => intro l y; simp [news]
  | cons x xs ih =>
    intro l y
    simp only [news]
    split
    · rename_i h
      rw [ih]
      constructor
      · rintro ⟨h1, h2⟩; exact ⟨List.mem_cons_of_mem _ h1, h2⟩
      · rintro ⟨h1, h2⟩
        rcases List.mem_cons.1 h1 with rfl | h1
        · exact absurd h h2
        · exact ⟨h1, h2⟩
    · rename_i h
      rw [List.mem_cons, ih]
      simp only [List.mem_append, List.mem_singleton, List.mem_cons]
      constructor
      · rintro (rfl | ⟨h1, h2⟩)
        · exact ⟨.inl rfl, h⟩
        · exact ⟨.inr h1, fun h3 => h2 (.inl h3)⟩
      · rintro ⟨h1, h2⟩
        by_cases e : y = x
        · exact .inl e
        · exact .inr ⟨h1.resolve_left e, by simp [h2, e]⟩
theorem news_nodup : ∀ (xs l : List Int), (news l xs).Nodup := by
  intro xs
  induction xs with
  | nil => intro l; simp [news]
  | cons x xs ih =>
    intro l
    simp only [news]
    split
    · exact ih l
    · rw [List.nodup_cons, mem_news]
      exact ⟨by simp, ih _⟩

mutual
/-- All variables, as they come. -/
def allV : Ty → List Int
  | .mk k n l => (if k = 6 then [n] else []) ++ allVL l
def allVL : List Ty → List Int
  | [] => []
  | t :: l => allV t ++ allVL l
end
theorem allV_eq (t : Ty) : allV t = (if t.kind = 6 then [t.num] else []) ++ allVL t.kids := by cases t; rfl
mutual
theorem varsF_news : ∀ (t : Ty) (l : List Int), varsF t l = l ++ news l (allV t)
  | .mk k n ks, l => by
    rw [varsF, allV, varsL_news ks, news_append]
    by_cases hk : k = 6
    · by_cases hn : n ∈ l
      · simp [hk, hn, news]
      · simp [hk, hn, news]
    · simp [hk, news]
theorem varsL_news : ∀ (ks : List Ty) (l : List Int), varsL ks l = l ++ news l (allVL ks)
  | [], l => by simp [varsL, allVL, news]
  | t :: ks, l => by
    rw [varsL, allVL, varsL_news ks, varsF_news t, news_append, List.append_assoc]
end
theorem varsT_news (t : Ty) : varsT t = news [] (allV t) := by rw [varsT, varsF_news]; simp
theorem varsT_nodup (t : Ty) : (varsT t).Nodup := by rw [varsT_news]; exact news_nodup _ _
theorem mem_varsT (t : Ty) (n : Int) : n ∈ varsT t ↔ n ∈ allV t := by rw [varsT_news, mem_news]; simp

theorem varsT_two (k : Int) (hk : k ≠ 6) (a b : Ty) : varsT (.mk k 0 [a, b]) = varsT a ++ news (varsT a) (allV b) := by
  rw [varsT, varsF]; simp [hk, varsL, varsF_news]; simp [varsT_news, varsF_news]
theorem varsT_take (k : Int) (hk : k ≠ 6) (a b : Ty) : (varsT (.mk k 0 [a, b])).take (varsT a).length = varsT a := by rw [varsT_two k hk]; simp
theorem varsT_len2 (k : Int) (hk : k ≠ 6) (a b : Ty) : (varsT a).length ≤ (varsT (.mk k 0 [a, b])).length ∧ (varsT (.mk k 0 [a, b])).length ≤ (varsT a).length + (varsT b).length := by
  rw [varsT_two k hk, news_nil, varsT_news b]
  have := List.length_filter_le (fun x => decide (x ∉ varsT a)) (news [] (allV b))
  rw [List.length_append]
  omega
theorem varsT_mem2 (k : Int) (hk : k ≠ 6) (a b : Ty) {x : Int} (hx : x ∈ varsT b) : x ∈ varsT (.mk k 0 [a, b]) := by
  rw [varsT_two k hk]
  by_cases h : x ∈ varsT a
  · simp [h]
  · exact List.mem_append_right _ ((mem_news _ _ _).2 ⟨(mem_varsT b x).1 hx, h⟩)

theorem allV_closed : ∀ t : Ty, allV t = [] ↔ without 6 t = true := by
  refine Ty.ind fun t ih => ?_
  have hl : ∀ l : List Ty, (∀ x ∈ l, allV x = [] ↔ without 6 x = true) → (allVL l = [] ↔ withoutL 6 l = true) := by
    intro l
    induction l with
    | nil => intro _; simp [allVL, withoutL]
    | cons a l ihl =>
      intro h
      simp only [allVL, withoutL, List.append_eq_nil_iff, Bool.and_eq_true]
      rw [h a List.mem_cons_self, ihl fun x hx => h x (List.mem_cons_of_mem _ hx)]
  rw [allV_eq]
  have e : without 6 t = (decide (t.kind ≠ 6) && withoutL 6 t.kids) := by cases t; rw [without]; rfl
  rw [e, List.append_eq_nil_iff, hl _ ih, Bool.and_eq_true, decide_eq_true_eq]
  by_cases hk : t.kind = 6 <;> simp [hk]
theorem varsT_closed (t : Ty) : ((varsT t).length = 0) ↔ without 6 t = true := by
  rw [← allV_closed, List.length_eq_zero_iff, varsT_news]
  constructor
  · intro h
    cases h2 : allV t with
    | nil => rfl
    | cons x xs => rw [h2] at h; simp [news] at h
  · intro h; rw [h]; rfl

end Go.Proofs.Ytcpfjabjonpdaaa
