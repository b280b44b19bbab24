/- A told value's own type, in plain Lean, and its walk. No condition. -/
import Derived.Test.YtofogicgnldfhaaPYd
import Derived.Test.YtofogicgnldfhaaY29
set_option linter.unusedSimpArgs false
set_option linter.unusedVariables false
set_option maxHeartbeats 40000000
set_option maxRecDepth 100000
namespace Go.Proofs.Ytofogicgnldfhaa
open Go Go.Ab

abbrev TB := T × Bool
def baseO (k : Int) : T := if k = 1 then .base 0 else if k = 2 then .base 1 else if k = 3 then .base 2 else .base 3
def consO (nil : Bool) (a b : TB) : TB := if (a.2 && b.2) = false then (a.1, false) else if nil = true then (.list a.1, true) else (b.1, decide (.list a.1 = b.1))
mutual
def ofV : Vl → TB
  | .mk k _ _ _ l => if k = 5 then (.pair ((ofVL l).getD 0 (.dyn, false)).1 ((ofVL l).getD 1 (.dyn, false)).1, ((ofVL l).getD 0 (.dyn, false)).2 && ((ofVL l).getD 1 (.dyn, false)).2)
    else if k = 6 then (.list .dyn, true) else if k = 7 then consO (decide ((l.getD 1 default).kind = 6)) ((ofVL l).getD 0 (.dyn, false)) ((ofVL l).getD 1 (.dyn, false))
    else if k = 8 then (.fn .dyn .dyn, false) else (baseO k, true)
def ofVL : List Vl → List TB
  | [] => []
  | v :: l => ofV v :: ofVL l
end
theorem ofV_eq (v : Vl) (hl : v.kind = 5 ∨ v.kind = 7 → v.kids.length = 2) : ofV v = if v.kind = 5 then (.pair (ofV (v.kid 0)).1 (ofV (v.kid 1)).1, (ofV (v.kid 0)).2 && (ofV (v.kid 1)).2)
    else if v.kind = 6 then (.list .dyn, true) else if v.kind = 7 then consO (decide ((v.kid 1).kind = 6)) (ofV (v.kid 0)) (ofV (v.kid 1))
    else if v.kind = 8 then (.fn .dyn .dyn, false) else (baseO v.kind, true) := by
  cases v with
  | mk k n s c l =>
    simp only [Vl.kind, Vl.kids] at hl ⊢
    rw [ofV]
    by_cases h : k = 5 ∨ k = 7
    · have := hl h
      match l, this with
      | [a, b], _ => rfl
    · have h5 : k ≠ 5 := fun e => h (.inl e)
      have h7 : k ≠ 7 := fun e => h (.inr e)
      simp only [h5, h7, if_false]
      rfl
theorem rightV_kind {v : Vl} (h : rightV v = true) : 1 ≤ v.kind ∧ v.kind ≤ 8 := by
  have ho := ownV_of h
  simp only [ownV, oneV, Bool.and_eq_true, decide_eq_true_eq] at ho
  exact ho.1.1.1.1.1
theorem rightV_two' {v : Vl} (h : rightV v = true) : v.kind = 5 ∨ v.kind = 7 → v.kids.length = 2 := fun hk => oneV_two (ownV_one (ownV_of h)) (by omega)
theorem rightV_kid0 {v : Vl} (h : rightV v = true) (hk : v.kind = 5 ∨ v.kind = 7) : rightV (v.kid 0) = true := rightV_kid h (by rw [rightV_two' h hk]; decide)
theorem rightV_kid1 {v : Vl} (h : rightV v = true) (hk : v.kind = 5 ∨ v.kind = 7) : rightV (v.kid 1) = true := rightV_kid h (by rw [rightV_two' h hk]; decide)
theorem vkid0_mem {v : Vl} (h : rightV v = true) (hk : v.kind = 5 ∨ v.kind = 7) : v.kid 0 ∈ v.kids := vlkid_mem (by rw [rightV_two' h hk]; decide)
theorem vkid1_mem {v : Vl} (h : rightV v = true) (hk : v.kind = 5 ∨ v.kind = 7) : v.kid 1 ∈ v.kids := vlkid_mem (by rw [rightV_two' h hk]; decide)
/-- What kinds there are. -/
theorem kinds8 {k : Int} (h1 : 1 ≤ k) (h8 : k ≤ 8) : k = 5 ∨ k = 6 ∨ k = 7 ∨ k = 8 ∨ k = 1 ∨ k = 2 ∨ k = 3 ∨ k = 4 := by omega
theorem ofV_ok : ∀ v : Vl, rightV v = true → (ofV v).1.ok = true ∧ (ofV v).1.closed = true := by
  refine Vl.ind fun v ih h => ?_
  have e := ofV_eq v (rightV_two' h)
  obtain ⟨h1, h8⟩ := rightV_kind h
  rcases kinds8 h1 h8 with hk | hk | hk | hk | hk | hk | hk | hk
  · have a := ih _ (vkid0_mem h (by omega)) (rightV_kid0 h (by omega))
    have b := ih _ (vkid1_mem h (by omega)) (rightV_kid1 h (by omega))
    rw [e, if_pos hk]; simp [T.ok, T.closed, a, b]
  · rw [e, if_neg (by omega), if_pos hk]; simp [T.ok, T.closed]
  · have a := ih _ (vkid0_mem h (by omega)) (rightV_kid0 h (by omega))
    have b := ih _ (vkid1_mem h (by omega)) (rightV_kid1 h (by omega))
    rw [e, if_neg (by omega), if_neg (by omega), if_pos hk]
    unfold consO
    split
    · exact a
    · split
      · simpa [T.ok, T.closed] using a
      · exact b
  · rw [e, if_neg (by omega), if_neg (by omega), if_neg (by omega), if_pos hk]; simp [T.ok, T.closed]
  all_goals
    rw [e, if_neg (by omega), if_neg (by omega), if_neg (by omega), if_neg (by omega), hk]
    decide
theorem has_dyn (v : Vl) : hasV v (T.dyn).ty = true := by cases v; rw [hasV]; rfl
theorem T.kid0_pair (a b : T) : (T.pair a b).ty.kid 0 = a.ty := rfl
theorem T.kid1_pair (a b : T) : (T.pair a b).ty.kid 1 = b.ty := rfl
theorem T.kid0_list (a : T) : (T.list a).ty.kid 0 = a.ty := rfl
/-- A value is of a type, by the type's form. -/
theorem has_pair {v : Vl} (h : rightV v = true) (a b : T) : hasV v (T.pair a b).ty = (decide (v.kind = 5) && (hasV (v.kid 0) a.ty && hasV (v.kid 1) b.ty)) := by
  rw [hasV_eq v _ (rightV_two' h), T.kind_ty]
  obtain ⟨h1, h8⟩ := rightV_kind h
  rcases kinds8 h1 h8 with hk | hk | hk | hk | hk | hk | hk | hk <;> simp [hk, headV, T.kind, T.kid0_pair, T.kid1_pair]
theorem has_list {v : Vl} (h : rightV v = true) (a : T) : hasV v (T.list a).ty = (decide (v.kind = 6) || (decide (v.kind = 7) && (hasV (v.kid 0) a.ty && hasV (v.kid 1) (T.list a).ty))) := by
  rw [hasV_eq v _ (rightV_two' h), T.kind_ty]
  obtain ⟨h1, h8⟩ := rightV_kind h
  rcases kinds8 h1 h8 with hk | hk | hk | hk | hk | hk | hk | hk <;> simp [hk, headV, T.kind, T.kid0_list]
theorem has_fn {v : Vl} (h : rightV v = true) (a b : T) : hasV v (T.fn a b).ty = decide (v.kind = 8) := by
  rw [hasV_eq v _ (rightV_two' h), T.kind_ty]
  obtain ⟨h1, h8⟩ := rightV_kind h
  rcases kinds8 h1 h8 with hk | hk | hk | hk | hk | hk | hk | hk <;> simp [hk, headV, T.kind]
theorem has_var (v : Vl) (n : Int) : hasV v (T.var n).ty = false := by cases v; rw [hasV]; rfl
theorem has_base {v : Vl} (h : rightV v = true) (k : Fin 4) : hasV v (T.base k).ty = decide (v.kind = k.val + 1) := by
  rw [hasV_eq v _ (rightV_two' h), T.kind_ty]
  obtain ⟨h1, h8⟩ := rightV_kind h
  have hm : (T.base k).kind = (k.val : Int) + 1 := rfl
  have hlt := k.isLt
  rw [hm]
  generalize hM : (k.val : Int) + 1 = m
  have m1 : 1 ≤ m := by omega
  have m4 : m ≤ 4 := by omega
  rw [if_neg (by omega), if_neg (by omega)]
  by_cases hv : v.kind = 5 ∨ v.kind = 6 ∨ v.kind = 7 ∨ v.kind = 8
  · rw [decide_eq_false (by omega)]
    rw [if_pos]
    rcases hv with hv | hv | hv | hv <;> rw [hv] <;> simp [headV] <;> omega
  · have hh : headV v.kind = v.kind := by
      have : v.kind = 1 ∨ v.kind = 2 ∨ v.kind = 3 ∨ v.kind = 4 := by omega
      rcases this with e | e | e | e <;> rw [e] <;> rfl
    rw [hh]
    by_cases he : v.kind = m
    · rw [if_neg (by simp [he]), if_neg (by omega), if_neg (by omega), decide_eq_true he]
    · rw [if_pos he, decide_eq_false he]
theorem has_own : ∀ v : Vl, rightV v = true → (ofV v).2 = true → hasV v (ofV v).1.ty = true := by
  refine Vl.ind fun v ih h h2 => ?_
  have e := ofV_eq v (rightV_two' h)
  obtain ⟨h1, h8⟩ := rightV_kind h
  rcases kinds8 h1 h8 with hk | hk | hk | hk | hk | hk | hk | hk
  · rw [e, if_pos hk] at h2 ⊢
    simp only [Bool.and_eq_true] at h2
    have a := ih _ (vkid0_mem h (by omega)) (rightV_kid0 h (by omega)) h2.1
    have b := ih _ (vkid1_mem h (by omega)) (rightV_kid1 h (by omega)) h2.2
    simp only [has_pair h, hk, a, b]; rfl
  · rw [e, if_neg (by omega), if_pos hk]
    simp only [has_list h, hk]; rfl
  · rw [e, if_neg (by omega), if_neg (by omega), if_pos hk] at h2 ⊢
    unfold consO at h2 ⊢
    split at h2
    · cases h2
    · rename_i hab
      rw [if_neg hab]
      simp only [Bool.not_eq_false, Bool.and_eq_true] at hab
      have a := ih _ (vkid0_mem h (by omega)) (rightV_kid0 h (by omega)) hab.1
      have b := ih _ (vkid1_mem h (by omega)) (rightV_kid1 h (by omega)) hab.2
      split at h2
      · rename_i hn
        rw [if_pos hn]
        simp only [decide_eq_true_eq] at hn
        simp only [has_list h, has_list (rightV_kid1 h (Or.inr hk)), hk, hn, a]; rfl
      · rename_i hn
        rw [if_neg hn]
        simp only [decide_eq_true_eq] at h2
        rw [← h2] at b ⊢
        simp only [has_list h, hk, a]
        simp only [b]; rfl
  · rw [e, if_neg (by omega), if_neg (by omega), if_neg (by omega), if_pos hk] at h2; cases h2
  all_goals
    rw [e, if_neg (by omega), if_neg (by omega), if_neg (by omega), if_neg (by omega), hk]
    first
      | (rw [show baseO 1 = .base 0 from rfl, has_base h, hk]; rfl)
      | (rw [show baseO 2 = .base 1 from rfl, has_base h, hk]; rfl)
      | (rw [show baseO 3 = .base 2 from rfl, has_base h, hk]; rfl)
      | (rw [show baseO 4 = .base 3 from rfl, has_base h, hk]; rfl)
theorem own_agree : ∀ v : Vl, rightV v = true → (ofV v).2 = true → (ofV v).1.static = true → ∀ b : T, hasV v b.ty = true → agreeT (ofV v).1 b = true := by
  refine Vl.ind fun v ih h h2 hs b hb => ?_
  have hcl := (ofV_ok v h).2
  have e := ofV_eq v (rightV_two' h)
  obtain ⟨h1, h8⟩ := rightV_kind h
  have hd : b = .dyn → agreeT (ofV v).1 b = true := by
    rintro rfl
    generalize (ofV v).1 = a at *
    cases a <;> simp_all [agreeT, T.closed]
  rcases kinds8 h1 h8 with hk | hk | hk | hk | hk | hk | hk | hk
  · cases b with
    | dyn => exact hd rfl
    | pair x y =>
      rw [has_pair h] at hb
      rw [e, if_pos hk] at h2 hs ⊢
      simp only [T.static, Bool.and_eq_true, decide_eq_true_eq] at h2 hs hb
      simp only [agreeT, Bool.and_eq_true]
      exact ⟨ih _ (vkid0_mem h (by omega)) (rightV_kid0 h (by omega)) h2.1 hs.1 x hb.2.1, ih _ (vkid1_mem h (by omega)) (rightV_kid1 h (by omega)) h2.2 hs.2 y hb.2.2⟩
    | base k => rw [has_base h, hk] at hb; have := k.isLt; simp only [decide_eq_true_eq] at hb; omega
    | var n => rw [has_var] at hb; cases hb
    | list x => rw [has_list h, hk] at hb; simp at hb
    | fn x y => rw [has_fn h, hk] at hb; simp at hb
  · rw [e, if_neg (by omega), if_pos hk] at hs; simp [T.static] at hs
  · cases b with
    | dyn => exact hd rfl
    | list x =>
      rw [has_list h] at hb
      simp only [Bool.or_eq_true, Bool.and_eq_true, decide_eq_true_eq] at hb
      have hb := hb.resolve_left (by omega)
      rw [e, if_neg (by omega), if_neg (by omega), if_pos hk] at h2 hs ⊢
      unfold consO at h2 hs ⊢
      split at h2
      · cases h2
      · rename_i hab
        rw [if_neg hab] at hs ⊢
        simp only [Bool.not_eq_false, Bool.and_eq_true] at hab
        have a := fun hs => ih _ (vkid0_mem h (by omega)) (rightV_kid0 h (by omega)) hab.1 hs x hb.2.1
        split at h2
        · rename_i hn
          rw [if_pos hn] at hs ⊢
          simp only [T.static] at hs
          simp only [agreeT]; exact a hs
        · rename_i hn
          rw [if_neg hn] at hs ⊢
          exact ih _ (vkid1_mem h (by omega)) (rightV_kid1 h (by omega)) hab.2 hs (.list x) hb.2.2
    | base k => rw [has_base h, hk] at hb; have := k.isLt; simp only [decide_eq_true_eq] at hb; omega
    | var n => rw [has_var] at hb; cases hb
    | pair x y => rw [has_pair h, hk] at hb; simp at hb
    | fn x y => rw [has_fn h, hk] at hb; simp at hb
  · rw [e, if_neg (by omega), if_neg (by omega), if_neg (by omega), if_pos hk] at h2; cases h2
  all_goals
    cases b with
    | dyn => exact hd rfl
    | base k =>
      rw [has_base h, hk] at hb
      rw [e, if_neg (by omega), if_neg (by omega), if_neg (by omega), if_neg (by omega), hk]
      match k with
      | 0 | 1 | 2 | 3 => first | rfl | (exfalso; revert hb; decide)
    | var n => rw [has_var] at hb; cases hb
    | pair x y => rw [has_pair h, hk] at hb; simp at hb
    | list x => rw [has_list h, hk] at hb; simp at hb
    | fn x y => rw [has_fn h, hk] at hb; simp at hb
theorem has_below : ∀ v : Vl, rightV v = true → ∀ a b : T, belowT a b = true → hasV v a.ty = true → hasV v b.ty = true := by
  refine Vl.ind fun v ih h a b hab ha => ?_
  cases b with
  | dyn => exact has_dyn v
  | base k =>
    cases a with
    | base k' => simp only [belowT, decide_eq_true_eq] at hab; rw [← hab]; exact ha
    | _ => cases hab
  | var n =>
    cases a with
    | var n' => simp only [belowT, decide_eq_true_eq] at hab; rw [← hab]; exact ha
    | _ => cases hab
  | pair x y =>
    cases a with
    | pair x' y' =>
      simp only [belowT, Bool.and_eq_true] at hab
      rw [has_pair h] at ha ⊢
      simp only [Bool.and_eq_true, decide_eq_true_eq] at ha ⊢
      exact ⟨ha.1, ih _ (vkid0_mem h (by omega)) (rightV_kid0 h (by omega)) _ _ hab.1 ha.2.1, ih _ (vkid1_mem h (by omega)) (rightV_kid1 h (by omega)) _ _ hab.2 ha.2.2⟩
    | _ => cases hab
  | list x =>
    cases a with
    | list x' =>
      have hab' := hab
      simp only [belowT] at hab
      rw [has_list h] at ha ⊢
      simp only [Bool.or_eq_true, Bool.and_eq_true, decide_eq_true_eq] at ha ⊢
      rcases ha with ha | ⟨hk, h1, h2⟩
      · exact .inl ha
      · exact .inr ⟨hk, ih _ (vkid0_mem h (by omega)) (rightV_kid0 h (by omega)) _ _ hab h1, ih _ (vkid1_mem h (by omega)) (rightV_kid1 h (by omega)) _ _ hab' h2⟩
    | _ => cases hab
  | fn x y =>
    cases a with
    | fn x' y' => rw [has_fn h] at ha ⊢; exact ha
    | _ => cases hab

end Go.Proofs.Ytofogicgnldfhaa
