/- Lemmas: the composition and the casts in plain Lean. No condition. -/
import Derived.Test.YtdngjamjccjlmaaPMa
import Derived.Test.YtdngjamjccjlmaaPFb

section
/- Coercions joined: any order, heights. No condition. -/
set_option linter.unusedSimpArgs false
set_option linter.unusedVariables false
namespace Go.Proofs.Ytdngjamjccjlmaa
open Go Go.Ab

theorem both2_some {f : K → K → K} {x y : Option K} {j : K} (h : both2 f x y = some j) : ∃ a b, x = some a ∧ y = some b ∧ j = f a b := by
  cases x <;> cases y <;> simp [both2] at h
  exact ⟨_, _, rfl, rfl, h.symm⟩
theorem map_some' {f : K → K} {x : Option K} {j : K} (h : x.map f = some j) : ∃ a, x = some a ∧ j = f a := by
  cases x <;> simp at h
  exact ⟨_, rfl, h.symm⟩

theorem isId_iff {k : K} : k.isId = true ↔ k = .id := by cases k <;> simp [K.isId]

/-- What a former, or CId, joined with a CInj is. -/
theorem joinK_x_inj {x : K} (hx : x.isForm = true ∨ x = .id) (h : Int) (k : K) : joinK x (.inj h k) = (joinK x k).map (.inj h) := by
  rcases hx with hx | rfl
  · exact joinK_form_inj hx h k
  · rw [joinK_id, joinK_id]; rfl
theorem joinK_x_fail {x : K} (hx : x.isForm = true ∨ x = .id) (l : Int) (b : Bool) : joinK x (.fail l b) = some (.fail l b) := by
  rcases hx with hx | rfl
  · exact joinK_form_fail hx l b
  · exact joinK_id _
theorem mkFn_x (a b : K) : (mkFn a b).isForm = true ∨ mkFn a b = .id := by
  unfold mkFn; split
  · exact .inr rfl
  · exact .inl rfl
theorem mkPair_x (a b : K) : (mkPair a b).isForm = true ∨ mkPair a b = .id := by
  unfold mkPair; split
  · exact .inr rfl
  · exact .inl rfl
theorem mkList_x (a : K) : (mkList a).isForm = true ∨ mkList a = .id := by
  unfold mkList; split
  · exact .inr rfl
  · exact .inl rfl
theorem mkFn_ok {a b : K} (h : (K.fn a b).ok = true) : mkFn a b = .fn a b := by
  simp only [K.ok, Bool.and_eq_true, Bool.not_eq_true'] at h
  simp [mkFn, h.2]
theorem mkPair_ok {a b : K} (h : (K.pair a b).ok = true) : mkPair a b = .pair a b := by
  simp only [K.ok, Bool.and_eq_true, Bool.not_eq_true'] at h
  simp [mkPair, h.2]
theorem mkList_ok {a : K} (h : (K.list a).ok = true) : mkList a = .list a := by
  simp only [K.ok, Bool.and_eq_true, Bool.not_eq_true'] at h
  simp [mkList, h.2]
theorem mkFn_pos {a b : K} (h : (a.isId && b.isId) = true) : mkFn a b = .id := if_pos h
theorem mkFn_neg {a b : K} (h : ¬ (a.isId && b.isId) = true) : mkFn a b = .fn a b := if_neg h
theorem mkPair_pos {a b : K} (h : (a.isId && b.isId) = true) : mkPair a b = .id := if_pos h
theorem mkPair_neg {a b : K} (h : ¬ (a.isId && b.isId) = true) : mkPair a b = .pair a b := if_neg h
theorem mkList_pos {a : K} (h : a.isId = true) : mkList a = .id := if_pos h
theorem mkList_neg {a : K} (h : ¬ a.isId = true) : mkList a = .list a := if_neg h
theorem joinK_mkFn {x1 x2 e1 e2 : K} (he : (K.fn e1 e2).ok = true) : joinK (mkFn x1 x2) (.fn e1 e2) = both2 mkFn (joinK e1 x1) (joinK x2 e2) := by
  by_cases h : (x1.isId && x2.isId) = true
  · rw [mkFn_pos h]
    rw [Bool.and_eq_true, isId_iff, isId_iff] at h
    obtain ⟨rfl, rfl⟩ := h
    rw [joinK_id, joinK_id, joinK_form_id]
    simp [both2, mkFn_ok he]
  · rw [mkFn_neg h]; exact joinK_fn _ _ _ _
theorem joinK_mkPair {x1 x2 e1 e2 : K} (he : (K.pair e1 e2).ok = true) : joinK (mkPair x1 x2) (.pair e1 e2) = both2 mkPair (joinK x1 e1) (joinK x2 e2) := by
  by_cases h : (x1.isId && x2.isId) = true
  · rw [mkPair_pos h]
    rw [Bool.and_eq_true, isId_iff, isId_iff] at h
    obtain ⟨rfl, rfl⟩ := h
    rw [joinK_id, joinK_id, joinK_id]
    simp [both2, mkPair_ok he]
  · rw [mkPair_neg h]; exact joinK_pair _ _ _ _
theorem joinK_mkList {x e : K} (he : (K.list e).ok = true) : joinK (mkList x) (.list e) = (joinK x e).map mkList := by
  by_cases h : x.isId = true
  · rw [mkList_pos h]
    rw [isId_iff] at h
    subst h
    rw [joinK_id, joinK_id]
    simp [mkList_ok he]
  · rw [mkList_neg h]; exact joinK_list _ _
theorem joinK_fn_mk {x1 x2 c1 c2 : K} (hc : (K.fn c1 c2).ok = true) : joinK (.fn c1 c2) (mkFn x1 x2) = both2 mkFn (joinK x1 c1) (joinK c2 x2) := by
  by_cases h : (x1.isId && x2.isId) = true
  · rw [mkFn_pos h]
    rw [Bool.and_eq_true, isId_iff, isId_iff] at h
    obtain ⟨rfl, rfl⟩ := h
    rw [joinK_id, joinK_form_id, joinK_form_id]
    simp [both2, mkFn_ok hc]
  · rw [mkFn_neg h]; exact joinK_fn _ _ _ _
theorem joinK_pair_mk {x1 x2 c1 c2 : K} (hc : (K.pair c1 c2).ok = true) : joinK (.pair c1 c2) (mkPair x1 x2) = both2 mkPair (joinK c1 x1) (joinK c2 x2) := by
  by_cases h : (x1.isId && x2.isId) = true
  · rw [mkPair_pos h]
    rw [Bool.and_eq_true, isId_iff, isId_iff] at h
    obtain ⟨rfl, rfl⟩ := h
    rw [joinK_form_id, joinK_form_id, joinK_form_id]
    simp [both2, mkPair_ok hc]
  · rw [mkPair_neg h]; exact joinK_pair _ _ _ _
theorem joinK_list_mk {x c : K} (hc : (K.list c).ok = true) : joinK (.list c) (mkList x) = (joinK c x).map mkList := by
  by_cases h : x.isId = true
  · rw [mkList_pos h]
    rw [isId_iff] at h
    subst h
    rw [joinK_form_id, joinK_form_id]
    simp [mkList_ok hc]
  · rw [mkList_neg h]; exact joinK_list _ _

theorem ok_fn {a b : K} (h : (K.fn a b).ok = true) : a.ok = true ∧ b.ok = true := by
  simp only [K.ok, Bool.and_eq_true] at h; exact h.1
theorem ok_pair {a b : K} (h : (K.pair a b).ok = true) : a.ok = true ∧ b.ok = true := by
  simp only [K.ok, Bool.and_eq_true] at h; exact h.1
theorem ok_list {a : K} (h : (K.list a).ok = true) : a.ok = true := by
  simp only [K.ok, Bool.and_eq_true] at h; exact h.1
theorem ok_inj {h : Int} {k : K} (hk : (K.inj h k).ok = true) : k.ok = true ∧ headK h = true ∧ (k = .id ∨ k.form = h) := by
  simp only [K.ok, Bool.and_eq_true, Bool.or_eq_true, isId_iff, decide_eq_true_eq] at hk; exact ⟨hk.1.1, hk.1.2, hk.2⟩
theorem ok_proj {h l : Int} {n : Bool} {k : K} (hk : (K.proj h l n k).ok = true) : k.ok = true ∧ headK h = true ∧ labelOK l = true ∧ (k.isFail = true ∨ k.injOf h = true ∨ k = .id ∨ k.form = h) := by
  simp only [K.ok, Bool.and_eq_true, Bool.or_eq_true, isId_iff, decide_eq_true_eq] at hk
  refine ⟨hk.1.1.1, hk.1.1.2, hk.1.2, ?_⟩
  rcases hk.2 with (h | h) | h
  · exact .inl h
  · exact .inr (.inl h)
  · exact .inr (.inr h)

theorem joinK_forms_x {c d x : K} (hc : c.isForm = true) (hd : d.isForm = true) (h : joinK c d = some x) : x.isForm = true ∨ x = .id := by
  cases c <;> (try (simp [K.isForm, K.form] at hc; done)) <;> cases d <;> (try (simp [K.isForm, K.form] at hd; done)) <;> first
    | (rw [joinK_fn] at h; obtain ⟨a, b, _, _, rfl⟩ := both2_some h; exact mkFn_x _ _)
    | (rw [joinK_pair] at h; obtain ⟨a, b, _, _, rfl⟩ := both2_some h; exact mkPair_x _ _)
    | (rw [joinK_list] at h; obtain ⟨a, _, rfl⟩ := map_some' h; exact mkList_x _)
    | (rw [joinK_forms rfl rfl (by simp [K.form])] at h; cases h; done)

/-- It does not matter which two are joined first. -/
theorem joinK_assoc : ∀ (n : Nat) (c d e x y p q : K), c.size + d.size + e.size ≤ n → c.ok = true → d.ok = true → e.ok = true →
    joinK c d = some x → joinK d e = some y → joinK x e = some p → joinK c y = some q → p = q := by
  intro n
  induction n with
  | zero => intro c d e x y p q h; have := c.size_pos; omega
  | succ n ih =>
    intro c d e x y p q hn hc hd he h1 h2 h3 h4
    by_cases cid : c = .id
    · subst cid
      rw [joinK_id] at h1 h4
      cases h1; cases h4
      rw [h3] at h2; exact Option.some.inj h2
    by_cases did : d = .id
    · subst did
      rw [joinK_form_id] at h1; rw [joinK_id] at h2
      cases h1; cases h2
      rw [h3] at h4; exact Option.some.inj h4
    by_cases eid : e = .id
    · subst eid
      rw [joinK_form_id] at h2 h3
      cases h2; cases h3
      rw [h1] at h4; exact Option.some.inj h4
    -- a former ahead
    have former : c.isForm = true → (d.isForm = true → d.form = c.form → e.isForm = true → e.form = c.form → p = q) → p = q := by
      intro hf hcomp
      by_cases hdf : d.isForm = true
      · by_cases hform : c.form = d.form
        · have hx := joinK_forms_x hf hdf h1
          by_cases hef : e.isForm = true
          · by_cases hform2 : d.form = e.form
            · exact hcomp hdf hform.symm hef (by rw [hform, hform2])
            · rw [joinK_forms hdf hef hform2] at h2; cases h2
          · cases e with
            | id => exact absurd rfl eid
            | fail l b =>
              rw [joinK_form_fail hdf] at h2
              cases h2
              rw [joinK_x_fail hx] at h3; rw [joinK_form_fail hf] at h4
              cases h3; cases h4; rfl
            | proj h l b k => rw [joinK_form_proj hdf] at h2; cases h2
            | inj h k =>
              rw [joinK_form_inj hdf] at h2
              obtain ⟨y', e2, rfl⟩ := map_some' h2
              rw [joinK_x_inj hx] at h3; rw [joinK_form_inj hf] at h4
              obtain ⟨p', e3, rfl⟩ := map_some' h3
              obtain ⟨q', e4, rfl⟩ := map_some' h4
              rw [ih c d k x y' p' q' (by simp only [K.size] at hn ⊢; omega) hc hd (ok_inj he).1 h1 e2 e3 e4]
            | fn _ _ => exact absurd rfl hef
            | pair _ _ => exact absurd rfl hef
            | list _ => exact absurd rfl hef
        · rw [joinK_forms hf hdf hform] at h1; cases h1
      · cases d with
        | id => exact absurd rfl did
        | fail l b =>
          rw [joinK_form_fail hf] at h1; rw [joinK_fail] at h2
          cases h1; cases h2
          rw [joinK_fail] at h3; rw [joinK_form_fail hf] at h4
          cases h3; cases h4; rfl
        | proj h l b k => rw [joinK_form_proj hf] at h1; cases h1
        | inj h k =>
          rw [joinK_form_inj hf] at h1
          obtain ⟨x', e1, rfl⟩ := map_some' h1
          cases e with
          | id => exact absurd rfl eid
          | proj h' l b k' =>
            rw [joinK_inj_proj] at h2 h3
            split at h2
            · rename_i hh; rw [if_pos hh] at h3
              exact ih c k k' x' y p q (by simp only [K.size] at hn; omega) hc (ok_inj hd).1 (ok_proj he).1 e1 h2 h3 h4
            · rename_i hh; rw [if_neg hh] at h3
              cases h2; cases h3
              rw [joinK_form_fail hf] at h4; cases h4; rfl
          | _ => rw [joinK_inj_none _ _ _ rfl (by intro _ _ _ _ h; cases h)] at h2; cases h2
        | fn _ _ => exact absurd rfl hdf
        | pair _ _ => exact absurd rfl hdf
        | list _ => exact absurd rfl hdf
    cases c with
    | id => exact absurd rfl cid
    | fail l b =>
      rw [joinK_fail] at h1 h4
      cases h1; cases h4
      rw [joinK_fail] at h3; cases h3; rfl
    | proj h l b k =>
      rw [joinK_proj] at h1 h4
      obtain ⟨x', e1, rfl⟩ := map_some' h1
      obtain ⟨q', e4, rfl⟩ := map_some' h4
      rw [joinK_proj] at h3
      obtain ⟨p', e3, rfl⟩ := map_some' h3
      rw [ih k d e x' y p' q' (by simp only [K.size] at hn; omega) (ok_proj hc).1 hd he e1 h2 e3 e4]
    | inj h k =>
      cases d with
      | id => exact absurd rfl did
      | proj h' l b k' =>
        rw [joinK_proj] at h2
        obtain ⟨y', e2, rfl⟩ := map_some' h2
        rw [joinK_inj_proj] at h1 h4
        split at h1
        · rename_i hh; rw [if_pos hh] at h4
          exact ih k k' e x y' p q (by simp only [K.size] at hn; omega) (ok_inj hc).1 (ok_proj hd).1 he h1 e2 h3 h4
        · rename_i hh; rw [if_neg hh] at h4
          cases h1; cases h4
          rw [joinK_fail] at h3; cases h3; rfl
      | _ => rw [joinK_inj_none _ _ _ rfl (by intro _ _ _ _ h; cases h)] at h1; cases h1
    | fn c1 c2 =>
      refine former rfl fun hd1 hd2 he1 he2 => ?_
      cases d <;> (try (simp [K.isForm, K.form] at hd1 hd2; done))
      cases e <;> (try (simp [K.isForm, K.form] at he1 he2; done))
      rename_i d1 d2 e1 e2
      rw [joinK_fn] at h1 h2
      obtain ⟨x1, x2, f1, f2, rfl⟩ := both2_some h1
      obtain ⟨y1, y2, g1, g2, rfl⟩ := both2_some h2
      rw [joinK_mkFn he] at h3
      rw [joinK_fn_mk hc] at h4
      obtain ⟨p1, p2, i1, i2, rfl⟩ := both2_some h3
      obtain ⟨q1, q2, j1, j2, rfl⟩ := both2_some h4
      have := ih e1 d1 c1 y1 x1 q1 p1 (by simp only [K.size] at hn; omega) (ok_fn he).1 (ok_fn hd).1 (ok_fn hc).1 g1 f1 j1 i1
      rw [this, ih c2 d2 e2 x2 y2 p2 q2 (by simp only [K.size] at hn; omega) (ok_fn hc).2 (ok_fn hd).2 (ok_fn he).2 f2 g2 i2 j2]
    | pair c1 c2 =>
      refine former rfl fun hd1 hd2 he1 he2 => ?_
      cases d <;> (try (simp [K.isForm, K.form] at hd1 hd2; done))
      cases e <;> (try (simp [K.isForm, K.form] at he1 he2; done))
      rename_i d1 d2 e1 e2
      rw [joinK_pair] at h1 h2
      obtain ⟨x1, x2, f1, f2, rfl⟩ := both2_some h1
      obtain ⟨y1, y2, g1, g2, rfl⟩ := both2_some h2
      rw [joinK_mkPair he] at h3
      rw [joinK_pair_mk hc] at h4
      obtain ⟨p1, p2, i1, i2, rfl⟩ := both2_some h3
      obtain ⟨q1, q2, j1, j2, rfl⟩ := both2_some h4
      rw [ih c1 d1 e1 x1 y1 p1 q1 (by simp only [K.size] at hn; omega) (ok_pair hc).1 (ok_pair hd).1 (ok_pair he).1 f1 g1 i1 j1,
        ih c2 d2 e2 x2 y2 p2 q2 (by simp only [K.size] at hn; omega) (ok_pair hc).2 (ok_pair hd).2 (ok_pair he).2 f2 g2 i2 j2]
    | list c1 =>
      refine former rfl fun hd1 hd2 he1 he2 => ?_
      cases d <;> (try (simp [K.isForm, K.form] at hd1 hd2; done))
      cases e <;> (try (simp [K.isForm, K.form] at he1 he2; done))
      rename_i d1 e1
      rw [joinK_list] at h1 h2
      obtain ⟨x1, f1, rfl⟩ := map_some' h1
      obtain ⟨y1, g1, rfl⟩ := map_some' h2
      rw [joinK_mkList he] at h3
      rw [joinK_list_mk hc] at h4
      obtain ⟨p1, i1, rfl⟩ := map_some' h3
      obtain ⟨q1, j1, rfl⟩ := map_some' h4
      rw [ih c1 d1 e1 x1 y1 p1 q1 (by simp only [K.size] at hn; omega) (ok_list hc) (ok_list hd) (ok_list he) f1 g1 i1 j1]

/-- How high. -/
def K.height : K → Nat
  | .id => 1
  | .fn a b => max a.height b.height + 1
  | .pair a b => max a.height b.height + 1
  | .list a => a.height + 1
  | .inj _ k => k.height
  | .proj _ _ _ k => k.height
  | .fail _ _ => 1
theorem K.height_pos (k : K) : 1 ≤ k.height := by induction k <;> simp [K.height] <;> omega
theorem K.height_co (k : K) : heightC k.co = k.height := by
  induction k <;> simp_all [K.co, heightC, heightCL, K.height]

theorem joinF_height : ∀ (n : Nat) (c d j : K), joinF n c d = some j → j.height ≤ max c.height d.height := by
  intro n
  induction n with
  | zero => intro c d j h; cases h
  | succ n ih =>
    intro c d j h
    have mf : ∀ a b : K, (mkFn a b).height ≤ max a.height b.height + 1 := fun a b => by unfold mkFn; split <;> simp [K.height]
    have mp : ∀ a b : K, (mkPair a b).height ≤ max a.height b.height + 1 := fun a b => by unfold mkPair; split <;> simp [K.height]
    have ml : ∀ a : K, (mkList a).height ≤ a.height + 1 := fun a => by unfold mkList; split <;> simp [K.height]
    have hcp := c.height_pos
    have hdp := d.height_pos
    cases c with
    | id => simp only [joinF, Option.some.injEq] at h; subst h; omega
    | fail l b => simp only [joinF, Option.some.injEq] at h; subst h; simp only [K.height] at *; omega
    | proj hd l b k =>
      simp only [joinF] at h
      obtain ⟨x, e, rfl⟩ := map_some' h
      have := ih _ _ _ e; simp only [K.height] at *; omega
    | inj hd k =>
      cases d <;> simp only [joinF, Option.some.injEq, reduceCtorEq] at h
      · subst h; simp only [K.height] at *; omega
      · split at h
        · have := ih _ _ _ h; simp only [K.height] at *; omega
        · cases h; simp only [K.height] at *; omega
    | fn a a' =>
      cases d <;> simp only [joinF, Option.some.injEq, reduceCtorEq] at h
      · subst h; simp only [K.height] at *; omega
      · obtain ⟨x, y, e1, e2, rfl⟩ := both2_some h
        have := ih _ _ _ e1; have := ih _ _ _ e2; have := mf x y; simp only [K.height] at *; omega
      · obtain ⟨x, e, rfl⟩ := map_some' h
        have := ih _ _ _ e; simp only [K.height] at *; omega
      · subst h; simp only [K.height] at *; omega
    | pair a a' =>
      cases d <;> simp only [joinF, Option.some.injEq, reduceCtorEq] at h
      · subst h; simp only [K.height] at *; omega
      · obtain ⟨x, y, e1, e2, rfl⟩ := both2_some h
        have := ih _ _ _ e1; have := ih _ _ _ e2; have := mp x y; simp only [K.height] at *; omega
      · obtain ⟨x, e, rfl⟩ := map_some' h
        have := ih _ _ _ e; simp only [K.height] at *; omega
      · subst h; simp only [K.height] at *; omega
    | list a =>
      cases d <;> simp only [joinF, Option.some.injEq, reduceCtorEq] at h
      · subst h; simp only [K.height] at *; omega
      · obtain ⟨x, e, rfl⟩ := map_some' h
        have := ih _ _ _ e; have := ml x; simp only [K.height] at *; omega
      · obtain ⟨x, e, rfl⟩ := map_some' h
        have := ih _ _ _ e; simp only [K.height] at *; omega
      · subst h; simp only [K.height] at *; omega
theorem joinK_height {c d j : K} (h : joinK c d = some j) : j.height ≤ max c.height d.height := joinF_height _ c d j h

end Go.Proofs.Ytdngjamjccjlmaa
end

section
/- Right types as a type of their own; casts as coercions: plain functions. No condition. -/
set_option linter.unusedSimpArgs false
set_option linter.unusedVariables false
namespace Go.Proofs.Ytdngjamjccjlmaa
open Go Go.Ab

inductive T where
  | base (k : Fin 4)
  | dyn
  | var (n : Int)
  | pair (a b : T)
  | list (a : T)
  | fn (a b : T)
  deriving DecidableEq
instance : Inhabited T := ⟨.dyn⟩

def T.ty : T → Ty
  | .base k => .mk (k.val + 1) 0 []
  | .dyn => .mk 5 0 []
  | .var n => .mk 6 n []
  | .pair a b => .mk 7 0 [a.ty, b.ty]
  | .list a => .mk 8 0 [a.ty]
  | .fn a b => .mk 9 0 [a.ty, b.ty]
def T.kind : T → Int
  | .base k => k.val + 1
  | .dyn => 5
  | .var _ => 6
  | .pair _ _ => 7
  | .list _ => 8
  | .fn _ _ => 9
/-- Its variables' numbers are in range. -/
def T.ok : T → Bool
  | .var n => decide (0 ≤ n) && decide (n ≤ 1048576)
  | .pair a b => a.ok && b.ok
  | .list a => a.ok
  | .fn a b => a.ok && b.ok
  | _ => true
theorem T.kind_ty (a : T) : a.ty.kind = a.kind := by cases a <;> rfl
theorem T.right_ty : ∀ a : T, right a.ty = a.ok := by
  intro a
  induction a with
  | base k => match k with | 0 | 1 | 2 | 3 => rfl
  | dyn => rfl
  | var n => rw [Bool.eq_iff_iff]; simp [T.ty, right, rightL, okN, arity, Ty.kind, Ty.num, Ty.kids, T.ok]; exact ⟨fun h => ⟨of_decide_eq_true h.1, of_decide_eq_true h.2⟩, fun h => ⟨decide_eq_true h.1, decide_eq_true h.2⟩⟩
  | pair a b iha ihb => simp [T.ty, right, rightL, okN, arity, Ty.kind, Ty.num, Ty.kids, T.ok, iha, ihb]
  | list a iha => simp [T.ty, right, rightL, okN, arity, Ty.kind, Ty.num, Ty.kids, T.ok, iha]
  | fn a b iha ihb => simp [T.ty, right, rightL, okN, arity, Ty.kind, Ty.num, Ty.kids, T.ok, iha, ihb]
theorem ty_one_kid {t : Ty} (h : t.kids.length = 1) : t.kids = [t.kid 0] := by
  obtain ⟨k, n, l⟩ := t
  match l, h with
  | [x], _ => rfl
theorem ty_two_kids {t : Ty} (h : t.kids.length = 2) : t.kids = [t.kid 0, t.kid 1] := by
  obtain ⟨k, n, l⟩ := t
  match l, h with
  | [x, y], _ => rfl
theorem T.of_right : ∀ t : Ty, right t = true → ∃ a : T, t = a.ty := by
  refine Ty.ind fun t ih ht => ?_
  have e := Ty.eta t
  rcases right_arity ht with ⟨hk, hl⟩ | ⟨hk, hl⟩ | ⟨hk, hl⟩
  · by_cases h6 : t.kind = 6
    · exact ⟨.var t.num, by conv => lhs; rw [← e, h6, hl]
                            rfl⟩
    · have hn := right_num ht h6
      rcases hk with h | h | h | h | h | h
      · exact ⟨.base 0, by rw [← e, h, hn, hl]; rfl⟩
      · exact ⟨.base 1, by rw [← e, h, hn, hl]; rfl⟩
      · exact ⟨.base 2, by rw [← e, h, hn, hl]; rfl⟩
      · exact ⟨.base 3, by rw [← e, h, hn, hl]; rfl⟩
      · exact ⟨.dyn, by rw [← e, h, hn, hl]; rfl⟩
      · exact absurd h h6
  · have hn := right_num ht (by omega)
    obtain ⟨a, ha⟩ := ih _ (kidmem (t := t) (i := 0) (by omega)) (right_kid ht (by omega))
    exact ⟨.list a, by rw [← e, hk, hn, ty_one_kid hl, ha]; rfl⟩
  · have hn := right_num ht (by omega)
    obtain ⟨a, ha⟩ := ih _ (kidmem (t := t) (i := 0) (by omega)) (right_kid ht (by omega))
    obtain ⟨b, hb⟩ := ih _ (kidmem (t := t) (i := 1) (by omega)) (right_kid ht (by omega))
    rcases hk with hk | hk
    · exact ⟨.pair a b, by rw [← e, hk, hn, ty_two_kids hl, ha, hb]; rfl⟩
    · exact ⟨.fn a b, by rw [← e, hk, hn, ty_two_kids hl, ha, hb]; rfl⟩
theorem base_inj {k k' : Fin 4} : ((k.val : Int) + 1 = k'.val + 1) ↔ k = k' := by
  constructor
  · intro h; exact Fin.ext (by omega)
  · rintro rfl; rfl
theorem T.ty_inj : ∀ {a b : T}, a.ty = b.ty → a = b := by
  intro a
  induction a with
  | base k =>
    intro b h
    cases b <;> simp only [T.ty, Ty.mk.injEq] at h <;> first | (exfalso; have := h.1; omega) | (rw [base_inj.1 h.1])
  | dyn =>
    intro b h
    cases b <;> simp only [T.ty, Ty.mk.injEq] at h <;> first | (exfalso; have := h.1; omega) | rfl
  | var n =>
    intro b h
    cases b <;> simp only [T.ty, Ty.mk.injEq] at h <;> first | (exfalso; have := h.1; omega) | (rw [h.2.1])
  | pair x y ih1 ih2 =>
    intro b h
    cases b <;> simp only [T.ty, Ty.mk.injEq, List.cons.injEq] at h <;> first | (exfalso; have := h.1; omega) | (rw [ih1 h.2.2.1, ih2 h.2.2.2.1])
  | list x ih1 =>
    intro b h
    cases b <;> simp only [T.ty, Ty.mk.injEq, List.cons.injEq] at h <;> first | (exfalso; have := h.1; omega) | (rw [ih1 h.2.2.1])
  | fn x y ih1 ih2 =>
    intro b h
    cases b <;> simp only [T.ty, Ty.mk.injEq, List.cons.injEq] at h <;> first | (exfalso; have := h.1; omega) | (rw [ih1 h.2.2.1, ih2 h.2.2.2.1])
theorem T.same_ty (a b : T) : same a.ty b.ty = decide (a = b) := by
  rw [Bool.eq_iff_iff, same_true, decide_eq_true_eq]
  exact ⟨T.ty_inj, fun h => h ▸ rfl⟩

def T.closed : T → Bool
  | .var _ => false
  | .pair a b => a.closed && b.closed
  | .list a => a.closed
  | .fn a b => a.closed && b.closed
  | _ => true
def T.static : T → Bool
  | .dyn => false
  | .pair a b => a.static && b.static
  | .list a => a.static
  | .fn a b => a.static && b.static
  | _ => true
theorem T.closed_ty : ∀ a : T, without 6 a.ty = a.closed := by
  intro a
  induction a with
  | base k => match k with | 0 | 1 | 2 | 3 => rfl
  | _ => simp_all [T.ty, without, withoutL, T.closed]
theorem T.static_ty : ∀ a : T, without 5 a.ty = a.static := by
  intro a
  induction a with
  | base k => match k with | 0 | 1 | 2 | 3 => rfl
  | _ => simp_all [T.ty, without, withoutL, T.static]

def agreeT : T → T → Bool
  | .dyn, b => b.closed
  | .base k, b => match b with | .dyn => true | .base k' => decide (k = k') | _ => false
  | .var n, b => match b with | .var m => decide (n = m) | _ => false
  | .pair a a', b => match b with | .dyn => a.closed && a'.closed | .pair c c' => agreeT a c && agreeT a' c' | _ => false
  | .list a, b => match b with | .dyn => a.closed | .list c => agreeT a c | _ => false
  | .fn a a', b => match b with | .dyn => a.closed && a'.closed | .fn c c' => agreeT a c && agreeT a' c' | _ => false
theorem base_ne (k : Fin 4) : ¬ ((k.val : Int) + 1 = 5) ∧ ¬ ((k.val : Int) + 1 = 6) ∧ ¬ ((k.val : Int) + 1 = 7) ∧ ¬ ((k.val : Int) + 1 = 8) ∧ ¬ ((k.val : Int) + 1 = 9) := by
  have := k.isLt; refine ⟨?_, ?_, ?_, ?_, ?_⟩ <;> omega
theorem base_ne' (k : Fin 4) : ¬ (5 = (k.val : Int) + 1) ∧ ¬ (6 = (k.val : Int) + 1) ∧ ¬ (7 = (k.val : Int) + 1) ∧ ¬ (8 = (k.val : Int) + 1) ∧ ¬ (9 = (k.val : Int) + 1) := by
  have := k.isLt; refine ⟨?_, ?_, ?_, ?_, ?_⟩ <;> omega
theorem T.agree_ty : ∀ a b : T, agree a.ty b.ty = agreeT a b := by
  intro a
  induction a with
  | base k =>
    intro b
    have hk := base_ne k
    have cb := T.closed_ty (.base k)
    cases b with
    | base k' =>
      have h2 := base_ne k'
      simp only [T.ty, agree, agreeL, agreeT, Ty.kind, Ty.num, Ty.kids, hk.1, h2.1, if_false, base_inj, ne_eq, not_true_eq_false, or_false]
      by_cases h : k = k' <;> simp [h]
    | _ => simp_all [T.ty, agree, agreeL, agreeT, Ty.kind, Ty.num, Ty.kids, T.closed, base_inj]
  | dyn =>
    intro b
    have := T.closed_ty b
    simp [T.ty, agree, agreeT, this]
  | var n =>
    intro b
    have cb := T.closed_ty (.var n)
    cases b with
    | base k => have := base_ne' k; have := base_ne k; simp_all [T.ty, agree, agreeL, agreeT, Ty.kind, Ty.num, Ty.kids, T.closed]
    | _ => simp_all [T.ty, agree, agreeL, agreeT, Ty.kind, Ty.num, Ty.kids, T.closed]
  | pair x y ih1 ih2 =>
    intro b
    have cb := T.closed_ty (.pair x y)
    cases b with
    | base k => have := base_ne' k; have := base_ne k; simp_all [T.ty, agree, agreeL, agreeT, Ty.kind, Ty.num, Ty.kids, T.closed]
    | _ => simp_all [T.ty, agree, agreeL, agreeT, Ty.kind, Ty.num, Ty.kids, T.closed]
  | list x ih1 =>
    intro b
    have cb := T.closed_ty (.list x)
    cases b with
    | base k => have := base_ne' k; have := base_ne k; simp_all [T.ty, agree, agreeL, agreeT, Ty.kind, Ty.num, Ty.kids, T.closed]
    | _ => simp_all [T.ty, agree, agreeL, agreeT, Ty.kind, Ty.num, Ty.kids, T.closed]
  | fn x y ih1 ih2 =>
    intro b
    have cb := T.closed_ty (.fn x y)
    cases b with
    | base k => have := base_ne' k; have := base_ne k; simp_all [T.ty, agree, agreeL, agreeT, Ty.kind, Ty.num, Ty.kids, T.closed]
    | _ => simp_all [T.ty, agree, agreeL, agreeT, Ty.kind, Ty.num, Ty.kids, T.closed]

mutual
def upT (l : Int) : T → Bool → K
  | .base k, _ => .inj (k.val + 1) .id
  | .pair a b, n => .inj 7 (mkPair (upT l a n) (upT l b n))
  | .list a, n => .inj 8 (mkList (upT l a n))
  | .fn a b, n => .inj 9 (mkFn (downT l a (!n)) (upT l b n))
  | .dyn, _ => .id
  | .var _, _ => .id
def downT (l : Int) : T → Bool → K
  | .base k, n => .proj (k.val + 1) l n .id
  | .pair a b, n => .proj 7 l n (mkPair (downT l a n) (downT l b n))
  | .list a, n => .proj 8 l n (mkList (downT l a n))
  | .fn a b, n => .proj 9 l n (mkFn (upT l a (!n)) (downT l b n))
  | .dyn, _ => .id
  | .var _, _ => .id
end
def castF (l : Int) : Nat → T → T → Bool → K
  | 0, _, _, _ => .id
  | m + 1, a, b, n => match a, b with
    | .dyn, b => downT l b n
    | a, .dyn => upT l a n
    | .pair a a', .pair b b' => mkPair (castF l m a b n) (castF l m a' b' n)
    | .list a, .list b => mkList (castF l m a b n)
    | .fn a a', .fn b b' => mkFn (castF l m b a (!n)) (castF l m a' b' n)
    | _, _ => .id
def T.size : T → Nat
  | .pair a b => a.size + b.size + 1
  | .list a => a.size + 1
  | .fn a b => a.size + b.size + 1
  | _ => 1
theorem castF_fuel (l : Int) : ∀ (m m' : Nat) (a b : T) (n : Bool), a.size + b.size ≤ m → a.size + b.size ≤ m' → castF l m a b n = castF l m' a b n := by
  intro m
  induction m with
  | zero => intro m' a b n h; cases a <;> simp [T.size] at h
  | succ m ih =>
    intro m' a b n h h'
    cases m' with
    | zero => cases a <;> simp [T.size] at h'
    | succ m' =>
      cases a <;> cases b <;> simp only [castF] <;> simp only [T.size] at h h'
      · rw [ih m' _ _ _ (by omega) (by omega), ih m' _ _ _ (by omega) (by omega)]
      · rw [ih m' _ _ _ (by omega) (by omega)]
      · rw [ih m' _ _ _ (by omega) (by omega), ih m' _ _ _ (by omega) (by omega)]
def castT (l : Int) (a b : T) (n : Bool) : K := castF l (a.size + b.size) a b n
theorem castF_T {l : Int} {m : Nat} {a b : T} {n : Bool} (h : a.size + b.size ≤ m) : castF l m a b n = castT l a b n := castF_fuel l _ _ _ _ _ h (Nat.le_refl _)
theorem T.size_pos (a : T) : 0 < a.size := by cases a <;> simp [T.size]
theorem cast_dyn_l (l : Int) (b : T) (n : Bool) : castT l .dyn b n = downT l b n := by
  obtain ⟨m, hm⟩ := Nat.exists_eq_succ_of_ne_zero (show T.dyn.size + b.size ≠ 0 by simp [T.size])
  rw [castT, hm, castF]
theorem cast_dyn_r (l : Int) (a : T) (n : Bool) : castT l a .dyn n = upT l a n := by
  obtain ⟨m, hm⟩ := Nat.exists_eq_succ_of_ne_zero (show a.size + T.dyn.size ≠ 0 by simp [T.size])
  rw [castT, hm]
  cases a <;> simp [castF, upT, downT]
theorem cast_pair (l : Int) (a a' b b' : T) (n : Bool) : castT l (.pair a a') (.pair b b') n = mkPair (castT l a b n) (castT l a' b' n) := by
  obtain ⟨m, hm⟩ := Nat.exists_eq_succ_of_ne_zero (show (T.pair a a').size + (T.pair b b').size ≠ 0 by simp [T.size])
  rw [castT, hm, castF]
  simp only [T.size] at hm
  rw [castF_T (by omega), castF_T (by omega)]
theorem cast_list (l : Int) (a b : T) (n : Bool) : castT l (.list a) (.list b) n = mkList (castT l a b n) := by
  obtain ⟨m, hm⟩ := Nat.exists_eq_succ_of_ne_zero (show (T.list a).size + (T.list b).size ≠ 0 by simp [T.size])
  rw [castT, hm, castF]
  simp only [T.size] at hm
  rw [castF_T (by omega)]
theorem cast_fn (l : Int) (a a' b b' : T) (n : Bool) : castT l (.fn a a') (.fn b b') n = mkFn (castT l b a (!n)) (castT l a' b' n) := by
  obtain ⟨m, hm⟩ := Nat.exists_eq_succ_of_ne_zero (show (T.fn a a').size + (T.fn b b').size ≠ 0 by simp [T.size])
  rw [castT, hm, castF]
  simp only [T.size] at hm
  rw [castF_T (by omega), castF_T (by omega)]
theorem cast_base (l : Int) (k k' : Fin 4) (n : Bool) : castT l (.base k) (.base k') n = .id := rfl
theorem cast_var (l : Int) (k k' : Int) (n : Bool) : castT l (.var k) (.var k') n = .id := rfl

/-- Induction over two types that agree. -/
theorem agree_ind {p : T → T → Prop} (hdl : ∀ b, b.closed = true → p .dyn b) (hdr : ∀ a, a.closed = true → p a .dyn) (hb : ∀ k, p (.base k) (.base k)) (hv : ∀ n, p (.var n) (.var n))
    (hp : ∀ a a' b b', agreeT a b = true → agreeT a' b' = true → p a b → p a' b' → p (.pair a a') (.pair b b'))
    (hl : ∀ a b, agreeT a b = true → p a b → p (.list a) (.list b))
    (hf : ∀ a a' b b', agreeT a b = true → agreeT a' b' = true → p a b → p a' b' → p (.fn a a') (.fn b b')) : ∀ a b, agreeT a b = true → p a b := by
  intro a
  induction a with
  | dyn => intro b h; exact hdl b h
  | base k =>
    intro b h
    cases b <;> simp only [agreeT, decide_eq_true_eq, Bool.false_eq_true] at h
    · rw [← h]; exact hb k
    · exact hdr _ rfl
  | var n =>
    intro b h
    cases b <;> simp only [agreeT, decide_eq_true_eq, Bool.false_eq_true] at h
    rw [← h]; exact hv n
  | pair x y ih1 ih2 =>
    intro b h
    cases b <;> simp only [agreeT, Bool.and_eq_true, Bool.false_eq_true] at h
    · exact hdr _ (by simp [T.closed, h])
    · exact hp _ _ _ _ h.1 h.2 (ih1 _ h.1) (ih2 _ h.2)
  | list x ih1 =>
    intro b h
    cases b <;> simp only [agreeT, Bool.and_eq_true, Bool.false_eq_true] at h
    · exact hdr _ (by simp [T.closed, h])
    · exact hl _ _ h (ih1 _ h)
  | fn x y ih1 ih2 =>
    intro b h
    cases b <;> simp only [agreeT, Bool.and_eq_true, Bool.false_eq_true] at h
    · exact hdr _ (by simp [T.closed, h])
    · exact hf _ _ _ _ h.1 h.2 (ih1 _ h.1) (ih2 _ h.2)
theorem agreeT_symm : ∀ a b, agreeT a b = true → agreeT b a = true := by
  refine agree_ind ?_ ?_ ?_ ?_ ?_ ?_ ?_
  · intro b h; cases b <;> simp_all [agreeT, T.closed]
  · intro a h; exact h
  · intro k; simp [agreeT]
  · intro k; simp [agreeT]
  · intro a a' b b' _ _ h1 h2; simp [agreeT, h1, h2]
  · intro a b _ h1; simp [agreeT, h1]
  · intro a a' b b' _ _ h1 h2; simp [agreeT, h1, h2]
theorem agreeT_refl : ∀ a, agreeT a a = true := by
  intro a; induction a <;> simp_all [agreeT, T.closed]

end Go.Proofs.Ytdngjamjccjlmaa
end

section
/- Casts as coercions: plain laws. No condition. -/
set_option linter.unusedSimpArgs false
set_option linter.unusedVariables false
namespace Go.Proofs.Ytdngjamjccjlmaa
open Go Go.Ab

/-- The ground of a head. -/
def ofH (h : Int) : T :=
  if h = 1 then .base 0 else if h = 2 then .base 1 else if h = 3 then .base 2 else if h = 4 then .base 3 else if h = 7 then .pair .dyn .dyn else if h = 8 then .list .dyn else if h = 9 then .fn .dyn .dyn else .dyn
def T.isDyn : T → Bool | .dyn => true | _ => false
def fitsK : K → T → T → Bool
  | .id, a, b => decide (a = b)
  | .fail _ _, a, _ => !a.isDyn
  | .inj h k, a, b => b.isDyn && decide (a.kind = h) && fitsK k a (ofH h)
  | .proj h _ _ k, a, b => a.isDyn && fitsK k (ofH h) b
  | .fn x y, a, b => match a, b with | .fn a a', .fn b b' => fitsK x b a && fitsK y a' b' | _, _ => false
  | .pair x y, a, b => match a, b with | .pair a a', .pair b b' => fitsK x a b && fitsK y a' b' | _, _ => false
  | .list x, a, b => match a, b with | .list a, .list b => fitsK x a b | _, _ => false
theorem isDyn_iff {a : T} : a.isDyn = true ↔ a = .dyn := by cases a <;> simp [T.isDyn]
theorem head_base (k : Fin 4) : headK ((k.val : Int) + 1) = true := by
  have := k.isLt
  simp only [headK, decide_eq_true_eq]; omega
theorem ofH_base (k : Fin 4) : ofH ((k.val : Int) + 1) = .base k := by
  match k with | 0 | 1 | 2 | 3 => rfl
theorem form_x {k : K} (h : k.isForm = true) : ∃ f, f ≠ 0 ∧ k.form = f := ⟨_, by simpa [K.isForm] using h, rfl⟩

theorem mkPair_okk {a b : K} (ha : a.ok = true) (hb : b.ok = true) : (mkPair a b).ok = true ∧ (mkPair a b = .id ∨ (mkPair a b).form = 7) := by
  unfold mkPair; split
  · exact ⟨rfl, .inl rfl⟩
  · rename_i h; exact ⟨by simp only [K.ok, ha, hb]; cases h1 : a.isId <;> cases h2 : b.isId <;> simp_all, .inr rfl⟩
theorem mkFn_okk {a b : K} (ha : a.ok = true) (hb : b.ok = true) : (mkFn a b).ok = true ∧ (mkFn a b = .id ∨ (mkFn a b).form = 9) := by
  unfold mkFn; split
  · exact ⟨rfl, .inl rfl⟩
  · rename_i h; exact ⟨by simp only [K.ok, ha, hb]; cases h1 : a.isId <;> cases h2 : b.isId <;> simp_all, .inr rfl⟩
theorem mkList_okk {a : K} (ha : a.ok = true) : (mkList a).ok = true ∧ (mkList a = .id ∨ (mkList a).form = 8) := by
  unfold mkList; split
  · exact ⟨rfl, .inl rfl⟩
  · rename_i h; exact ⟨by simp only [K.ok, ha]; simpa using h, .inr rfl⟩
theorem inj_okk {h : Int} {k : K} (hh : headK h = true) (hk : k.ok = true) (hf : k = .id ∨ k.form = h) : (K.inj h k).ok = true := by
  simp only [K.ok, hk, hh, Bool.true_and, Bool.or_eq_true, isId_iff, decide_eq_true_eq]; exact hf
theorem proj_okk {h l : Int} {n : Bool} {k : K} (hh : headK h = true) (hl : labelOK l = true) (hk : k.ok = true) (hf : k.isFail = true ∨ k.injOf h = true ∨ k = .id ∨ k.form = h) : (K.proj h l n k).ok = true := by
  simp only [K.ok, hk, hh, hl, Bool.true_and, Bool.or_eq_true, isId_iff, decide_eq_true_eq]
  rcases hf with h | h | h
  · exact .inl (.inl h)
  · exact .inl (.inr h)
  · exact .inr h

theorem up_down_ok {l : Int} (hl : labelOK l = true) : ∀ (a : T) (n : Bool), (upT l a n).ok = true ∧ (downT l a n).ok = true := by
  intro a
  induction a with
  | base k => intro n; exact ⟨inj_okk (head_base k) rfl (.inl rfl), proj_okk (head_base k) hl rfl (.inr (.inr (.inl rfl)))⟩
  | dyn => intro n; exact ⟨rfl, rfl⟩
  | var m => intro n; exact ⟨rfl, rfl⟩
  | pair a b iha ihb =>
    intro n
    have h1 := mkPair_okk (iha n).1 (ihb n).1
    have h2 := mkPair_okk (iha n).2 (ihb n).2
    exact ⟨inj_okk (by decide) h1.1 h1.2, proj_okk (by decide) hl h2.1 (.inr (.inr h2.2))⟩
  | list a iha =>
    intro n
    have h1 := mkList_okk (iha n).1
    have h2 := mkList_okk (iha n).2
    exact ⟨inj_okk (by decide) h1.1 h1.2, proj_okk (by decide) hl h2.1 (.inr (.inr h2.2))⟩
  | fn a b iha ihb =>
    intro n
    have h1 := mkFn_okk (iha (!n)).2 (ihb n).1
    have h2 := mkFn_okk (iha (!n)).1 (ihb n).2
    exact ⟨inj_okk (by decide) h1.1 h1.2, proj_okk (by decide) hl h2.1 (.inr (.inr h2.2))⟩
/-- Casts are right. -/
theorem cast_okk {l : Int} (hl : labelOK l = true) : ∀ a b : T, agreeT a b = true → ∀ n, (castT l a b n).ok = true ∧ (castT l b a n).ok = true := by
  refine agree_ind ?_ ?_ ?_ ?_ ?_ ?_ ?_
  · intro b _ n; rw [cast_dyn_l, cast_dyn_r]; exact ⟨(up_down_ok hl b n).2, (up_down_ok hl b n).1⟩
  · intro a _ n; rw [cast_dyn_l, cast_dyn_r]; exact up_down_ok hl a n
  · intro k n; exact ⟨rfl, rfl⟩
  · intro k n; exact ⟨rfl, rfl⟩
  · intro a a' b b' _ _ h1 h2 n
    rw [cast_pair, cast_pair]
    exact ⟨(mkPair_okk (h1 n).1 (h2 n).1).1, (mkPair_okk (h1 n).2 (h2 n).2).1⟩
  · intro a b _ h1 n
    rw [cast_list, cast_list]
    exact ⟨(mkList_okk (h1 n).1).1, (mkList_okk (h1 n).2).1⟩
  · intro a a' b b' _ _ h1 h2 n
    rw [cast_fn, cast_fn]
    exact ⟨(mkFn_okk (h1 (!n)).2 (h2 n).1).1, (mkFn_okk (h1 (!n)).1 (h2 n).2).1⟩

theorem fits_mkPair {x y : K} {a a' b b' : T} (h1 : fitsK x a b = true) (h2 : fitsK y a' b' = true) : fitsK (mkPair x y) (.pair a a') (.pair b b') = true := by
  unfold mkPair; split
  · rename_i h
    simp only [Bool.and_eq_true, isId_iff] at h
    rw [h.1] at h1; rw [h.2] at h2
    simp only [fitsK, decide_eq_true_eq] at *
    rw [h1, h2]
  · simp [fitsK, h1, h2]
theorem fits_mkFn {x y : K} {a a' b b' : T} (h1 : fitsK x b a = true) (h2 : fitsK y a' b' = true) : fitsK (mkFn x y) (.fn a a') (.fn b b') = true := by
  unfold mkFn; split
  · rename_i h
    simp only [Bool.and_eq_true, isId_iff] at h
    rw [h.1] at h1; rw [h.2] at h2
    simp only [fitsK, decide_eq_true_eq] at *
    rw [h1, h2]
  · simp [fitsK, h1, h2]
theorem fits_mkList {x : K} {a b : T} (h1 : fitsK x a b = true) : fitsK (mkList x) (.list a) (.list b) = true := by
  unfold mkList; split
  · rename_i h
    simp only [isId_iff] at h
    rw [h] at h1
    simp only [fitsK, decide_eq_true_eq] at *
    rw [h1]
  · simp [fitsK, h1]
theorem up_down_fits {l : Int} : ∀ (a : T) (n : Bool), a.closed = true → fitsK (upT l a n) a .dyn = true ∧ fitsK (downT l a n) .dyn a = true := by
  intro a
  induction a with
  | base k => intro n _; simp [upT, downT, fitsK, T.isDyn, T.kind, ofH_base]
  | dyn => intro n _; simp [upT, downT, fitsK]
  | var m => intro n h; simp [T.closed] at h
  | pair a b iha ihb =>
    intro n h
    simp only [T.closed, Bool.and_eq_true] at h
    have h1 := iha n h.1
    have h2 := ihb n h.2
    refine ⟨?_, ?_⟩
    · simp only [upT, fitsK, T.isDyn, T.kind, decide_true, Bool.true_and]; exact fits_mkPair h1.1 h2.1
    · simp only [downT, fitsK, T.isDyn, Bool.true_and]; exact fits_mkPair h1.2 h2.2
  | list a iha =>
    intro n h
    simp only [T.closed] at h
    have h1 := iha n h
    refine ⟨?_, ?_⟩
    · simp only [upT, fitsK, T.isDyn, T.kind, decide_true, Bool.true_and]; exact fits_mkList h1.1
    · simp only [downT, fitsK, T.isDyn, Bool.true_and]; exact fits_mkList h1.2
  | fn a b iha ihb =>
    intro n h
    simp only [T.closed, Bool.and_eq_true] at h
    have h1 := iha (!n) h.1
    have h2 := ihb n h.2
    refine ⟨?_, ?_⟩
    · simp only [upT, fitsK, T.isDyn, T.kind, decide_true, Bool.true_and]; exact fits_mkFn h1.2 h2.1
    · simp only [downT, fitsK, T.isDyn, Bool.true_and]; exact fits_mkFn h1.1 h2.2
/-- Casts go from the one to the other. -/
theorem cast_fits {l : Int} : ∀ a b : T, agreeT a b = true → ∀ n, fitsK (castT l a b n) a b = true ∧ fitsK (castT l b a n) b a = true := by
  refine agree_ind ?_ ?_ ?_ ?_ ?_ ?_ ?_
  · intro b h n; rw [cast_dyn_l, cast_dyn_r]; exact ⟨(up_down_fits b n h).2, (up_down_fits b n h).1⟩
  · intro a h n; rw [cast_dyn_l, cast_dyn_r]; exact up_down_fits a n h
  · intro k n; simp [cast_base, fitsK]
  · intro k n; simp [cast_var, fitsK]
  · intro a a' b b' _ _ h1 h2 n
    rw [cast_pair, cast_pair]
    exact ⟨fits_mkPair (h1 n).1 (h2 n).1, fits_mkPair (h1 n).2 (h2 n).2⟩
  · intro a b _ h1 n
    rw [cast_list, cast_list]
    exact ⟨fits_mkList (h1 n).1, fits_mkList (h1 n).2⟩
  · intro a a' b b' _ _ h1 h2 n
    rw [cast_fn, cast_fn]
    exact ⟨fits_mkFn (h1 (!n)).2 (h2 n).1, fits_mkFn (h1 (!n)).1 (h2 n).2⟩

/-- The identity just if they are the same. -/
theorem cast_same {l : Int} : ∀ (a : T) (n : Bool), castT l a a n = .id := by
  intro a
  induction a with
  | base k => intro n; rfl
  | dyn => intro n; rw [cast_dyn_l, downT]
  | var m => intro n; rfl
  | pair a b iha ihb => intro n; rw [cast_pair, iha, ihb]; rfl
  | list a iha => intro n; rw [cast_list, iha]; rfl
  | fn a b iha ihb => intro n; rw [cast_fn, iha, ihb]; rfl
theorem cast_isId {l : Int} {a b : T} (h : agreeT a b = true) (n : Bool) : castT l a b n = .id ↔ a = b := by
  constructor
  · intro e
    have := (cast_fits a b h n (l := l)).1
    rw [e, fitsK, decide_eq_true_eq] at this; exact this
  · rintro rfl; exact cast_same a n

/-- No higher than the deeper one is deep. -/
def T.deep : T → Nat
  | .pair a b => max a.deep b.deep + 1
  | .list a => a.deep + 1
  | .fn a b => max a.deep b.deep + 1
  | _ => 1
theorem T.deep_ty : ∀ a : T, depth a.ty = a.deep := by
  intro a; induction a <;> simp_all [T.ty, depth, depthL, T.deep]
theorem T.deep_pos (a : T) : 1 ≤ a.deep := by cases a <;> simp [T.deep]
theorem mkPair_h (a b : K) : (mkPair a b).height ≤ max a.height b.height + 1 := by unfold mkPair; split <;> simp [K.height]
theorem mkFn_h (a b : K) : (mkFn a b).height ≤ max a.height b.height + 1 := by unfold mkFn; split <;> simp [K.height]
theorem mkList_h (a : K) : (mkList a).height ≤ a.height + 1 := by unfold mkList; split <;> simp [K.height]
theorem up_down_h {l : Int} : ∀ (a : T) (n : Bool), (upT l a n).height ≤ a.deep ∧ (downT l a n).height ≤ a.deep := by
  intro a
  induction a with
  | base k => intro n; simp [upT, downT, K.height, T.deep]
  | dyn => intro n; simp [upT, downT, K.height, T.deep]
  | var m => intro n; simp [upT, downT, K.height, T.deep]
  | pair a b iha ihb =>
    intro n
    have h1 := iha n; have h2 := ihb n
    have h3 := mkPair_h (upT l a n) (upT l b n); have h4 := mkPair_h (downT l a n) (downT l b n)
    simp only [upT, downT, K.height, T.deep]; omega
  | list a iha =>
    intro n
    have h1 := iha n
    have h3 := mkList_h (upT l a n); have h4 := mkList_h (downT l a n)
    simp only [upT, downT, K.height, T.deep]; omega
  | fn a b iha ihb =>
    intro n
    have h1 := iha (!n); have h2 := ihb n
    have h3 := mkFn_h (downT l a (!n)) (upT l b n); have h4 := mkFn_h (upT l a (!n)) (downT l b n)
    simp only [upT, downT, K.height, T.deep]; omega
theorem cast_h {l : Int} : ∀ a b : T, agreeT a b = true → ∀ n, (castT l a b n).height ≤ max a.deep b.deep ∧ (castT l b a n).height ≤ max a.deep b.deep := by
  refine agree_ind ?_ ?_ ?_ ?_ ?_ ?_ ?_
  · intro b h n; rw [cast_dyn_l, cast_dyn_r]; have := up_down_h (l := l) b n; omega
  · intro a h n; rw [cast_dyn_l, cast_dyn_r]; have := up_down_h (l := l) a n; omega
  · intro k n; simp [cast_base, K.height, T.deep]
  · intro k n; simp [cast_var, K.height, T.deep]
  · intro a a' b b' _ _ h1 h2 n
    rw [cast_pair, cast_pair]
    have := mkPair_h (castT l a b n) (castT l a' b' n); have := mkPair_h (castT l b a n) (castT l b' a' n)
    have := h1 n; have := h2 n
    simp only [T.deep]; omega
  · intro a b _ h1 n
    rw [cast_list, cast_list]
    have := mkList_h (castT l a b n); have := mkList_h (castT l b a n)
    have := h1 n
    simp only [T.deep]; omega
  · intro a a' b b' _ _ h1 h2 n
    rw [cast_fn, cast_fn]
    have := mkFn_h (castT l b a (!n)) (castT l a' b' n); have := mkFn_h (castT l a b (!n)) (castT l b' a' n)
    have := h1 (!n); have := h2 n
    simp only [T.deep]; omega

/-! Labels and sides. -/
/-- How many parts from ? have a side. -/
def K.cnt (s : Bool) : K → Nat
  | .fn a b => a.cnt s + b.cnt s
  | .pair a b => a.cnt s + b.cnt s
  | .list a => a.cnt s
  | .inj _ k => k.cnt s
  | .proj _ _ n k => (if n = s then 1 else 0) + k.cnt s
  | _ => 0
/-- All labels are that one, and nothing fails. -/
def K.lab (l : Int) : K → Bool
  | .fn a b => a.lab l && b.lab l
  | .pair a b => a.lab l && b.lab l
  | .list a => a.lab l
  | .inj _ k => k.lab l
  | .proj _ l' _ k => decide (l' = l) && k.lab l
  | .fail _ _ => false
  | .id => true
theorem cnt_mkPair (s : Bool) (a b : K) : (mkPair a b).cnt s = a.cnt s + b.cnt s := by
  unfold mkPair; split
  · rename_i h; simp only [Bool.and_eq_true, isId_iff] at h; rw [h.1, h.2]; rfl
  · rfl
theorem cnt_mkFn (s : Bool) (a b : K) : (mkFn a b).cnt s = a.cnt s + b.cnt s := by
  unfold mkFn; split
  · rename_i h; simp only [Bool.and_eq_true, isId_iff] at h; rw [h.1, h.2]; rfl
  · rfl
theorem cnt_mkList (s : Bool) (a : K) : (mkList a).cnt s = a.cnt s := by
  unfold mkList; split
  · rename_i h; simp only [isId_iff] at h; subst h; rfl
  · rfl
theorem lab_mkPair (l : Int) (a b : K) : (mkPair a b).lab l = (a.lab l && b.lab l) := by
  unfold mkPair; split
  · rename_i h; simp only [Bool.and_eq_true, isId_iff] at h; rw [h.1, h.2]; rfl
  · rfl
theorem lab_mkFn (l : Int) (a b : K) : (mkFn a b).lab l = (a.lab l && b.lab l) := by
  unfold mkFn; split
  · rename_i h; simp only [Bool.and_eq_true, isId_iff] at h; rw [h.1, h.2]; rfl
  · rfl
theorem lab_mkList (l : Int) (a : K) : (mkList a).lab l = a.lab l := by
  unfold mkList; split
  · rename_i h; simp only [isId_iff] at h; subst h; rfl
  · rfl
theorem up_down_lab {l : Int} : ∀ (a : T) (n : Bool), (upT l a n).lab l = true ∧ (downT l a n).lab l = true := by
  intro a
  induction a <;> intro n <;> cases n <;> simp_all [upT, downT, K.lab, lab_mkPair, lab_mkFn, lab_mkList]
theorem cast_lab {l : Int} : ∀ a b : T, agreeT a b = true → ∀ n, (castT l a b n).lab l = true ∧ (castT l b a n).lab l = true := by
  refine agree_ind ?_ ?_ ?_ ?_ ?_ ?_ ?_
  · intro b h n; rw [cast_dyn_l, cast_dyn_r]; exact (up_down_lab b n).symm
  · intro a h n; rw [cast_dyn_l, cast_dyn_r]; exact up_down_lab a n
  · intro k n; exact ⟨rfl, rfl⟩
  · intro k n; exact ⟨rfl, rfl⟩
  · intro a a' b b' _ _ h1 h2 n; rw [cast_pair, cast_pair, lab_mkPair, lab_mkPair]; simp [h1, h2]
  · intro a b _ h1 n; rw [cast_list, cast_list, lab_mkList, lab_mkList]; simp [h1]
  · intro a a' b b' _ _ h1 h2 n; rw [cast_fn, cast_fn, lab_mkFn, lab_mkFn]; simp [h1, h2]

/-- With the next label, and the other side. -/
def K.turn : K → K
  | .fn a b => .fn a.turn b.turn
  | .pair a b => .pair a.turn b.turn
  | .list a => .list a.turn
  | .inj h k => .inj h k.turn
  | .proj h l n k => .proj h (l + 1) (!n) k.turn
  | k => k
theorem turn_isId (k : K) : k.turn.isId = k.isId := by cases k <;> rfl
theorem turn_mkPair (a b : K) : (mkPair a b).turn = mkPair a.turn b.turn := by
  unfold mkPair; rw [turn_isId, turn_isId]; split <;> rfl
theorem turn_mkFn (a b : K) : (mkFn a b).turn = mkFn a.turn b.turn := by
  unfold mkFn; rw [turn_isId, turn_isId]; split <;> rfl
theorem turn_mkList (a : K) : (mkList a).turn = mkList a.turn := by
  unfold mkList; rw [turn_isId]; split <;> rfl
theorem up_down_turn {l : Int} : ∀ (a : T) (n : Bool), (upT l a n).turn = upT (l + 1) a (!n) ∧ (downT l a n).turn = downT (l + 1) a (!n) := by
  intro a
  induction a <;> intro n <;> cases n <;> simp_all [upT, downT, K.turn, turn_mkPair, turn_mkFn, turn_mkList]
theorem cast_turn {l : Int} : ∀ a b : T, agreeT a b = true → ∀ n, (castT l a b n).turn = castT (l + 1) a b (!n) ∧ (castT l b a n).turn = castT (l + 1) b a (!n) := by
  refine agree_ind ?_ ?_ ?_ ?_ ?_ ?_ ?_
  · intro b h n; rw [cast_dyn_l, cast_dyn_r, cast_dyn_l, cast_dyn_r]; exact (up_down_turn b n).symm
  · intro a h n; rw [cast_dyn_l, cast_dyn_r, cast_dyn_l, cast_dyn_r]; exact up_down_turn a n
  · intro k n; exact ⟨rfl, rfl⟩
  · intro k n; exact ⟨rfl, rfl⟩
  · intro a a' b b' _ _ h1 h2 n; simp only [cast_pair, turn_mkPair, h1, h2, and_self]
  · intro a b _ h1 n; simp only [cast_list, turn_mkList, h1, and_self]
  · intro a a' b b' _ _ h1 h2 n; simp only [cast_fn, turn_mkFn, h1, h2, and_self]

end Go.Proofs.Ytdngjamjccjlmaa
end

section
/- Casts as coercions: sides, substitutions, joints. No condition. -/
set_option linter.unusedSimpArgs false
set_option linter.unusedVariables false
namespace Go.Proofs.Ytdngjamjccjlmaa
open Go Go.Ab

theorem up_down_cnt {l : Int} : ∀ (a : T) (n : Bool), (upT l a n).cnt n = 0 ∧ (downT l a n).cnt (!n) = 0 := by
  intro a
  induction a <;> intro n <;> cases n <;> simp_all [upT, downT, K.cnt, cnt_mkPair, cnt_mkFn, cnt_mkList]

theorem dyn_ty : T.dyn.ty = leafT 5 := rfl
theorem dyn_ty' : T.dyn.ty = dynT := rfl
theorem sb0_from {b : T} (hb : b.ok = true) (h : sb 0 T.dyn.ty b.ty = true) : b = .dyn := by
  rw [dyn_ty, sb0_from_dyn (by rw [T.right_ty]; exact hb), T.kind_ty] at h
  cases b <;> simp [T.kind] at h <;> first | rfl | (exfalso; omega)
theorem sb_to_dyn {s : Int} {a : T} (hs : s ≠ 0) (ha : a.ok = true) (hd : a ≠ .dyn) : sb s a.ty T.dyn.ty = (decide (a.kind ≠ 6) && kidF sb s a.ty dynT dynT) := by
  have h5 : a.ty.kind ≠ 5 := by
    rw [T.kind_ty]; intro h; apply hd; cases a <;> simp [T.kind] at h <;> first | rfl | (exfalso; omega)
  rw [sb_eq (by rw [T.right_ty]; exact ha) rfl]
  rw [if_neg (by rintro (⟨h, _⟩ | ⟨_, h⟩); exact hs h; exact h5 h), if_pos ⟨rfl, h5⟩, T.kind_ty]
theorem up_none {l : Int} : ∀ (a : T) (n : Bool), a.ok = true → sb 1 a.ty T.dyn.ty = true → (upT l a n).cnt (!n) = 0 := by
  intro a
  induction a with
  | base k => intro n _ _; rfl
  | dyn => intro n _ _; rfl
  | var m => intro n _ _; rfl
  | pair a b iha ihb =>
    intro n ho h
    rw [sb_to_dyn (by decide) ho (by intro h; cases h)] at h
    simp only [T.ok, Bool.and_eq_true] at ho
    simp only [T.kind, T.ty, kidF, Ty.kind_mk, Bool.and_eq_true] at h
    rw [if_neg (by decide), if_pos (by decide)] at h
    simp only [Bool.and_eq_true] at h
    simp only [upT, K.cnt, cnt_mkPair]
    rw [iha n ho.1 h.2.1, ihb n ho.2 h.2.2]
  | list a iha =>
    intro n ho h
    rw [sb_to_dyn (by decide) ho (by intro h; cases h)] at h
    simp only [T.ok] at ho
    simp only [T.kind, T.ty, kidF, Ty.kind_mk, Bool.and_eq_true] at h
    rw [if_neg (by decide), if_neg (by decide), if_pos (by decide)] at h
    simp only [upT, K.cnt, cnt_mkList]
    exact iha n ho h.2
  | fn a b iha ihb =>
    intro n ho h
    rw [sb_to_dyn (by decide) ho (by intro h; cases h)] at h
    simp only [T.ok, Bool.and_eq_true] at ho
    simp only [T.kind, T.ty, kidF, Ty.kind_mk, Bool.and_eq_true] at h
    rw [if_pos (by decide)] at h
    simp only [Bool.and_eq_true] at h
    have ea : a = .dyn := sb0_from ho.1 h.2.1
    simp only [upT, K.cnt, cnt_mkFn]
    rw [ihb n ho.2 h.2.2, ea]
    rfl
/-- Of a subtype of a side no part from ? has that side. -/
theorem cast_sides {l : Int} : ∀ a b : T, agreeT a b = true → a.ok = true → b.ok = true → ∀ n,
    (sb 0 a.ty b.ty = true → (castT l a b n).cnt n = 0) ∧ (sb 1 a.ty b.ty = true → (castT l a b n).cnt (!n) = 0) ∧
    (sb 0 b.ty a.ty = true → (castT l b a n).cnt n = 0) ∧ (sb 1 b.ty a.ty = true → (castT l b a n).cnt (!n) = 0) := by
  have key : ∀ b : T, b.ok = true → ∀ n,
    (sb 0 T.dyn.ty b.ty = true → (castT l .dyn b n).cnt n = 0) ∧ (sb 1 T.dyn.ty b.ty = true → (castT l .dyn b n).cnt (!n) = 0) ∧
    (sb 0 b.ty T.dyn.ty = true → (castT l b .dyn n).cnt n = 0) ∧ (sb 1 b.ty T.dyn.ty = true → (castT l b .dyn n).cnt (!n) = 0) := by
    intro b ho n
    rw [cast_dyn_l, cast_dyn_r]
    refine ⟨fun h => ?_, fun _ => (up_down_cnt b n).2, fun _ => (up_down_cnt b n).1, fun h => up_none b n ho h⟩
    rw [sb0_from ho h]; rfl
  refine agree_ind ?_ ?_ ?_ ?_ ?_ ?_ ?_
  · intro b _ _ ho n; exact key b ho n
  · intro a _ ho _ n
    obtain ⟨h1, h2, h3, h4⟩ := key a ho n
    exact ⟨h3, h4, h1, h2⟩
  · intro k _ _ n; exact ⟨fun _ => rfl, fun _ => rfl, fun _ => rfl, fun _ => rfl⟩
  · intro k _ _ n; exact ⟨fun _ => rfl, fun _ => rfl, fun _ => rfl, fun _ => rfl⟩
  · intro a a' b b' _ _ h1 h2 ho ho' n
    have r1 : right (twoT 7 a.ty a'.ty) = true := by rw [← ho]; exact T.right_ty (.pair a a')
    have r2 : right (twoT 7 b.ty b'.ty) = true := by rw [← ho']; exact T.right_ty (.pair b b')
    simp only [T.ok, Bool.and_eq_true] at ho ho'
    obtain ⟨p1, p2, p3, p4⟩ := h1 ho.1 ho'.1 n
    obtain ⟨q1, q2, q3, q4⟩ := h2 ho.2 ho'.2 n
    simp only [cast_pair, cnt_mkPair]
    have e : ∀ s, sb s (T.pair a a').ty (T.pair b b').ty = (sb s a.ty b.ty && sb s a'.ty b'.ty) := fun s => sb_pair r1 r2
    have e' : ∀ s, sb s (T.pair b b').ty (T.pair a a').ty = (sb s b.ty a.ty && sb s b'.ty a'.ty) := fun s => sb_pair r2 r1
    simp only [e, e', Bool.and_eq_true]
    exact ⟨fun h => by rw [p1 h.1, q1 h.2], fun h => by rw [p2 h.1, q2 h.2], fun h => by rw [p3 h.1, q3 h.2], fun h => by rw [p4 h.1, q4 h.2]⟩
  · intro a b _ h1 ho ho' n
    have r1 : right (listT a.ty) = true := by rw [← ho]; exact T.right_ty (.list a)
    have r2 : right (listT b.ty) = true := by rw [← ho']; exact T.right_ty (.list b)
    simp only [T.ok] at ho ho'
    obtain ⟨p1, p2, p3, p4⟩ := h1 ho ho' n
    simp only [cast_list, cnt_mkList]
    have e : ∀ s, sb s (T.list a).ty (T.list b).ty = sb s a.ty b.ty := fun s => sb_list r1 r2
    have e' : ∀ s, sb s (T.list b).ty (T.list a).ty = sb s b.ty a.ty := fun s => sb_list r2 r1
    simp only [e, e']
    exact ⟨p1, p2, p3, p4⟩
  · intro a a' b b' _ _ h1 h2 ho ho' n
    have r1 : right (twoT 9 a.ty a'.ty) = true := by rw [← ho]; exact T.right_ty (.fn a a')
    have r2 : right (twoT 9 b.ty b'.ty) = true := by rw [← ho']; exact T.right_ty (.fn b b')
    simp only [T.ok, Bool.and_eq_true] at ho ho'
    obtain ⟨p1, p2, p3, p4⟩ := h1 ho.1 ho'.1 (!n)
    obtain ⟨q1, q2, q3, q4⟩ := h2 ho.2 ho'.2 n
    simp only [cast_fn, cnt_mkFn]
    have e : ∀ s, sb s (T.fn a a').ty (T.fn b b').ty = (sb (other s) b.ty a.ty && sb s a'.ty b'.ty) := fun s => sb_fun r1 r2
    have e' : ∀ s, sb s (T.fn b b').ty (T.fn a a').ty = (sb (other s) a.ty b.ty && sb s b'.ty a'.ty) := fun s => sb_fun r2 r1
    simp only [e, e', Bool.and_eq_true, other_0, other_1]
    rw [Bool.not_not] at p2 p4
    exact ⟨fun h => by rw [p4 h.1, q1 h.2], fun h => by rw [p3 h.1, q2 h.2], fun h => by rw [p2 h.1, q3 h.2], fun h => by rw [p1 h.1, q4 h.2]⟩

/-! What is put for variables. -/
def putS (σ : Int → T) : T → T
  | .var n => σ n
  | .pair a b => .pair (putS σ a) (putS σ b)
  | .list a => .list (putS σ a)
  | .fn a b => .fn (putS σ a) (putS σ b)
  | a => a
theorem putS_closed {σ : Int → T} : ∀ {a : T}, a.closed = true → putS σ a = a := by
  intro a
  induction a <;> intro h <;> simp_all [T.closed, putS]
theorem cast_put {l : Int} {σ : Int → T} : ∀ a b : T, agreeT a b = true → agreeT (putS σ a) (putS σ b) = true ∧ ∀ n, castT l (putS σ a) (putS σ b) n = castT l a b n ∧ castT l (putS σ b) (putS σ a) n = castT l b a n := by
  refine agree_ind ?_ ?_ ?_ ?_ ?_ ?_ ?_
  · intro b h; rw [putS_closed h]; exact ⟨h, fun n => ⟨rfl, rfl⟩⟩
  · intro a h; rw [putS_closed h]; exact ⟨agreeT_symm _ _ h, fun n => ⟨rfl, rfl⟩⟩
  · intro k; exact ⟨by simp [putS, agreeT], fun n => ⟨rfl, rfl⟩⟩
  · intro k; exact ⟨agreeT_refl _, fun n => ⟨by rw [cast_same, cast_same], by rw [cast_same, cast_same]⟩⟩
  · intro a a' b b' _ _ h1 h2
    refine ⟨by simp [putS, agreeT, h1.1, h2.1], fun n => ?_⟩
    simp only [putS, cast_pair, h1.2, h2.2, and_self]
  · intro a b _ h1
    refine ⟨by simp [putS, agreeT, h1.1], fun n => ?_⟩
    simp only [putS, cast_list, h1.2, and_self]
  · intro a a' b b' _ _ h1 h2
    refine ⟨by simp [putS, agreeT, h1.1, h2.1], fun n => ?_⟩
    simp only [putS, cast_fn, h1.2, h2.2, and_self]

/-! Joints go from the first one to the last one. -/
theorem isForm_kind {k : K} (h : k.isForm = true) {a b : T} (hf : fitsK k a b = true) : a.kind = k.form ∧ b.kind = k.form := by
  cases k <;> simp [K.isForm, K.form] at h <;> cases a <;> cases b <;> simp_all [fitsK, T.kind, K.form]
theorem head_not_dyn {h : Int} (hh : headK h = true) : (ofH h).isDyn = false ∧ (ofH h).kind = h := by
  simp only [headK, decide_eq_true_eq] at hh
  rcases hh with h | h | h | h | h | h | h <;> subst h <;> exact ⟨rfl, rfl⟩
theorem kind_dyn {a : T} : a.kind = 5 ↔ a = .dyn := by
  cases a with
  | base k => have := base_ne k; simp [T.kind, this]
  | _ => simp [T.kind]
theorem join_fits : ∀ (n : Nat) (c d : K) (a b e : T), c.size + d.size ≤ n → c.ok = true → d.ok = true → fitsK c a b = true → fitsK d b e = true →
    ∃ j, joinK c d = some j ∧ j.ok = true ∧ fitsK j a e = true := by
  intro n
  induction n with
  | zero => intro c d a b e h; have := c.size_pos; omega
  | succ n ih =>
    intro c d a b e hn hc hd hca hdb
    cases c with
    | id =>
      simp only [fitsK, decide_eq_true_eq] at hca; subst hca
      exact ⟨d, joinK_id d, hd, hdb⟩
    | fail l m => exact ⟨.fail l m, joinK_fail l m d, hc, hca⟩
    | proj h l m k =>
      obtain ⟨k1, k2, k3, k4⟩ := ok_proj hc
      simp only [fitsK, Bool.and_eq_true] at hca
      obtain ⟨j, j1, j2, j3⟩ := ih k d (ofH h) b e (by simp only [K.size] at hn; omega) k1 hd hca.2 hdb
      refine ⟨.proj h l m j, by rw [joinK_proj, j1]; rfl, proj_okk k2 k3 j2 ?_, by simp [fitsK, hca.1, j3]⟩
      obtain ⟨h1, h2⟩ := head_not_dyn k2
      cases j with
      | id => exact .inr (.inr (.inl rfl))
      | fail l' m' => exact .inl rfl
      | inj h' k' =>
        simp only [fitsK, Bool.and_eq_true, decide_eq_true_eq] at j3
        exact .inr (.inl (by simp only [K.injOf, decide_eq_true_eq]; rw [← j3.1.2, h2]))
      | proj h' l' m' k' =>
        simp only [fitsK, Bool.and_eq_true] at j3
        rw [h1] at j3; exact absurd j3.1 (by decide)
      | fn x y => exact .inr (.inr (.inr (by rw [← (isForm_kind rfl j3).1, h2])))
      | pair x y => exact .inr (.inr (.inr (by rw [← (isForm_kind rfl j3).1, h2])))
      | list x => exact .inr (.inr (.inr (by rw [← (isForm_kind rfl j3).1, h2])))
    | inj h k =>
      obtain ⟨k1, k2, k3⟩ := ok_inj hc
      have hca0 := hca
      simp only [fitsK, Bool.and_eq_true, decide_eq_true_eq] at hca
      have hbd : b = .dyn := isDyn_iff.1 hca.1.1
      cases d with
      | id =>
        simp only [fitsK, decide_eq_true_eq] at hdb; subst hdb
        exact ⟨.inj h k, joinK_inj_id h k, hc, hca0⟩
      | fail l m => rw [hbd] at hdb; exact absurd hdb (by simp [fitsK, T.isDyn])
      | proj h' l m k' =>
        obtain ⟨k1', k2', k3', k4'⟩ := ok_proj hd
        simp only [fitsK, Bool.and_eq_true] at hdb
        rw [joinK_inj_proj]
        by_cases hh : h = h'
        · rw [if_pos hh]
          exact ih k k' a (ofH h) e (by simp only [K.size] at hn; omega) k1 k1' hca.2 (by rw [hh]; exact hdb.2)
        · rw [if_neg hh]
          refine ⟨_, rfl, by simpa [K.ok] using k3', ?_⟩
          simp only [fitsK, Bool.not_eq_true']
          have := (head_not_dyn k2)
          cases had : a.isDyn with
          | false => rfl
          | true =>
            rw [isDyn_iff] at had
            rw [had] at hca
            have e5 : (5 : Int) = h := hca.1.2
            rw [← e5] at k2; exact absurd k2 (by decide)
      | inj h' k' =>
        obtain ⟨_, k2', _⟩ := ok_inj hd
        simp only [fitsK, Bool.and_eq_true, decide_eq_true_eq] at hdb
        rw [hbd] at hdb
        have e5 : (5 : Int) = h' := hdb.1.2
        rw [← e5] at k2'; exact absurd k2' (by decide)
      | fn x y => rw [hbd] at hdb; cases e <;> simp [fitsK] at hdb
      | pair x y => rw [hbd] at hdb; cases e <;> simp [fitsK] at hdb
      | list x => rw [hbd] at hdb; cases e <;> simp [fitsK] at hdb
    | fn x y =>
      cases a <;> cases b <;> simp only [fitsK, Bool.false_eq_true] at hca
      rename_i a a' b b'
      simp only [Bool.and_eq_true] at hca
      obtain ⟨o1, o2⟩ := ok_fn hc
      cases d with
      | id =>
        simp only [fitsK, decide_eq_true_eq] at hdb; subst hdb
        exact ⟨_, joinK_form_id, hc, by simp [fitsK, hca]⟩
      | fail l m => exact ⟨_, joinK_form_fail rfl l m, hd, rfl⟩
      | proj h l m k => simp [fitsK, T.isDyn] at hdb
      | inj h k =>
        obtain ⟨k1, k2, k3⟩ := ok_inj hd
        simp only [fitsK, Bool.and_eq_true, decide_eq_true_eq] at hdb
        obtain ⟨j, j1, j2, j3⟩ := ih (.fn x y) k (.fn a a') (.fn b b') (ofH h) (by simp only [K.size] at hn ⊢; omega) hc k1 (by simp [fitsK, hca]) hdb.2
        have h9 : (9 : Int) = h := hdb.1.2
        refine ⟨.inj h j, by rw [joinK_form_inj rfl, j1]; rfl, inj_okk k2 j2 ?_, ?_⟩
        · have hx : j.isForm = true ∨ j = .id := by
            rcases k3 with rfl | hk
            · rw [joinK_form_id] at j1; cases j1; exact .inl rfl
            · exact joinK_forms_x rfl (by rw [K.isForm, hk, ← h9]; rfl) j1
          rcases hx with hx | rfl
          · right; rw [← (isForm_kind hx j3).1, ← h9]; rfl
          · exact .inl rfl
        · simp only [fitsK, hdb.1.1, j3, Bool.and_true, Bool.true_and, decide_eq_true_eq]; exact h9
      | fn x' y' =>
        cases e <;> simp only [fitsK, Bool.false_eq_true] at hdb
        simp only [Bool.and_eq_true] at hdb
        obtain ⟨o1', o2'⟩ := ok_fn hd
        obtain ⟨j, j1, j2, j3⟩ := ih x' x _ _ _ (by simp only [K.size] at hn; omega) o1' o1 hdb.1 hca.1
        obtain ⟨i, i1, i2, i3⟩ := ih y y' _ _ _ (by simp only [K.size] at hn; omega) o2 o2' hca.2 hdb.2
        exact ⟨mkFn j i, by rw [joinK_fn, j1, i1]; rfl, (mkFn_okk j2 i2).1, fits_mkFn j3 i3⟩
      | pair x' y' => cases e <;> simp [fitsK] at hdb
      | list x' => cases e <;> simp [fitsK] at hdb
    | pair x y =>
      cases a <;> cases b <;> simp only [fitsK, Bool.false_eq_true] at hca
      rename_i a a' b b'
      simp only [Bool.and_eq_true] at hca
      obtain ⟨o1, o2⟩ := ok_pair hc
      cases d with
      | id =>
        simp only [fitsK, decide_eq_true_eq] at hdb; subst hdb
        exact ⟨_, joinK_form_id, hc, by simp [fitsK, hca]⟩
      | fail l m => exact ⟨_, joinK_form_fail rfl l m, hd, rfl⟩
      | proj h l m k => simp [fitsK, T.isDyn] at hdb
      | inj h k =>
        obtain ⟨k1, k2, k3⟩ := ok_inj hd
        simp only [fitsK, Bool.and_eq_true, decide_eq_true_eq] at hdb
        obtain ⟨j, j1, j2, j3⟩ := ih (.pair x y) k (.pair a a') (.pair b b') (ofH h) (by simp only [K.size] at hn ⊢; omega) hc k1 (by simp [fitsK, hca]) hdb.2
        have h9 : (7 : Int) = h := hdb.1.2
        refine ⟨.inj h j, by rw [joinK_form_inj rfl, j1]; rfl, inj_okk k2 j2 ?_, ?_⟩
        · have hx : j.isForm = true ∨ j = .id := by
            rcases k3 with rfl | hk
            · rw [joinK_form_id] at j1; cases j1; exact .inl rfl
            · exact joinK_forms_x rfl (by rw [K.isForm, hk, ← h9]; rfl) j1
          rcases hx with hx | rfl
          · right; rw [← (isForm_kind hx j3).1, ← h9]; rfl
          · exact .inl rfl
        · simp only [fitsK, hdb.1.1, j3, Bool.and_true, Bool.true_and, decide_eq_true_eq]; exact h9
      | pair x' y' =>
        cases e <;> simp only [fitsK, Bool.false_eq_true] at hdb
        simp only [Bool.and_eq_true] at hdb
        obtain ⟨o1', o2'⟩ := ok_pair hd
        obtain ⟨j, j1, j2, j3⟩ := ih x x' _ _ _ (by simp only [K.size] at hn; omega) o1 o1' hca.1 hdb.1
        obtain ⟨i, i1, i2, i3⟩ := ih y y' _ _ _ (by simp only [K.size] at hn; omega) o2 o2' hca.2 hdb.2
        exact ⟨mkPair j i, by rw [joinK_pair, j1, i1]; rfl, (mkPair_okk j2 i2).1, fits_mkPair j3 i3⟩
      | fn x' y' => cases e <;> simp [fitsK] at hdb
      | list x' => cases e <;> simp [fitsK] at hdb
    | list x =>
      cases a <;> cases b <;> simp only [fitsK, Bool.false_eq_true] at hca
      rename_i a b
      have o1 := ok_list hc
      cases d with
      | id =>
        simp only [fitsK, decide_eq_true_eq] at hdb; subst hdb
        exact ⟨_, joinK_form_id, hc, by simp [fitsK, hca]⟩
      | fail l m => exact ⟨_, joinK_form_fail rfl l m, hd, rfl⟩
      | proj h l m k => simp [fitsK, T.isDyn] at hdb
      | inj h k =>
        obtain ⟨k1, k2, k3⟩ := ok_inj hd
        simp only [fitsK, Bool.and_eq_true, decide_eq_true_eq] at hdb
        obtain ⟨j, j1, j2, j3⟩ := ih (.list x) k (.list a) (.list b) (ofH h) (by simp only [K.size] at hn ⊢; omega) hc k1 (by simp [fitsK, hca]) hdb.2
        have h9 : (8 : Int) = h := hdb.1.2
        refine ⟨.inj h j, by rw [joinK_form_inj rfl, j1]; rfl, inj_okk k2 j2 ?_, ?_⟩
        · have hx : j.isForm = true ∨ j = .id := by
            rcases k3 with rfl | hk
            · rw [joinK_form_id] at j1; cases j1; exact .inl rfl
            · exact joinK_forms_x rfl (by rw [K.isForm, hk, ← h9]; rfl) j1
          rcases hx with hx | rfl
          · right; rw [← (isForm_kind hx j3).1, ← h9]; rfl
          · exact .inl rfl
        · simp only [fitsK, hdb.1.1, j3, Bool.and_true, Bool.true_and, decide_eq_true_eq]; exact h9
      | list x' =>
        cases e <;> simp only [fitsK, Bool.false_eq_true] at hdb
        have o1' := ok_list hd
        obtain ⟨j, j1, j2, j3⟩ := ih x x' _ _ _ (by simp only [K.size] at hn; omega) o1 o1' hca hdb
        exact ⟨mkList j, by rw [joinK_list, j1]; rfl, (mkList_okk j2).1, fits_mkList j3⟩
      | fn x' y' => cases e <;> simp [fitsK] at hdb
      | pair x' y' => cases e <;> simp [fitsK] at hdb
theorem joinK_fits {c d : K} {a b e : T} (hc : c.ok = true) (hd : d.ok = true) (h1 : fitsK c a b = true) (h2 : fitsK d b e = true) : ∃ j, joinK c d = some j ∧ j.ok = true ∧ fitsK j a e = true :=
  join_fits _ c d a b e (Nat.le_refl _) hc hd h1 h2

/-! Joints of formers that may be the identity. -/
theorem joinK_id_r (c : K) : joinK c .id = some c := joinK_form_id
theorem join_mkPair {x1 x2 y1 y2 : K} : joinK (mkPair x1 x2) (mkPair y1 y2) = both2 mkPair (joinK x1 y1) (joinK x2 y2) := by
  by_cases h1 : (x1.isId && x2.isId) = true
  · rw [mkPair_pos h1]
    simp only [Bool.and_eq_true, isId_iff] at h1
    obtain ⟨rfl, rfl⟩ := h1
    simp only [joinK_id, both2]
  · by_cases h2 : (y1.isId && y2.isId) = true
    · rw [mkPair_pos h2]
      simp only [Bool.and_eq_true, isId_iff] at h2
      obtain ⟨rfl, rfl⟩ := h2
      simp only [joinK_id_r, both2]
    · rw [mkPair_neg h1, mkPair_neg h2, joinK_pair]
theorem join_mkFn {x1 x2 y1 y2 : K} : joinK (mkFn x1 x2) (mkFn y1 y2) = both2 mkFn (joinK y1 x1) (joinK x2 y2) := by
  by_cases h1 : (x1.isId && x2.isId) = true
  · rw [mkFn_pos h1]
    simp only [Bool.and_eq_true, isId_iff] at h1
    obtain ⟨rfl, rfl⟩ := h1
    simp only [joinK_id, joinK_id_r, both2]
  · by_cases h2 : (y1.isId && y2.isId) = true
    · rw [mkFn_pos h2]
      simp only [Bool.and_eq_true, isId_iff] at h2
      obtain ⟨rfl, rfl⟩ := h2
      simp only [joinK_id, joinK_id_r, both2]
    · rw [mkFn_neg h1, mkFn_neg h2, joinK_fn]
theorem join_mkList {x y : K} : joinK (mkList x) (mkList y) = (joinK x y).map mkList := by
  by_cases h1 : x.isId = true
  · rw [mkList_pos h1]
    simp only [isId_iff] at h1
    subst h1
    simp only [joinK_id, Option.map]
  · by_cases h2 : y.isId = true
    · rw [mkList_pos h2]
      simp only [isId_iff] at h2
      subst h2
      simp only [joinK_id_r, Option.map]
    · rw [mkList_neg h1, mkList_neg h2, joinK_list]

end Go.Proofs.Ytdngjamjccjlmaa
end

section
/- Casts there and back, and by way of ?: plain laws. No condition. -/
set_option linter.unusedSimpArgs false
set_option linter.unusedVariables false
namespace Go.Proofs.Ytdngjamjccjlmaa
open Go Go.Ab

def K.fails : K → Bool
  | .fn a b => a.fails || b.fails
  | .pair a b => a.fails || b.fails
  | .list a => a.fails
  | .inj _ k => k.fails
  | .proj _ _ _ k => k.fails
  | .fail _ _ => true
  | .id => false
theorem fails_mkPair (a b : K) : (mkPair a b).fails = (a.fails || b.fails) := by
  unfold mkPair; split
  · rename_i h; simp only [Bool.and_eq_true, isId_iff] at h; rw [h.1, h.2]; rfl
  · rfl
theorem fails_mkFn (a b : K) : (mkFn a b).fails = (a.fails || b.fails) := by
  unfold mkFn; split
  · rename_i h; simp only [Bool.and_eq_true, isId_iff] at h; rw [h.1, h.2]; rfl
  · rfl
theorem fails_mkList (a : K) : (mkList a).fails = a.fails := by
  unfold mkList; split
  · rename_i h; simp only [isId_iff] at h; subst h; rfl
  · rfl
theorem up_down_fails {l : Int} : ∀ (a : T) (n : Bool), (upT l a n).fails = false ∧ (downT l a n).fails = false := by
  intro a
  induction a <;> intro n <;> cases n <;> simp_all [upT, downT, K.fails, fails_mkPair, fails_mkFn, fails_mkList]

theorem agreeT_comm (a b : T) : agreeT a b = agreeT b a := by
  rw [Bool.eq_iff_iff]; exact ⟨agreeT_symm a b, agreeT_symm b a⟩

/-- By way of ?: a failure in it just if they do not agree. -/
theorem meet_fails : ∀ (a b : T), a.closed = true → b.closed = true → ∀ (l m : Int) (n n' : Bool),
    (∃ j, joinK (upT l a n) (downT m b n') = some j ∧ j.fails = !(agreeT a b)) ∧ (∃ j, joinK (upT l b n) (downT m a n') = some j ∧ j.fails = !(agreeT a b)) := by
  intro a
  induction a with
  | dyn =>
    intro b _ hb l m n n'
    refine ⟨⟨_, by rw [upT, joinK_id], by simp [agreeT, hb, (up_down_fails b n').2]⟩, ⟨_, by rw [downT, joinK_id_r], by simp [agreeT, hb, (up_down_fails b n).1]⟩⟩
  | base k =>
    intro b _ hb l m n n'
    cases b with
    | dyn => exact ⟨⟨_, by rw [downT, joinK_id_r], by simp [agreeT, upT, K.fails]⟩, ⟨_, by rw [upT, joinK_id], by simp [agreeT, downT, K.fails]⟩⟩
    | var _ => simp [T.closed] at hb
    | base k' =>
      simp only [upT, downT, joinK_inj_proj, base_inj]
      by_cases h : k = k'
      · subst h; simp [agreeT, joinK_id, K.fails]
      · have h' : ¬ k' = k := fun e => h e.symm
        simp [agreeT, h, h', K.fails]
    | pair _ _ => have h1 := base_ne k; have h2 := base_ne' k; simp [upT, downT, joinK_inj_proj, h1, h2, agreeT, K.fails]
    | list _ => have h1 := base_ne k; have h2 := base_ne' k; simp [upT, downT, joinK_inj_proj, h1, h2, agreeT, K.fails]
    | fn _ _ => have h1 := base_ne k; have h2 := base_ne' k; simp [upT, downT, joinK_inj_proj, h1, h2, agreeT, K.fails]
  | var _ => intro b ha; simp [T.closed] at ha
  | pair a a' ih1 ih2 =>
    intro b ha hb l m n n'
    simp only [T.closed, Bool.and_eq_true] at ha
    cases b with
    | dyn => exact ⟨⟨_, by rw [downT, joinK_id_r], by simp [agreeT, ha, (up_down_fails _ n).1]⟩, ⟨_, by rw [upT, joinK_id], by simp [agreeT, ha, (up_down_fails _ n').2]⟩⟩
    | var _ => simp [T.closed] at hb
    | base k => have h1 := base_ne k; have h2 := base_ne' k; simp [upT, downT, joinK_inj_proj, h1, h2, agreeT, K.fails]
    | pair b b' =>
      simp only [T.closed, Bool.and_eq_true] at hb
      obtain ⟨⟨j1, e1, f1⟩, ⟨j1', e1', f1'⟩⟩ := ih1 b ha.1 hb.1 l m n n'
      obtain ⟨⟨j2, e2, f2⟩, ⟨j2', e2', f2'⟩⟩ := ih2 b' ha.2 hb.2 l m n n'
      simp only [upT, downT, joinK_inj_proj, if_true, join_mkPair, e1, e2, e1', e2', both2, agreeT]
      exact ⟨⟨_, rfl, by rw [fails_mkPair, f1, f2, Bool.not_and]⟩, ⟨_, rfl, by rw [fails_mkPair, f1', f2', Bool.not_and]⟩⟩
    | list _ => simp [upT, downT, joinK_inj_proj, agreeT, K.fails]
    | fn _ _ => simp [upT, downT, joinK_inj_proj, agreeT, K.fails]
  | list a ih1 =>
    intro b ha hb l m n n'
    simp only [T.closed] at ha
    cases b with
    | dyn => exact ⟨⟨_, by rw [downT, joinK_id_r], by simp [agreeT, ha, (up_down_fails _ n).1]⟩, ⟨_, by rw [upT, joinK_id], by simp [agreeT, ha, (up_down_fails _ n').2]⟩⟩
    | var _ => simp [T.closed] at hb
    | base k => have h1 := base_ne k; have h2 := base_ne' k; simp [upT, downT, joinK_inj_proj, h1, h2, agreeT, K.fails]
    | list b =>
      simp only [T.closed] at hb
      obtain ⟨⟨j1, e1, f1⟩, ⟨j1', e1', f1'⟩⟩ := ih1 b ha hb l m n n'
      simp only [upT, downT, joinK_inj_proj, if_true, join_mkList, e1, e1', Option.map, agreeT]
      exact ⟨⟨_, rfl, by rw [fails_mkList, f1]⟩, ⟨_, rfl, by rw [fails_mkList, f1']⟩⟩
    | pair _ _ => simp [upT, downT, joinK_inj_proj, agreeT, K.fails]
    | fn _ _ => simp [upT, downT, joinK_inj_proj, agreeT, K.fails]
  | fn a a' ih1 ih2 =>
    intro b ha hb l m n n'
    simp only [T.closed, Bool.and_eq_true] at ha
    cases b with
    | dyn => exact ⟨⟨_, by rw [downT, joinK_id_r], by simp [agreeT, ha, (up_down_fails _ n).1]⟩, ⟨_, by rw [upT, joinK_id], by simp [agreeT, ha, (up_down_fails _ n').2]⟩⟩
    | var _ => simp [T.closed] at hb
    | base k => have h1 := base_ne k; have h2 := base_ne' k; simp [upT, downT, joinK_inj_proj, h1, h2, agreeT, K.fails]
    | fn b b' =>
      simp only [T.closed, Bool.and_eq_true] at hb
      obtain ⟨⟨j1, e1, f1⟩, ⟨j1', e1', f1'⟩⟩ := ih1 b ha.1 hb.1 m l (!n') (!n)
      obtain ⟨⟨j2, e2, f2⟩, ⟨j2', e2', f2'⟩⟩ := ih2 b' ha.2 hb.2 l m n n'
      simp only [upT, downT, joinK_inj_proj, if_true, join_mkFn, e1, e2, e1', e2', both2, agreeT]
      exact ⟨⟨_, rfl, by rw [fails_mkFn, f1', f2, Bool.not_and]⟩, ⟨_, rfl, by rw [fails_mkFn, f1, f2', Bool.not_and]⟩⟩
    | pair _ _ => simp [upT, downT, joinK_inj_proj, agreeT, K.fails]
    | list _ => simp [upT, downT, joinK_inj_proj, agreeT, K.fails]
theorem up_form {a : T} (ha : a.closed = true) (hd : a ≠ .dyn) (l : Int) (n : Bool) : (∃ k, upT l a n = .inj a.kind k ∧ (k = .id ∨ k.form = a.kind)) ∧ ∃ k, downT l a n = .proj a.kind l n k ∧ (k = .id ∨ k.form = a.kind) := by
  have p : ∀ x y, mkPair x y = .id ∨ (mkPair x y).form = 7 := fun x y => by unfold mkPair; split; exact .inl rfl; exact .inr rfl
  have f : ∀ x y, mkFn x y = .id ∨ (mkFn x y).form = 9 := fun x y => by unfold mkFn; split; exact .inl rfl; exact .inr rfl
  have li : ∀ x, mkList x = .id ∨ (mkList x).form = 8 := fun x => by unfold mkList; split; exact .inl rfl; exact .inr rfl
  cases a with
  | dyn => exact absurd rfl hd
  | var _ => simp [T.closed] at ha
  | base k => exact ⟨⟨_, rfl, .inl rfl⟩, ⟨_, rfl, .inl rfl⟩⟩
  | pair a b => exact ⟨⟨_, rfl, p _ _⟩, ⟨_, rfl, p _ _⟩⟩
  | list a => exact ⟨⟨_, rfl, li _⟩, ⟨_, rfl, li _⟩⟩
  | fn a b => exact ⟨⟨_, rfl, f _ _⟩, ⟨_, rfl, f _ _⟩⟩
/-- By way of ? from one to another one: the law. -/
theorem meet_law {a b : T} (ha : a.closed = true) (hb : b.closed = true) (hda : a ≠ .dyn) (hdb : b ≠ .dyn) (l m : Int) (n n' : Bool) :
    ∃ j, joinK (upT l a n) (downT m b n') = some j ∧ (a.kind ≠ b.kind → j = .fail m n') ∧ (a.kind = b.kind → j.isFail = false ∧ j.fails = !(agreeT a b)) := by
  obtain ⟨j, e, f⟩ := (meet_fails a b ha hb l m n n').1
  refine ⟨j, e, ?_, ?_⟩
  · intro hk
    obtain ⟨⟨k, e1, _⟩, _⟩ := up_form ha hda l n
    obtain ⟨_, ⟨k', e2, _⟩⟩ := up_form hb hdb m n'
    rw [e1, e2, joinK_inj_proj, if_neg hk] at e
    exact (Option.some.inj e).symm
  · intro hk
    refine ⟨?_, f⟩
    obtain ⟨⟨k, e1, h1⟩, _⟩ := up_form ha hda l n
    obtain ⟨_, ⟨k', e2, h2⟩⟩ := up_form hb hdb m n'
    rw [e1, e2, joinK_inj_proj, if_pos hk] at e
    have hx : j = k' ∨ j = k ∨ (k.isForm = true ∧ k'.isForm = true) := by
      rcases h1 with rfl | h1
      · rw [joinK_id] at e; exact .inl (Option.some.inj e).symm
      · rcases h2 with rfl | h2
        · rw [joinK_id_r] at e; exact .inr (.inl (Option.some.inj e).symm)
        · have h0 : a.kind ≠ 0 := by
            cases a with
            | base k => simp [T.kind]; omega
            | _ => simp [T.kind]
          exact .inr (.inr ⟨by rw [K.isForm, h1]; simpa using h0, by rw [K.isForm, h2, ← hk]; simpa using h0⟩)
    have nf : ∀ {k : K} {h : Int}, (k = .id ∨ k.form = h) → h ≠ 0 → k.isFail = false := by
      intro k h hk h0
      rcases hk with rfl | hk
      · rfl
      · cases k <;> simp_all [K.form, K.isFail]
    have h0 : a.kind ≠ 0 := by
      cases a with
      | base k => simp [T.kind]; omega
      | _ => simp [T.kind]
    rcases hx with rfl | rfl | ⟨hx, hy⟩
    · exact nf h2 (hk ▸ h0)
    · exact nf h1 h0
    · rcases joinK_forms_x hx hy e with h | rfl
      · cases j <;> simp_all [K.isForm, K.form, K.isFail]
      · rfl

/-! There and back. -/
def belowT : T → T → Bool
  | _, .dyn => true
  | a, .base k => match a with | .base k' => decide (k' = k) | _ => false
  | a, .var n => match a with | .var m => decide (m = n) | _ => false
  | a, .pair b b' => match a with | .pair a a' => belowT a b && belowT a' b' | _ => false
  | a, .list b => match a with | .list a => belowT a b | _ => false
  | a, .fn b b' => match a with | .fn a a' => belowT a b && belowT a' b' | _ => false
theorem T.below_ty : ∀ b a : T, below a.ty b.ty = belowT a b := by
  intro b
  induction b with
  | dyn => intro a; cases a <;> simp [T.ty, below, belowT, Ty.kind]
  | base k =>
    intro a
    have hk := base_ne k
    cases a with
    | base k' =>
      simp only [T.ty, below, belowL, belowT, Ty.kind, Ty.num, Ty.kids, hk.1, if_false, base_inj, ne_eq, not_true_eq_false, or_false]
      by_cases h : k' = k <;> simp [h]
    | _ => have hk' := base_ne' k; simp_all [T.ty, below, belowL, belowT, Ty.kind, Ty.num, Ty.kids]
  | var n =>
    intro a
    cases a with
    | base k => have hk := base_ne k; simp_all [T.ty, below, belowL, belowT, Ty.kind, Ty.num, Ty.kids]
    | _ => simp_all [T.ty, below, belowL, belowT, Ty.kind, Ty.num, Ty.kids]
  | pair x y ih1 ih2 =>
    intro a
    cases a with
    | base k => have hk := base_ne k; simp_all [T.ty, below, belowL, belowT, Ty.kind, Ty.num, Ty.kids]
    | _ => simp_all [T.ty, below, belowL, belowT, Ty.kind, Ty.num, Ty.kids]
  | list x ih1 =>
    intro a
    cases a with
    | base k => have hk := base_ne k; simp_all [T.ty, below, belowL, belowT, Ty.kind, Ty.num, Ty.kids]
    | _ => simp_all [T.ty, below, belowL, belowT, Ty.kind, Ty.num, Ty.kids]
  | fn x y ih1 ih2 =>
    intro a
    cases a with
    | base k => have hk := base_ne k; simp_all [T.ty, below, belowL, belowT, Ty.kind, Ty.num, Ty.kids]
    | _ => simp_all [T.ty, below, belowL, belowT, Ty.kind, Ty.num, Ty.kids]
theorem below_agreeT : ∀ b a : T, a.closed = true → b.closed = true → belowT a b = true → agreeT a b = true := by
  intro b
  induction b <;> intro a ha hb h <;> cases a <;> simp_all [belowT, agreeT, T.closed]

theorem mkPair_x' (a b : K) : (mkPair a b).isForm = true ∨ mkPair a b = .id := mkPair_x a b
/-- Up and down again is the identity; down and up fails nowhere. -/
theorem up_down_back : ∀ (a : T) (l m : Int) (n n' : Bool), joinK (upT l a n) (downT m a n') = some .id ∧ ∃ k, joinK (downT m a n') (upT l a n) = some k ∧ k.fails = false := by
  intro a
  induction a with
  | dyn => intro l m n n'; exact ⟨rfl, _, rfl, rfl⟩
  | var _ => intro l m n n'; exact ⟨rfl, _, rfl, rfl⟩
  | base k =>
    intro l m n n'
    refine ⟨by simp [upT, downT, joinK_inj_proj, joinK_id], _, by simp [upT, downT, joinK_proj, joinK_id]; rfl, rfl⟩
  | pair a a' ih1 ih2 =>
    intro l m n n'
    obtain ⟨p1, k1, p2, p3⟩ := ih1 l m n n'
    obtain ⟨q1, k2, q2, q3⟩ := ih2 l m n n'
    refine ⟨by simp only [upT, downT, joinK_inj_proj, if_true, join_mkPair, p1, q1, both2]; rfl, .proj 7 m n' (.inj 7 (mkPair k1 k2)), ?_, ?_⟩
    · simp only [upT, downT, joinK_proj, joinK_x_inj (mkPair_x _ _), join_mkPair, p2, q2, both2, Option.map]
    · simp only [K.fails, fails_mkPair, p3, q3, Bool.or_self]
  | list a ih1 =>
    intro l m n n'
    obtain ⟨p1, k1, p2, p3⟩ := ih1 l m n n'
    refine ⟨by simp only [upT, downT, joinK_inj_proj, if_true, join_mkList, p1, Option.map]; rfl, .proj 8 m n' (.inj 8 (mkList k1)), ?_, ?_⟩
    · simp only [upT, downT, joinK_proj, joinK_x_inj (mkList_x _), join_mkList, p2, Option.map]
    · simp only [K.fails, fails_mkList, p3]
  | fn a a' ih1 ih2 =>
    intro l m n n'
    obtain ⟨p1, k1, p2, p3⟩ := ih1 m l (!n') (!n)
    obtain ⟨q1, k2, q2, q3⟩ := ih2 l m n n'
    refine ⟨by simp only [upT, downT, joinK_inj_proj, if_true, join_mkFn, p1, q1, both2]; rfl, .proj 9 m n' (.inj 9 (mkFn k1 k2)), ?_, ?_⟩
    · simp only [upT, downT, joinK_proj, joinK_x_inj (mkFn_x _ _), join_mkFn, p2, q2, both2, Option.map]
    · simp only [K.fails, fails_mkFn, p3, q3, Bool.or_self]
theorem back_law : ∀ (b a : T), belowT a b = true → ∀ (l m : Int) (n n' : Bool), joinK (castT l a b n) (castT m b a n') = some .id ∧ ∃ k, joinK (castT m b a n') (castT l a b n) = some k ∧ k.fails = false := by
  intro b
  induction b with
  | dyn => intro a _ l m n n'; rw [cast_dyn_r, cast_dyn_l]; exact up_down_back a l m n n'
  | var _ =>
    intro a h l m n n'
    cases a <;> simp only [belowT, Bool.false_eq_true] at h
    exact ⟨rfl, _, rfl, rfl⟩
  | base k =>
    intro a h l m n n'
    cases a <;> simp only [belowT, Bool.false_eq_true] at h
    exact ⟨rfl, _, rfl, rfl⟩
  | pair b b' ih1 ih2 =>
    intro a h l m n n'
    cases a <;> simp only [belowT, Bool.false_eq_true, Bool.and_eq_true] at h
    obtain ⟨p1, k1, p2, p3⟩ := ih1 _ h.1 l m n n'
    obtain ⟨q1, k2, q2, q3⟩ := ih2 _ h.2 l m n n'
    refine ⟨by simp only [cast_pair, join_mkPair, p1, q1, both2]; rfl, mkPair k1 k2, ?_, ?_⟩
    · simp only [cast_pair, join_mkPair, p2, q2, both2]
    · simp only [fails_mkPair, p3, q3, Bool.or_self]
  | list b ih1 =>
    intro a h l m n n'
    cases a <;> simp only [belowT, Bool.false_eq_true, Bool.and_eq_true] at h
    obtain ⟨p1, k1, p2, p3⟩ := ih1 _ h l m n n'
    refine ⟨by simp only [cast_list, join_mkList, p1, Option.map]; rfl, mkList k1, ?_, ?_⟩
    · simp only [cast_list, join_mkList, p2, Option.map]
    · simp only [fails_mkList, p3]
  | fn b b' ih1 ih2 =>
    intro a h l m n n'
    cases a <;> simp only [belowT, Bool.false_eq_true, Bool.and_eq_true] at h
    obtain ⟨p1, k1, p2, p3⟩ := ih1 _ h.1 m l (!n') (!n)
    obtain ⟨q1, k2, q2, q3⟩ := ih2 _ h.2 l m n n'
    refine ⟨by simp only [cast_fn, join_mkFn, p1, q1, both2]; rfl, mkFn k1 k2, ?_, ?_⟩
    · simp only [cast_fn, join_mkFn, p2, q2, both2]
    · simp only [fails_mkFn, p3, q3, Bool.or_self]

end Go.Proofs.Ytdngjamjccjlmaa
end

section
/- Sizes of casts. No condition. -/
namespace Go.Proofs.Ytdngjamjccjlmaa

theorem K.nodes_co : ∀ k : K, nodesC k.co = k.size := by
  intro k
  induction k <;> simp [K.co, nodesC, nodesCL, K.size, *] <;> omega
theorem T.nodes_ty : ∀ a : T, nodes a.ty = a.size := by
  intro a
  induction a <;> simp [T.ty, nodes, nodesL, T.size, *] <;> omega
theorem mkPair_s (a b : K) : (mkPair a b).size ≤ a.size + b.size + 1 := by unfold mkPair; split <;> simp [K.size]
theorem mkFn_s (a b : K) : (mkFn a b).size ≤ a.size + b.size + 1 := by unfold mkFn; split <;> simp [K.size]
theorem mkList_s (a : K) : (mkList a).size ≤ a.size + 1 := by unfold mkList; split <;> simp [K.size]
theorem up_down_s {l : Int} : ∀ (a : T) (n : Bool), (upT l a n).size ≤ 2 * a.size ∧ (downT l a n).size ≤ 2 * a.size := by
  intro a
  induction a with
  | base k => intro n; simp [upT, downT, K.size, T.size]
  | dyn => intro n; simp [upT, downT, K.size, T.size]
  | var m => intro n; simp [upT, downT, K.size, T.size]
  | pair a b iha ihb =>
    intro n
    have h1 := iha n; have h2 := ihb n
    have h3 := mkPair_s (upT l a n) (upT l b n); have h4 := mkPair_s (downT l a n) (downT l b n)
    simp only [upT, downT, K.size, T.size]; omega
  | list a iha =>
    intro n
    have h1 := iha n
    have h3 := mkList_s (upT l a n); have h4 := mkList_s (downT l a n)
    simp only [upT, downT, K.size, T.size]; omega
  | fn a b iha ihb =>
    intro n
    have h1 := iha (!n); have h2 := ihb n
    have h3 := mkFn_s (downT l a (!n)) (upT l b n); have h4 := mkFn_s (upT l a (!n)) (downT l b n)
    simp only [upT, downT, K.size, T.size]; omega
theorem cast_s {l : Int} : ∀ a b : T, agreeT a b = true → ∀ n, (castT l a b n).size ≤ 2 * (a.size + b.size) ∧ (castT l b a n).size ≤ 2 * (a.size + b.size) := by
  refine agree_ind ?_ ?_ ?_ ?_ ?_ ?_ ?_
  · intro b h n; rw [cast_dyn_l, cast_dyn_r]; have := up_down_s (l := l) b n; omega
  · intro a h n; rw [cast_dyn_l, cast_dyn_r]; have := up_down_s (l := l) a n; omega
  · intro k n; simp [cast_base, K.size, T.size]
  · intro k n; simp [cast_var, K.size, T.size]
  · intro a a' b b' _ _ h1 h2 n
    rw [cast_pair, cast_pair]
    have := mkPair_s (castT l a b n) (castT l a' b' n); have := mkPair_s (castT l b a n) (castT l b' a' n)
    have := h1 n; have := h2 n
    simp only [T.size]; omega
  · intro a b _ h1 n
    rw [cast_list, cast_list]
    have := mkList_s (castT l a b n); have := mkList_s (castT l b a n)
    have := h1 n
    simp only [T.size]; omega
  · intro a a' b b' _ _ h1 h2 n
    rw [cast_fn, cast_fn]
    have := mkFn_s (castT l b a (!n)) (castT l a' b' n); have := mkFn_s (castT l a b (!n)) (castT l b' a' n)
    have := h1 (!n); have := h2 n
    simp only [T.size]; omega

end Go.Proofs.Ytdngjamjccjlmaa
end

section
/- Sizes of joints. No condition. -/
set_option linter.unusedSimpArgs false
set_option linter.unusedVariables false
namespace Go.Proofs.Ytdngjamjccjlmaa
open Go Go.Ab

theorem joinF_size : ∀ (n : Nat) (c d j : K), joinF n c d = some j → j.size ≤ c.size + d.size := by
  intro n
  induction n with
  | zero => intro c d j h; cases h
  | succ n ih =>
    intro c d j h
    have mf : ∀ a b : K, (mkFn a b).size ≤ a.size + b.size + 1 := fun a b => by unfold mkFn; split <;> simp [K.size]
    have mp : ∀ a b : K, (mkPair a b).size ≤ a.size + b.size + 1 := fun a b => by unfold mkPair; split <;> simp [K.size]
    have ml : ∀ a : K, (mkList a).size ≤ a.size + 1 := fun a => by unfold mkList; split <;> simp [K.size]
    have hcp := c.size_pos
    have hdp := d.size_pos
    cases c with
    | id => simp only [joinF, Option.some.injEq] at h; subst h; omega
    | fail l b => simp only [joinF, Option.some.injEq] at h; subst h; simp only [K.size] at *; omega
    | proj hd l b k =>
      simp only [joinF] at h
      obtain ⟨x, e, rfl⟩ := map_some' h
      have := ih _ _ _ e; simp only [K.size] at *; omega
    | inj hd k =>
      cases d <;> simp only [joinF, Option.some.injEq, reduceCtorEq] at h
      · subst h; simp only [K.size] at *; omega
      · split at h
        · have := ih _ _ _ h; simp only [K.size] at *; omega
        · cases h; simp only [K.size] at *; omega
    | fn a a' =>
      cases d <;> simp only [joinF, Option.some.injEq, reduceCtorEq] at h
      · subst h; simp only [K.size] at *; omega
      · obtain ⟨x, y, e1, e2, rfl⟩ := both2_some h
        have := ih _ _ _ e1; have := ih _ _ _ e2; have := mf x y; simp only [K.size] at *; omega
      · obtain ⟨x, e, rfl⟩ := map_some' h
        have := ih _ _ _ e; simp only [K.size] at *; omega
      · subst h; simp only [K.size] at *; omega
    | pair a a' =>
      cases d <;> simp only [joinF, Option.some.injEq, reduceCtorEq] at h
      · subst h; simp only [K.size] at *; omega
      · obtain ⟨x, y, e1, e2, rfl⟩ := both2_some h
        have := ih _ _ _ e1; have := ih _ _ _ e2; have := mp x y; simp only [K.size] at *; omega
      · obtain ⟨x, e, rfl⟩ := map_some' h
        have := ih _ _ _ e; simp only [K.size] at *; omega
      · subst h; simp only [K.size] at *; omega
    | list a =>
      cases d <;> simp only [joinF, Option.some.injEq, reduceCtorEq] at h
      · subst h; simp only [K.size] at *; omega
      · obtain ⟨x, e, rfl⟩ := map_some' h
        have := ih _ _ _ e; have := ml x; simp only [K.size] at *; omega
      · obtain ⟨x, e, rfl⟩ := map_some' h
        have := ih _ _ _ e; simp only [K.size] at *; omega
      · subst h; simp only [K.size] at *; omega
theorem joinK_size {c d j : K} (h : joinK c d = some j) : j.size ≤ c.size + d.size := joinF_size _ c d j h

end Go.Proofs.Ytdngjamjccjlmaa
end

