/- Lemmas: the composition and the casts in plain Lean. No condition. -/
import Derived.Test.YtofogicgnldfhaaPMa
import Derived.Test.YtofogicgnldfhaaPFb

section
/- Coercions joined: any order, heights. No condition. -/
set_option linter.unusedSimpArgs false
set_option linter.unusedVariables false
namespace Go.Proofs.Ytofogicgnldfhaa
open Go Go.Ab

theorem both2_some {f : K → K → K} {x y : Option K} {j : K} (h : both2 f x y = some j) : ∃ a b, x = some a ∧ y = some b ∧ j = f a b := by
  cases x <;> cases y <;> simp [both2] at h
  exact ⟨_, _, rfl, rfl, h.symm⟩
theorem map_some' {f : K → K} {x : Option K} {j : K} (h : x.map f = some j) : ∃ a, x = some a ∧ j = f a := by
  cases x <;> simp at h
  exact ⟨_, rfl, h.symm⟩

theorem isId_iff {k : K} : k.isId = true ↔ k = .id := by cases k <;> simp [K.isId]

/-- What a former, or CId, joined with a CInj is. -/
theorem joinK_x_inj {x : K} (hx : x.isForm = true ∨ x = .id) (h : Int) (k : K) : joinK x (.inj h k) = (joinK x k).map (.inj h) := by
  rcases hx with hx | rfl
  · exact joinK_form_inj hx h k
  · rw [joinK_id, joinK_id]; rfl
theorem joinK_x_fail {x : K} (hx : x.isForm = true ∨ x = .id) (l : Int) (b : Bool) : joinK x (.fail l b) = some (.fail l b) := by
  rcases hx with hx | rfl
  · exact joinK_form_fail hx l b
  · exact joinK_id _
theorem mkFn_x (a b : K) : (mkFn a b).isForm = true ∨ mkFn a b = .id := by
  unfold mkFn; split
  · exact .inr rfl
  · exact .inl rfl
theorem mkPair_x (a b : K) : (mkPair a b).isForm = true ∨ mkPair a b = .id := by
  unfold mkPair; split
  · exact .inr rfl
  · exact .inl rfl
theorem mkList_x (a : K) : (mkList a).isForm = true ∨ mkList a = .id := by
  unfold mkList; split
  · exact .inr rfl
  · exact .inl rfl
theorem mkFn_ok {a b : K} (h : (K.fn a b).ok = true) : mkFn a b = .fn a b := by
  simp only [K.ok, Bool.and_eq_true, Bool.not_eq_true'] at h
  simp [mkFn, h.2]
theorem mkPair_ok {a b : K} (h : (K.pair a b).ok = true) : mkPair a b = .pair a b := by
  simp only [K.ok, Bool.and_eq_true, Bool.not_eq_true'] at h
  simp [mkPair, h.2]
theorem mkList_ok {a : K} (h : (K.list a).ok = true) : mkList a = .list a := by
  simp only [K.ok, Bool.and_eq_true, Bool.not_eq_true'] at h
  simp [mkList, h.2]
theorem mkFn_pos {a b : K} (h : (a.isId && b.isId) = true) : mkFn a b = .id := if_pos h
theorem mkFn_neg {a b : K} (h : ¬ (a.isId && b.isId) = true) : mkFn a b = .fn a b := if_neg h
theorem mkPair_pos {a b : K} (h : (a.isId && b.isId) = true) : mkPair a b = .id := if_pos h
theorem mkPair_neg {a b : K} (h : ¬ (a.isId && b.isId) = true) : mkPair a b = .pair a b := if_neg h
theorem mkList_pos {a : K} (h : a.isId = true) : mkList a = .id := if_pos h
theorem mkList_neg {a : K} (h : ¬ a.isId = true) : mkList a = .list a := if_neg h
theorem joinK_mkFn {x1 x2 e1 e2 : K} (he : (K.fn e1 e2).ok = true) : joinK (mkFn x1 x2) (.fn e1 e2) = both2 mkFn (joinK e1 x1) (joinK x2 e2) := by
  by_cases h : (x1.isId && x2.isId) = true
  · rw [mkFn_pos h]
    rw [Bool.and_eq_true, isId_iff, isId_iff] at h
    obtain ⟨rfl, rfl⟩ := h
    rw [joinK_id, joinK_id, joinK_form_id]
    simp [both2, mkFn_ok he]
  · rw [mkFn_neg h]; exact joinK_fn _ _ _ _
theorem joinK_mkPair {x1 x2 e1 e2 : K} (he : (K.pair e1 e2).ok = true) : joinK (mkPair x1 x2) (.pair e1 e2) = both2 mkPair (joinK x1 e1) (joinK x2 e2) := by
  by_cases h : (x1.isId && x2.isId) = true
  · rw [mkPair_pos h]
    rw [Bool.and_eq_true, isId_iff, isId_iff] at h
    obtain ⟨rfl, rfl⟩ := h
    rw [joinK_id, joinK_id, joinK_id]
    simp [both2, mkPair_ok he]
  · rw [mkPair_neg h]; exact joinK_pair _ _ _ _
theorem joinK_mkList {x e : K} (he : (K.list e).ok = true) : joinK (mkList x) (.list e) = (joinK x e).map mkList := by
  by_cases h : x.isId = true
  · rw [mkList_pos h]
    rw [isId_iff] at h
    subst h
    rw [joinK_id, joinK_id]
    simp [mkList_ok he]
  · rw [mkList_neg h]; exact joinK_list _ _
theorem joinK_fn_mk {x1 x2 c1 c2 : K} (hc : (K.fn c1 c2).ok = true) : joinK (.fn c1 c2) (mkFn x1 x2) = both2 mkFn (joinK x1 c1) (joinK c2 x2) := by
  by_cases h : (x1.isId && x2.isId) = true
  · rw [mkFn_pos h]
    rw [Bool.and_eq_true, isId_iff, isId_iff] at h
    obtain ⟨rfl, rfl⟩ := h
    rw [joinK_id, joinK_form_id, joinK_form_id]
    simp [both2, mkFn_ok hc]
  · rw [mkFn_neg h]; exact joinK_fn _ _ _ _
theorem joinK_pair_mk {x1 x2 c1 c2 : K} (hc : (K.pair c1 c2).ok = true) : joinK (.pair c1 c2) (mkPair x1 x2) = both2 mkPair (joinK c1 x1) (joinK c2 x2) := by
  by_cases h : (x1.isId && x2.isId) = true
  · rw [mkPair_pos h]
    rw [Bool.and_eq_true, isId_iff, isId_iff] at h
    obtain ⟨rfl, rfl⟩ := h
    rw [joinK_form_id, joinK_form_id, joinK_form_id]
    simp [both2, mkPair_ok hc]
  · rw [mkPair_neg h]; exact joinK_pair _ _ _ _
theorem joinK_list_mk {x c : K} (hc : (K.list c).ok = true) : joinK (.list c) (mkList x) = (joinK c x).map mkList := by
  by_cases h : x.isId = true
  · rw [mkList_pos h]
    rw [isId_iff] at h
    subst h
    rw [joinK_form_id, joinK_form_id]
    simp [mkList_ok hc]
  · rw [mkList_neg h]; exact joinK_list _ _

theorem ok_fn {a b : K} (h : (K.fn a b).ok = true) : a.ok = true ∧ b.ok = true := by
  simp only [K.ok, Bool.and_eq_true] at h; exact h.1
theorem ok_pair {a b : K} (h : (K.pair a b).ok = true) : a.ok = true ∧ b.ok = true := by
  simp only [K.ok, Bool.and_eq_true] at h; exact h.1
theorem ok_list {a : K} (h : (K.list a).ok = true) : a.ok = true := by
  simp only [K.ok, Bool.and_eq_true] at h; exact h.1
theorem ok_inj {h : Int} {k : K} (hk : (K.inj h k).ok = true) : k.ok = true ∧ headK h = true ∧ (k = .id ∨ k.form = h) := by
  simp only [K.ok, Bool.and_eq_true, Bool.or_eq_true, isId_iff, decide_eq_true_eq] at hk; exact ⟨hk.1.1, hk.1.2, hk.2⟩
theorem ok_proj {h l : Int} {n : Bool} {k : K} (hk : (K.proj h l n k).ok = true) : k.ok = true ∧ headK h = true ∧ labelOK l = true ∧ (k.isFail = true ∨ k.injOf h = true ∨ k = .id ∨ k.form = h) := by
  simp only [K.ok, Bool.and_eq_true, Bool.or_eq_true, isId_iff, decide_eq_true_eq] at hk
  refine ⟨hk.1.1.1, hk.1.1.2, hk.1.2, ?_⟩
  rcases hk.2 with (h | h) | h
  · exact .inl h
  · exact .inr (.inl h)
  · exact .inr (.inr h)

theorem joinK_forms_x {c d x : K} (hc : c.isForm = true) (hd : d.isForm = true) (h : joinK c d = some x) : x.isForm = true ∨ x = .id := by
  cases c <;> (try (simp [K.isForm, K.form] at hc; done)) <;> cases d <;> (try (simp [K.isForm, K.form] at hd; done)) <;> first
    | (rw [joinK_fn] at h; obtain ⟨a, b, _, _, rfl⟩ := both2_some h; exact mkFn_x _ _)
    | (rw [joinK_pair] at h; obtain ⟨a, b, _, _, rfl⟩ := both2_some h; exact mkPair_x _ _)
    | (rw [joinK_list] at h; obtain ⟨a, _, rfl⟩ := map_some' h; exact mkList_x _)
    | (rw [joinK_forms rfl rfl (by simp [K.form])] at h; cases h; done)

/-- It does not matter which two are joined first. -/
theorem joinK_assoc : ∀ (n : Nat) (c d e x y p q : K), c.size + d.size + e.size ≤ n → c.ok = true → d.ok = true → e.ok = true →
    joinK c d = some x → joinK d e = some y → joinK x e = some p → joinK c y = some q → p = q := by
  intro n
  induction n with
  | zero => intro c d e x y p q h; have := c.size_pos; omega
  | succ n ih =>
    intro c d e x y p q hn hc hd he h1 h2 h3 h4
    by_cases cid : c = .id
    · subst cid
      rw [joinK_id] at h1 h4
      cases h1; cases h4
      rw [h3] at h2; exact Option.some.inj h2
    by_cases did : d = .id
    · subst did
      rw [joinK_form_id] at h1; rw [joinK_id] at h2
      cases h1; cases h2
      rw [h3] at h4; exact Option.some.inj h4
    by_cases eid : e = .id
    · subst eid
      rw [joinK_form_id] at h2 h3
      cases h2; cases h3
      rw [h1] at h4; exact Option.some.inj h4
    -- a former ahead
    have former : c.isForm = true → (d.isForm = true → d.form = c.form → e.isForm = true → e.form = c.form → p = q) → p = q := by
      intro hf hcomp
      by_cases hdf : d.isForm = true
      · by_cases hform : c.form = d.form
        · have hx := joinK_forms_x hf hdf h1
          by_cases hef : e.isForm = true
          · by_cases hform2 : d.form = e.form
            · exact hcomp hdf hform.symm hef (by rw [hform, hform2])
            · rw [joinK_forms hdf hef hform2] at h2; cases h2
          · cases e with
            | id => exact absurd rfl eid
            | fail l b =>
              rw [joinK_form_fail hdf] at h2
              cases h2
              rw [joinK_x_fail hx] at h3; rw [joinK_form_fail hf] at h4
              cases h3; cases h4; rfl
            | proj h l b k => rw [joinK_form_proj hdf] at h2; cases h2
            | inj h k =>
              rw [joinK_form_inj hdf] at h2
              obtain ⟨y', e2, rfl⟩ := map_some' h2
              rw [joinK_x_inj hx] at h3; rw [joinK_form_inj hf] at h4
              obtain ⟨p', e3, rfl⟩ := map_some' h3
              obtain ⟨q', e4, rfl⟩ := map_some' h4
              rw [ih c d k x y' p' q' (by simp only [K.size] at hn ⊢; omega) hc hd (ok_inj he).1 h1 e2 e3 e4]
            | fn _ _ => exact absurd rfl hef
            | pair _ _ => exact absurd rfl hef
            | list _ => exact absurd rfl hef
        · rw [joinK_forms hf hdf hform] at h1; cases h1
      · cases d with
        | id => exact absurd rfl did
        | fail l b =>
          rw [joinK_form_fail hf] at h1; rw [joinK_fail] at h2
          cases h1; cases h2
          rw [joinK_fail] at h3; rw [joinK_form_fail hf] at h4
          cases h3; cases h4; rfl
        | proj h l b k => rw [joinK_form_proj hf] at h1; cases h1
        | inj h k =>
          rw [joinK_form_inj hf] at h1
          obtain ⟨x', e1, rfl⟩ := map_some' h1
          cases e with
          | id => exact absurd rfl eid
          | proj h' l b k' =>
            rw [joinK_inj_proj] at h2 h3
            split at h2
            · rename_i hh; rw [if_pos hh] at h3
              exact ih c k k' x' y p q (by simp only [K.size] at hn; omega) hc (ok_inj hd).1 (ok_proj he).1 e1 h2 h3 h4
            · rename_i hh; rw [if_neg hh] at h3
              cases h2; cases h3
              rw [joinK_form_fail hf] at h4; cases h4; rfl
          | _ => rw [joinK_inj_none _ _ _ rfl (by intro _ _ _ _ h; cases h)] at h2; cases h2
        | fn _ _ => exact absurd rfl hdf
        | pair _ _ => exact absurd rfl hdf
        | list _ => exact absurd rfl hdf
    cases c with
    | id => exact absurd rfl cid
    | fail l b =>
      rw [joinK_fail] at h1 h4
      cases h1; cases h4
      rw [joinK_fail] at h3; cases h3; rfl
    | proj h l b k =>
      rw [joinK_proj] at h1 h4
      obtain ⟨x', e1, rfl⟩ := map_some' h1
      obtain ⟨q', e4, rfl⟩ := map_some' h4
      rw [joinK_proj] at h3
      obtain ⟨p', e3, rfl⟩ := map_some' h3
      rw [ih k d e x' y p' q' (by simp only [K.size] at hn; omega) (ok_proj hc).1 hd he e1 h2 e3 e4]
    | inj h k =>
      cases d with
      | id => exact absurd rfl did
      | proj h' l b k' =>
        rw [joinK_proj] at h2
        obtain ⟨y', e2, rfl⟩ := map_some' h2
        rw [joinK_inj_proj] at h1 h4
        split at h1
        · rename_i hh; rw [if_pos hh] at h4
          exact ih k k' e x y' p q (by simp only [K.size] at hn; omega) (ok_inj hc).1 (ok_proj hd).1 he h1 e2 h3 h4
        · rename_i hh; rw [if_neg hh] at h4
          cases h1; cases h4
          rw [joinK_fail] at h3; cases h3; rfl
      | _ => rw [joinK_inj_none _ _ _ rfl (by intro _ _ _ _ h; cases h)] at h1; cases h1
    | fn c1 c2 =>
      refine former rfl fun hd1 hd2 he1 he2 => ?_
      cases d <;> (try (simp [K.isForm, K.form] at hd1 hd2; done))
      cases e <;> (try (simp [K.isForm, K.form] at he1 he2; done))
      rename_i d1 d2 e1 e2
      rw [joinK_fn] at h1 h2
      obtain ⟨x1, x2, f1, f2, rfl⟩ := both2_some h1
      obtain ⟨y1, y2, g1, g2, rfl⟩ := both2_some h2
      rw [joinK_mkFn he] at h3
      rw [joinK_fn_mk hc] at h4
      obtain ⟨p1, p2, i1, i2, rfl⟩ := both2_some h3
      obtain ⟨q1, q2, j1, j2, rfl⟩ := both2_some h4
      have := ih e1 d1 c1 y1 x1 q1 p1 (by simp only [K.size] at hn; omega) (ok_fn he).1 (ok_fn hd).1 (ok_fn hc).1 g1 f1 j1 i1
      rw [this, ih c2 d2 e2 x2 y2 p2 q2 (by simp only [K.size] at hn; omega) (ok_fn hc).2 (ok_fn hd).2 (ok_fn he).2 f2 g2 i2 j2]
    | pair c1 c2 =>
      refine former rfl fun hd1 hd2 he1 he2 => ?_
      cases d <;> (try (simp [K.isForm, K.form] at hd1 hd2; done))
      cases e <;> (try (simp [K.isForm, K.form] at he1 he2; done))
      rename_i d1 d2 e1 e2
      rw [joinK_pair] at h1 h2
      obtain ⟨x1, x2, f1, f2, rfl⟩ := both2_some h1
      obtain ⟨y1, y2, g1, g2, rfl⟩ := both2_some h2
      rw [joinK_mkPair he] at h3
      rw [joinK_pair_mk hc] at h4
      obtain ⟨p1, p2, i1, i2, rfl⟩ := both2_some h3
      obtain ⟨q1, q2, j1, j2, rfl⟩ := both2_some h4
      rw [ih c1 d1 e1 x1 y1 p1 q1 (by simp only [K.size] at hn; omega) (ok_pair hc).1 (ok_pair hd).1 (ok_pair he).1 f1 g1 i1 j1,
        ih c2 d2 e2 x2 y2 p2 q2 (by simp only [K.size] at hn; omega) (ok_pair hc).2 (ok_pair hd).2 (ok_pair he).2 f2 g2 i2 j2]
    | list c1 =>
      refine former rfl fun hd1 hd2 he1 he2 => ?_
      cases d <;> (try (simp [K.isForm, K.form] at hd1 hd2; done))
      cases e <;> (try (simp [K.isForm, K.form] at he1 he2; done))
      rename_i d1 e1
      rw [joinK_list] at h1 h2
      obtain ⟨x1, f1, rfl⟩ := map_some' h1
      obtain ⟨y1, g1, rfl⟩ := map_some' h2
      rw [joinK_mkList he] at h3
      rw [joinK_list_mk hc] at h4
      obtain ⟨p1, i1, rfl⟩ := map_some' h3
      obtain ⟨q1, j1, rfl⟩ := map_some' h4
      rw [ih c1 d1 e1 x1 y1 p1 q1 (by simp only [K.size] at hn; omega) (ok_list hc) (ok_list hd) (ok_list he) f1 g1 i1 j1]

/-- How high. -/
def K.height : K → Nat
  | .id => 1
  | .fn a b => max a.height b.height + 1
  | .pair a b => max a.height b.height + 1
  | .list a => a.height + 1
  | .inj _ k => k.height
  | .proj _ _ _ k => k.height
  | .fail _ _ => 1
end Go.Proofs.Ytofogicgnldfhaa
end

section
/- Right types as a type of their own; casts as coercions: plain functions. No condition. -/
set_option linter.unusedSimpArgs false
set_option linter.unusedVariables false
namespace Go.Proofs.Ytofogicgnldfhaa
open Go Go.Ab

inductive T where
  | base (k : Fin 4)
  | dyn
  | var (n : Int)
  | pair (a b : T)
  | list (a : T)
  | fn (a b : T)
  deriving DecidableEq
instance : Inhabited T := ⟨.dyn⟩

def T.ty : T → Ty
  | .base k => .mk (k.val + 1) 0 []
  | .dyn => .mk 5 0 []
  | .var n => .mk 6 n []
  | .pair a b => .mk 7 0 [a.ty, b.ty]
  | .list a => .mk 8 0 [a.ty]
  | .fn a b => .mk 9 0 [a.ty, b.ty]
def T.kind : T → Int
  | .base k => k.val + 1
  | .dyn => 5
  | .var _ => 6
  | .pair _ _ => 7
  | .list _ => 8
  | .fn _ _ => 9
/-- Its variables' numbers are in range. -/
def T.ok : T → Bool
  | .var n => decide (0 ≤ n) && decide (n ≤ 1048576)
  | .pair a b => a.ok && b.ok
  | .list a => a.ok
  | .fn a b => a.ok && b.ok
  | _ => true
theorem T.right_ty : ∀ a : T, right a.ty = a.ok := by
  intro a
  induction a with
  | base k => match k with | 0 | 1 | 2 | 3 => rfl
  | dyn => rfl
  | var n => rw [Bool.eq_iff_iff]; simp [T.ty, right, rightL, okN, arity, Ty.kind, Ty.num, Ty.kids, T.ok]; exact ⟨fun h => ⟨of_decide_eq_true h.1, of_decide_eq_true h.2⟩, fun h => ⟨decide_eq_true h.1, decide_eq_true h.2⟩⟩
  | pair a b iha ihb => simp [T.ty, right, rightL, okN, arity, Ty.kind, Ty.num, Ty.kids, T.ok, iha, ihb]
  | list a iha => simp [T.ty, right, rightL, okN, arity, Ty.kind, Ty.num, Ty.kids, T.ok, iha]
  | fn a b iha ihb => simp [T.ty, right, rightL, okN, arity, Ty.kind, Ty.num, Ty.kids, T.ok, iha, ihb]
theorem ty_one_kid {t : Ty} (h : t.kids.length = 1) : t.kids = [t.kid 0] := by
  obtain ⟨k, n, l⟩ := t
  match l, h with
  | [x], _ => rfl
theorem ty_two_kids {t : Ty} (h : t.kids.length = 2) : t.kids = [t.kid 0, t.kid 1] := by
  obtain ⟨k, n, l⟩ := t
  match l, h with
  | [x, y], _ => rfl
theorem T.of_right : ∀ t : Ty, right t = true → ∃ a : T, t = a.ty := by
  refine Ty.ind fun t ih ht => ?_
  have e := Ty.eta t
  rcases right_arity ht with ⟨hk, hl⟩ | ⟨hk, hl⟩ | ⟨hk, hl⟩
  · by_cases h6 : t.kind = 6
    · exact ⟨.var t.num, by conv => lhs; rw [← e, h6, hl]
                            rfl⟩
    · have hn := right_num ht h6
      rcases hk with h | h | h | h | h | h
      · exact ⟨.base 0, by rw [← e, h, hn, hl]; rfl⟩
      · exact ⟨.base 1, by rw [← e, h, hn, hl]; rfl⟩
      · exact ⟨.base 2, by rw [← e, h, hn, hl]; rfl⟩
      · exact ⟨.base 3, by rw [← e, h, hn, hl]; rfl⟩
      · exact ⟨.dyn, by rw [← e, h, hn, hl]; rfl⟩
      · exact absurd h h6
  · have hn := right_num ht (by omega)
    obtain ⟨a, ha⟩ := ih _ (kidmem (t := t) (i := 0) (by omega)) (right_kid ht (by omega))
    exact ⟨.list a, by rw [← e, hk, hn, ty_one_kid hl, ha]; rfl⟩
  · have hn := right_num ht (by omega)
    obtain ⟨a, ha⟩ := ih _ (kidmem (t := t) (i := 0) (by omega)) (right_kid ht (by omega))
    obtain ⟨b, hb⟩ := ih _ (kidmem (t := t) (i := 1) (by omega)) (right_kid ht (by omega))
    rcases hk with hk | hk
    · exact ⟨.pair a b, by rw [← e, hk, hn, ty_two_kids hl, ha, hb]; rfl⟩
    · exact ⟨.fn a b, by rw [← e, hk, hn, ty_two_kids hl, ha, hb]; rfl⟩
def T.closed : T → Bool
  | .var _ => false
  | .pair a b => a.closed && b.closed
  | .list a => a.closed
  | .fn a b => a.closed && b.closed
  | _ => true
def T.static : T → Bool
  | .dyn => false
  | .pair a b => a.static && b.static
  | .list a => a.static
  | .fn a b => a.static && b.static
  | _ => true
def agreeT : T → T → Bool
  | .dyn, b => b.closed
  | .base k, b => match b with | .dyn => true | .base k' => decide (k = k') | _ => false
  | .var n, b => match b with | .var m => decide (n = m) | _ => false
  | .pair a a', b => match b with | .dyn => a.closed && a'.closed | .pair c c' => agreeT a c && agreeT a' c' | _ => false
  | .list a, b => match b with | .dyn => a.closed | .list c => agreeT a c | _ => false
  | .fn a a', b => match b with | .dyn => a.closed && a'.closed | .fn c c' => agreeT a c && agreeT a' c' | _ => false
mutual
def upT (l : Int) : T → Bool → K
  | .base k, _ => .inj (k.val + 1) .id
  | .pair a b, n => .inj 7 (mkPair (upT l a n) (upT l b n))
  | .list a, n => .inj 8 (mkList (upT l a n))
  | .fn a b, n => .inj 9 (mkFn (downT l a (!n)) (upT l b n))
  | .dyn, _ => .id
  | .var _, _ => .id
def downT (l : Int) : T → Bool → K
  | .base k, n => .proj (k.val + 1) l n .id
  | .pair a b, n => .proj 7 l n (mkPair (downT l a n) (downT l b n))
  | .list a, n => .proj 8 l n (mkList (downT l a n))
  | .fn a b, n => .proj 9 l n (mkFn (upT l a (!n)) (downT l b n))
  | .dyn, _ => .id
  | .var _, _ => .id
end
def castF (l : Int) : Nat → T → T → Bool → K
  | 0, _, _, _ => .id
  | m + 1, a, b, n => match a, b with
    | .dyn, b => downT l b n
    | a, .dyn => upT l a n
    | .pair a a', .pair b b' => mkPair (castF l m a b n) (castF l m a' b' n)
    | .list a, .list b => mkList (castF l m a b n)
    | .fn a a', .fn b b' => mkFn (castF l m b a (!n)) (castF l m a' b' n)
    | _, _ => .id
def T.size : T → Nat
  | .pair a b => a.size + b.size + 1
  | .list a => a.size + 1
  | .fn a b => a.size + b.size + 1
  | _ => 1
def castT (l : Int) (a b : T) (n : Bool) : K := castF l (a.size + b.size) a b n
theorem T.size_pos (a : T) : 0 < a.size := by cases a <;> simp [T.size]
end Go.Proofs.Ytofogicgnldfhaa
end

section
/- Casts as coercions: plain laws. No condition. -/
set_option linter.unusedSimpArgs false
set_option linter.unusedVariables false
namespace Go.Proofs.Ytofogicgnldfhaa
open Go Go.Ab

/-- The ground of a head. -/
def ofH (h : Int) : T :=
  if h = 1 then .base 0 else if h = 2 then .base 1 else if h = 3 then .base 2 else if h = 4 then .base 3 else if h = 7 then .pair .dyn .dyn else if h = 8 then .list .dyn else if h = 9 then .fn .dyn .dyn else .dyn
def T.isDyn : T → Bool | .dyn => true | _ => false
def fitsK : K → T → T → Bool
  | .id, a, b => decide (a = b)
  | .fail _ _, a, _ => !a.isDyn
  | .inj h k, a, b => b.isDyn && decide (a.kind = h) && fitsK k a (ofH h)
  | .proj h _ _ k, a, b => a.isDyn && fitsK k (ofH h) b
  | .fn x y, a, b => match a, b with | .fn a a', .fn b b' => fitsK x b a && fitsK y a' b' | _, _ => false
  | .pair x y, a, b => match a, b with | .pair a a', .pair b b' => fitsK x a b && fitsK y a' b' | _, _ => false
  | .list x, a, b => match a, b with | .list a, .list b => fitsK x a b | _, _ => false
/-- No higher than the deeper one is deep. -/
def T.deep : T → Nat
  | .pair a b => max a.deep b.deep + 1
  | .list a => a.deep + 1
  | .fn a b => max a.deep b.deep + 1
  | _ => 1
/-! Labels and sides. -/
/-- How many parts from ? have a side. -/
def K.cnt (s : Bool) : K → Nat
  | .fn a b => a.cnt s + b.cnt s
  | .pair a b => a.cnt s + b.cnt s
  | .list a => a.cnt s
  | .inj _ k => k.cnt s
  | .proj _ _ n k => (if n = s then 1 else 0) + k.cnt s
  | _ => 0
/-- All labels are that one, and nothing fails. -/
def K.lab (l : Int) : K → Bool
  | .fn a b => a.lab l && b.lab l
  | .pair a b => a.lab l && b.lab l
  | .list a => a.lab l
  | .inj _ k => k.lab l
  | .proj _ l' _ k => decide (l' = l) && k.lab l
  | .fail _ _ => false
  | .id => true
/-- With the next label, and the other side. -/
def K.turn : K → K
  | .fn a b => .fn a.turn b.turn
  | .pair a b => .pair a.turn b.turn
  | .list a => .list a.turn
  | .inj h k => .inj h k.turn
  | .proj h l n k => .proj h (l + 1) (!n) k.turn
  | k => k
end Go.Proofs.Ytofogicgnldfhaa
end

section
/- Casts as coercions: sides, substitutions, joints. No condition. -/
set_option linter.unusedSimpArgs false
set_option linter.unusedVariables false
namespace Go.Proofs.Ytofogicgnldfhaa
open Go Go.Ab

/-! What is put for variables. -/
def putS (σ : Int → T) : T → T
  | .var n => σ n
  | .pair a b => .pair (putS σ a) (putS σ b)
  | .list a => .list (putS σ a)
  | .fn a b => .fn (putS σ a) (putS σ b)
  | a => a
/-! Joints go from the first one to the last one. -/
/-! Joints of formers that may be the identity. -/
end Go.Proofs.Ytofogicgnldfhaa
end

section
/- Casts there and back, and by way of ?: plain laws. No condition. -/
set_option linter.unusedSimpArgs false
set_option linter.unusedVariables false
namespace Go.Proofs.Ytofogicgnldfhaa
open Go Go.Ab

def K.fails : K → Bool
  | .fn a b => a.fails || b.fails
  | .pair a b => a.fails || b.fails
  | .list a => a.fails
  | .inj _ k => k.fails
  | .proj _ _ _ k => k.fails
  | .fail _ _ => true
  | .id => false
/-! There and back. -/
def belowT : T → T → Bool
  | _, .dyn => true
  | a, .base k => match a with | .base k' => decide (k' = k) | _ => false
  | a, .var n => match a with | .var m => decide (m = n) | _ => false
  | a, .pair b b' => match a with | .pair a a' => belowT a b && belowT a' b' | _ => false
  | a, .list b => match a with | .list a => belowT a b | _ => false
  | a, .fn b b' => match a with | .fn a a' => belowT a b && belowT a' b' | _ => false
end Go.Proofs.Ytofogicgnldfhaa
end

