/- A value made one of ? and back, in plain Lean. No condition. -/
import Derived.Test.YtofogicgnldfhaaYX
import Derived.Test.YtofogicgnldfhaaPYi
import Derived.Test.YtofogicgnldfhaaY22
set_option linter.unusedSimpArgs false
set_option linter.unusedVariables false
set_option maxHeartbeats 4000000
set_option maxRecDepth 100000
namespace Go.Proofs.Ytofogicgnldfhaa
open Go Go.Ab

theorem noneB_eq {c : Co} (h : noneB c = true) : c = noneC := by
  cases c with
  | mk k hd l n ks =>
    simp [noneB, Co.kind, Co.head, Co.label, Co.neg, Co.kids] at h
    obtain ⟨⟨⟨⟨a, b⟩, c⟩, rfl⟩, rfl⟩ := h
    rw [of_decide_eq_true a, of_decide_eq_true b, of_decide_eq_true c]
theorem headV_head {v : Vl} (h : rightV v = true) : headK (headV v.kind) = true := by
  have ho := ownV_of h
  simp only [ownV, oneV, Bool.and_eq_true, decide_eq_true_eq] at ho
  obtain ⟨a, b⟩ := ho.1.1.1.1.1
  generalize v.kind = k at a b
  have : k = 1 ∨ k = 2 ∨ k = 3 ∨ k = 4 ∨ k = 5 ∨ k = 6 ∨ k = 7 ∨ k = 8 := by omega
  rcases this with rfl | rfl | rfl | rfl | rfl | rfl | rfl | rfl <;> decide
/-- What it is wrapped in, as a form. -/
theorem co_form {v : Vl} (h : rightV v = true) (h5 : v.co.kind ≠ 5) : ∃ k : K, dOf v = k.co ∧ k.ok = true ∧ (k = .id ∧ v.co = noneC ∨ k.isForm = true ∧ k.form = headV v.kind ∧ v.co = k.co) := by
  obtain ⟨k, hk, ho⟩ := K.of_right' (rightC_dOf h)
  refine ⟨k, hk, ho, ?_⟩
  cases hn : noneB v.co with
  | true =>
    left
    have : dOf v = K.id.co := by unfold dOf; rw [hn]; rfl
    exact ⟨K.co_inj (hk.symm.trans this), noneB_eq hn⟩
  | false =>
    right
    have e : v.co = k.co := by unfold dOf at hk; rw [hn] at hk; exact hk
    have ha := ownV_of h
    simp only [ownV, oneV, Bool.and_eq_true] at ha
    have ha := ha.1.2
    simp only [aroundV, hn, Bool.false_or, Bool.and_eq_true] at ha
    have ha := ha.2
    rw [e] at ha h5
    cases k with
    | fn a b => simp only [K.co, Co.kind] at ha h5; simp at ha; exact ⟨rfl, by rw [ha]; rfl, e⟩
    | pair a b => simp only [K.co, Co.kind] at ha h5; simp at ha; exact ⟨rfl, by rw [ha]; rfl, e⟩
    | list a =>
      simp only [K.co, Co.kind] at ha h5; simp at ha
      refine ⟨rfl, ?_, e⟩
      rcases ha with ha | ha <;> rw [ha] <;> rfl
    | inj a b => exact absurd rfl h5
    | _ => simp [K.co, Co.kind] at ha
theorem up_wrap {v : Vl} (h : rightV v = true) (h5 : v.co.kind ≠ 5) : ∃ w, wrapA v (injV (headV v.kind)) = .ok w ∧ w.co.kind = 5 ∧ rightV w = true ∧
    ∀ (o l : Int) (n : Bool), 0 ≤ l → l ≤ 1048576 → headK o = true → wrapA w (projV o l n) = if o = headV v.kind then .ok v else .blame l n := by
  obtain ⟨k, hd, ho, hk⟩ := co_form h h5
  have hx : k.isForm = true ∨ k = .id := hk.elim (fun x => .inr x.1) (fun x => .inl x.1)
  have hf : k.isId = true ∨ k.form = headV v.kind := hk.elim (fun x => .inl (by rw [x.1]; rfl)) (fun x => .inr x.2.1)
  have hid : joinK k .id = some k := joinK_form_id
  have hj : joinK k (.inj (headV v.kind) .id) = some (.inj (headV v.kind) k) := by rw [joinK_x_inj hx, hid]; rfl
  have hio : (K.inj (headV v.kind) k).ok = true := by
    simp only [K.ok, ho, headV_head h, Bool.true_and, Bool.or_eq_true, decide_eq_true_eq]; exact hf
  have hi1 : (K.inj (headV v.kind) .id).ok = true := by simp only [K.ok, headV_head h, Bool.true_and]; rfl
  obtain ⟨e1, e2⟩ := joinC_co ho hi1 (joinR_some.2 ⟨hj, hio⟩)
  have hr1 : rightC (K.inj (headV v.kind) k).co = true := by rw [K.right_co]; exact hio
  have ha : aroundV (setC v (K.inj (headV v.kind) k).co) = true := by
    unfold aroundV
    have : (setC v (K.inj (headV v.kind) k).co).co = (K.inj (headV v.kind) k).co := rfl
    rw [this, hr1]
    have : (setC v (K.inj (headV v.kind) k).co).kind = v.kind := rfl
    rw [this]
    simp [K.co, Co.kind, Co.head]
  have hw : wrapA v (injV (headV v.kind)) = .ok (setC v (K.inj (headV v.kind) k).co) := by
    unfold wrapA
    rw [injV_co, hd, e1, e2, if_neg (by decide), if_neg (by simp [K.co, Co.kind]), if_neg (by simp [K.co, Co.kind]), if_pos ha]
  refine ⟨_, hw, rfl, rightV_setC h ha, fun o l n l0 l1 hh => ?_⟩
  have hd2 : dOf (setC v (K.inj (headV v.kind) k).co) = (K.inj (headV v.kind) k).co := rfl
  have hl : labelOK l = true := by simp [labelOK, l0, l1]
  have hpo : (K.proj o l n .id).ok = true := by simp only [K.ok, hh, hl, Bool.true_and]; simp [K.isId]
  have hp : joinK (.inj (headV v.kind) k) (.proj o l n .id) = if o = headV v.kind then some k else some (.fail l n) := by
    rw [joinK_inj_proj, hid]
    by_cases e : o = headV v.kind
    · rw [if_pos e, if_pos e.symm]
    · rw [if_neg e, if_neg (fun x => e x.symm)]
  by_cases e : o = headV v.kind
  · rw [if_pos e] at hp ⊢
    obtain ⟨e3, e4⟩ := joinC_co hio hpo (joinR_some.2 ⟨hp, ho⟩)
    unfold wrapA
    rw [hd2, projV_co, e3, e4, if_neg (by decide)]
    rcases hk with ⟨rfl, hn⟩ | ⟨hkf, hkh, hc⟩
    · rw [if_neg (by decide), if_pos (by decide)]
      show WR.ok (setC v noneC) = _
      rw [← hn]; cases v; rfl
    · have hs : setC (setC v (K.inj (headV v.kind) k).co) k.co = v := by rw [← hc]; cases v; rfl
      have hav : aroundV v = true := by
        have ha := ownV_of h
        simp only [ownV, oneV, Bool.and_eq_true] at ha
        exact ha.1.2
      rw [hs, if_neg (by cases k <;> simp [K.isForm, K.form] at hkf <;> simp [K.co, Co.kind]), if_neg (by cases k <;> simp [K.isForm, K.form] at hkf <;> simp [K.co, Co.kind]), if_pos hav]
  · rw [if_neg e] at hp ⊢
    obtain ⟨e3, e4⟩ := joinC_co hio hpo (joinR_some.2 ⟨hp, hl⟩)
    unfold wrapA
    rw [hd2, projV_co, e3, e4, if_neg (by decide), if_pos (by simp [K.co, Co.kind])]
    rfl

end Go.Proofs.Ytofogicgnldfhaa
