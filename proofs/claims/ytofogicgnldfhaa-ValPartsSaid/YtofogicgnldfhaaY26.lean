/- A value wrapped twice, in plain Lean. No condition. -/
import Derived.Test.YtofogicgnldfhaaY24
import Derived.Test.YtofogicgnldfhaaPYh
set_option linter.unusedSimpArgs false
set_option linter.unusedVariables false
set_option maxHeartbeats 4000000
set_option maxRecDepth 100000
namespace Go.Proofs.Ytofogicgnldfhaa
open Go Go.Ab

/-- What fails fails, whatever is joined behind it. -/
theorem joinK_stop : ∀ (n : Nat) (c d e y : K) (l : Int) (b : Bool), c.size + d.size ≤ n → joinK c d = some (.fail l b) → joinK d e = some y → joinK c y = some (.fail l b) := by
  intro n
  induction n with
  | zero => intro c d e y l b h; have := c.size_pos; omega
  | succ n ih =>
    intro c d e y l b hn h1 h2
    have former : c.isForm = true → joinK c y = some (.fail l b) := by
      intro hf
      cases d with
      | id => rw [joinK_form_id] at h1; cases h1; simp [K.isForm, K.form] at hf
      | fail l' b' =>
        rw [joinK_form_fail hf] at h1; cases h1
        rw [joinK_fail] at h2; cases h2
        exact joinK_form_fail hf _ _
      | proj h l b k => rw [joinK_form_proj hf] at h1; cases h1
      | inj h k =>
        rw [joinK_form_inj hf] at h1
        obtain ⟨x, _, e1⟩ := map_some' h1; cases e1
      | fn _ _ => rcases joinK_forms_x hf rfl h1 with h | h <;> simp [K.isForm, K.form] at h
      | pair _ _ => rcases joinK_forms_x hf rfl h1 with h | h <;> simp [K.isForm, K.form] at h
      | list _ => rcases joinK_forms_x hf rfl h1 with h | h <;> simp [K.isForm, K.form] at h
    cases c with
    | id =>
      rw [joinK_id] at h1 ⊢; cases h1
      rw [joinK_fail] at h2; exact h2.symm ▸ rfl
    | fail l' b' => rw [joinK_fail] at h1 ⊢; exact h1
    | proj h l' b' k =>
      rw [joinK_proj] at h1
      obtain ⟨x, _, e1⟩ := map_some' h1; cases e1
    | inj h k =>
      cases d with
      | id => rw [joinK_form_id] at h1; cases h1
      | proj h' l' b' k' =>
        rw [joinK_proj] at h2
        obtain ⟨y', e2, rfl⟩ := map_some' h2
        rw [joinK_inj_proj] at h1 ⊢
        split at h1
        · rename_i hh; rw [if_pos hh]
          exact ih k k' e y' l b (by simp only [K.size] at hn; omega) h1 e2
        · rename_i hh; rw [if_neg hh]; exact h1
      | _ => rw [joinK_inj_none _ _ _ rfl (by intro _ _ _ _ h; cases h)] at h1; cases h1
    | fn _ _ => exact former rfl
    | pair _ _ => exact former rfl
    | list _ => exact former rfl

/-- What comes of a value, by its joined coercion. -/
noncomputable def wrapJ (v : Vl) (j : Co) : WR :=
  if j.kind = 7 then .blame j.label j.neg
  else if j.kind = 1 then .ok (setC v noneC)
  else if aroundV (setC v j) then .ok (setC v j) else .err
theorem wrapA_J {v : Vl} {c : Co} (h : joinE (dOf v) c = 0) : wrapA v c = wrapJ v (joinC (dOf v) c) := by
  rw [wrapA, if_neg (by simp [h])]; rfl
theorem joinE_K {c d : K} (hc : c.ok = true) (hd : d.ok = true) : (∃ j, joinK c d = some j ∧ j.ok = true ∧ joinE c.co d.co = 0 ∧ joinC c.co d.co = j.co) ∨ joinE c.co d.co = 8 := by
  cases e : joinR c d with
  | none =>
    right
    simp only [joinE, joinO_co hc hd, K.right_co, hc, hd, e]
    rfl
  | some j =>
    left
    obtain ⟨e1, e2⟩ := joinC_co hc hd e
    exact ⟨j, (joinR_some.1 e).1, (joinR_some.1 e).2, e2, e1⟩
theorem wrap_twice {v : Vl} {c d : Co} (hv : rightV v = true) (hc : rightC c = true) (hd : rightC d = true) (hj : joinE c d = 0) :
    rightC (joinC c d) = true ∧ (∀ l n, wrapA v c = .blame l n → wrapA v (joinC c d) = .blame l n) ∧
    ∀ w, wrapA v c = .ok w → wrapA v (joinC c d) = .err ∨ wrapA w d = .err ∨ wrapA v (joinC c d) = wrapA w d := by
  obtain ⟨D, hD, oD⟩ := K.of_right' (rightC_dOf hv)
  obtain ⟨C', rfl, oc⟩ := K.of_right' hc
  obtain ⟨E, rfl, od⟩ := K.of_right' hd
  rcases joinE_K oc od with ⟨y, hy, oy, _, ey⟩ | h8
  case inr => rw [h8] at hj; cases hj
  rw [ey]
  refine ⟨by rw [K.right_co]; exact oy, ?_, ?_⟩
  · intro l n hw
    rcases joinE_K oD oc with ⟨x, hx, ox, e0, ex⟩ | h8
    case inr => rw [wrapA, hD, if_pos (by rw [h8]; decide)] at hw; cases hw
    rw [wrapA_J (by rw [hD]; exact e0), hD, ex] at hw
    have hf : x = .fail l n := by
      unfold wrapJ at hw
      split at hw
      · cases x <;> simp_all [K.co, Co.kind, Co.label, Co.neg]
      · split at hw
        · cases hw
        · split at hw <;> cases hw
    subst hf
    have hz := joinK_stop _ D C' E y l n (Nat.le_refl _) hx hy
    rcases joinE_K oD oy with ⟨z, hz', oz, e0', ez⟩ | h8
    case inr =>
      have hok : (K.fail l n).ok = true := ox
      have := joinC_co oD oy (joinR_some.2 ⟨hz, hok⟩)
      rw [this.2] at h8; cases h8
    rw [hz] at hz'; cases hz'
    rw [wrapA_J (by rw [hD]; exact e0'), hD, ez]
    rfl
  · intro w hw
    rcases joinE_K oD oc with ⟨x, hx, ox, e0, ex⟩ | h8
    case inr => rw [wrapA, hD, if_pos (by rw [h8]; decide)] at hw; cases hw
    rw [wrapA_J (by rw [hD]; exact e0), hD, ex] at hw
    have hd' : dOf w = x.co ∧ ∀ j, wrapJ w j = wrapJ v j := by
      unfold wrapJ at hw
      split at hw
      · cases hw
      · split at hw
        · rename_i h1; cases hw
          refine ⟨?_, fun j => rfl⟩
          cases x <;> simp [K.co, Co.kind] at h1
          rfl
        · rename_i h7 h1
          split at hw
          · cases hw
            refine ⟨?_, fun j => rfl⟩
            have : noneB (setC v x.co).co = false := by
              show noneB x.co = false
              cases x <;> simp [noneB, K.co, Co.kind]
            unfold dOf; rw [this]; rfl
          · cases hw
    rcases joinE_K oD oy with ⟨z, hz, oz, e0', ez⟩ | h8
    case inr => left; rw [wrapA, hD, if_pos (by rw [h8]; decide)]
    rcases joinE_K ox od with ⟨p, hp, op, e1', ep⟩ | h8
    case inr => right; left; rw [wrapA, hd'.1, if_pos (by rw [h8]; decide)]
    right; right
    rw [wrapA_J (by rw [hD]; exact e0'), wrapA_J (by rw [hd'.1]; exact e1'), hD, hd'.1, ez, ep, hd'.2]
    rw [joinK_assoc _ D C' E x y p z (Nat.le_refl _) oD oc od hx hy hp hz]

end Go.Proofs.Ytofogicgnldfhaa
