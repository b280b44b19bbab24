/- Plain laws: grounds. No condition. -/
import Derived.Test.YtcpfjabjonpdaaaF7
import Derived.Test.YtcpfjabjonpdaaaM4
set_option linter.unusedSimpArgs false
set_option linter.unusedVariables false
namespace Go.Proofs.Ytcpfjabjonpdaaa
open Go Go.Ab

theorem ground_len (a : Ty) : (ground a).kids.length = a.kids.length := by simp [ground, Ty.kids]
theorem ground_kid {a : Ty} {i : Nat} (hi : i < a.kids.length) : (ground a).kid i = dynT := by
  have h : (List.replicate a.kids.length dynT)[i]? = some dynT := by rw [List.getElem?_replicate]; simp [hi]
  show (List.replicate a.kids.length dynT).getD i default = dynT
  rw [List.getD_eq_getElem?_getD, h]; rfl
theorem ground_kind (a : Ty) : (ground a).kind = a.kind := rfl
theorem ground_num (a : Ty) : (ground a).num = 0 := rfl
theorem head_ne {a : Ty} (h : headK a.kind = true) : a.kind ≠ 5 ∧ a.kind ≠ 6 := by
  simp only [headK, decide_eq_true_eq] at h; omega
theorem ground_right {a : Ty} (ha : right a = true) (hk : headK a.kind = true) : right (ground a) = true := by
  have h6 := head_ne hk
  refine right_mk (okN_of (a := a) rfl ?_ (ground_len a) (right_okN ha)) fun i hi => ?_
  · rw [ground_num, right_num ha h6.2]
  · rw [ground_len] at hi; rw [ground_kid hi]; rfl
theorem groundT_eq {a : Ty} (ha : right a = true) (hk : headK a.kind = true) : groundT a = ground a := by simp [groundT, ha, hk]
theorem ground_ground {a : Ty} : ground (ground a) = ground a := by
  refine Ty.ext' rfl rfl (ground_len (ground a)).symm fun i hi => ?_
  rw [ground_len] at hi
  rw [ground_kid hi]
  rw [ground_len] at hi
  rw [ground_kid hi]
theorem below_ground {a : Ty} (ha : right a = true) (hk : headK a.kind = true) : below a (ground a) = true := by
  have h6 := head_ne hk
  refine below_iff.2 (.inr ⟨h6.1, rfl, by rw [ground_num, right_num ha h6.2], fun i hi => ?_⟩)
  rw [ground_kid hi]; exact below_dyn _ rfl
theorem ground_eq {a b : Ty} (ha : right a = true) (hb : right b = true) (h : a.kind = b.kind) : ground a = ground b := by
  simp only [ground, h, right_len ha hb h]
theorem ground_same {a b : Ty} (ha : right a = true) (hb : right b = true) : same (ground a) (ground b) = (a.kind == b.kind) := by
  by_cases h : a.kind = b.kind
  · rw [ground_eq ha hb h, same_refl]; simp [h]
  · have : (a.kind == b.kind) = false := by simp [h]
    rw [this, ← Bool.not_eq_true, same_true]
    exact fun e => h (show (ground a).kind = (ground b).kind by rw [e])
theorem ground_agree {a b : Ty} (ha : right a = true) (hb : right b = true) (hka : headK a.kind = true) (hkb : headK b.kind = true) : agree (ground a) (ground b) = (a.kind == b.kind) := by
  by_cases h : a.kind = b.kind
  · rw [ground_eq ha hb h, agree_refl (ground_right hb hkb)]; simp [h]
  · have : (a.kind == b.kind) = false := by simp [h]
    rw [this, ← Bool.not_eq_true, agree_iff]
    rintro (⟨h1, _⟩ | ⟨_, h1, _⟩ | ⟨_, _, h1, _⟩)
    · exact (head_ne hka).1 h1
    · exact (head_ne hkb).1 h1
    · exact h h1
theorem ground_below {a b : Ty} (ha : right a = true) (hb : right b = true) (hka : headK a.kind = true) (hkb : headK b.kind = true) : below a (ground b) = (a.kind == b.kind) := by
  by_cases h : a.kind = b.kind
  · rw [← ground_eq ha hb h, below_ground ha hka]; simp [h]
  · have : (a.kind == b.kind) = false := by simp [h]
    rw [this, ← Bool.not_eq_true, below_iff]
    rintro (h1 | ⟨_, h1, _⟩)
    · exact (head_ne hkb).1 h1
    · exact h h1
theorem nodesL_dyn : ∀ n, nodesL (List.replicate n dynT) = n
  | 0 => rfl
  | n + 1 => by rw [List.replicate_succ, nodesL, nodesL_dyn n]; simp [dynT, nodes, nodesL]; omega
theorem ground_nodes (a : Ty) : nodes (ground a) ≤ nodes a := by
  rw [nodes_eq a, nodes_eq (ground a)]
  have : nodesL (ground a).kids = a.kids.length := nodesL_dyn _
  have := length_le_nodesL a.kids
  omega

end Go.Proofs.Ytcpfjabjonpdaaa
