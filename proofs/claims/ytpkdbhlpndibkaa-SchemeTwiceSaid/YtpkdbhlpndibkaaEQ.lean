/- Layer 11: twice: plain laws. No condition. -/
import Derived.Test.YtpkdbhlpndibkaaEP
set_option linter.unusedSimpArgs false
set_option linter.unusedVariables false
namespace Go.Proofs.Ytpkdbhlpndibkaa
open Go Go.Ab

theorem normL_app : ∀ a b : List AV, AV.normL (a ++ b) = AV.normL a ++ AV.normL b
  | [], b => by simp [AV.normL]
  | x :: a, b => by simp only [List.cons_append, AV.normL, normL_app a b]
noncomputable def toT (l : List Bd) : List BT := l.map fun p => (p.1, tOf p.2)
theorem okBs_mem {l : List Bd} (h : okBs l = true) {p : Bd} (hp : p ∈ l) : right p.2 = true := by
  have := List.all_eq_true.1 h p hp
  simp only [okBd, Bool.and_eq_true] at this
  exact this.2
theorem bdL_toT {l : List Bd} (h : okBs l = true) : bdL (toT l) = l := by
  unfold bdL toT
  rw [List.map_map]
  conv => rhs; rw [← List.map_id l]
  apply List.map_congr_left
  intro p hp
  obtain ⟨x, hx, _⟩ := T.of_right' (okBs_mem h hp)
  obtain ⟨v, t⟩ := p
  simp only at hx
  subst hx
  simp [tOf_ty]
theorem sigB_toT {l : List Bd} (h : okBs l = true) : sigB l = sigT (toT l) := by
  conv => lhs; rw [← bdL_toT h]
  exact sigB_bdL _
theorem toT_app (l m : List Bd) : toT (l ++ m) = toT l ++ toT m := by simp [toT]
theorem okBs_app {l m : List Bd} (hl : okBs l = true) (hm : okBs m = true) : okBs (l ++ m) = true := by simp [okBs, List.all_append] at *; exact ⟨hl, hm⟩
theorem lookB_mem2 {l : List Bd} {n : Int} {t : Ty} (h : lookB l n = some t) : (n, t) ∈ l := by
  induction l with
  | nil => cases h
  | cons p l ih =>
    rw [lookB] at h
    split at h
    · rename_i e; cases h; subst e; exact List.mem_cons_self
    · exact List.mem_cons_of_mem _ (ih h)
theorem putB_ok {l : List Bd} (h : okBs l = true) {x : T} (hx : x.ok = true) : (putS (sigB l) x).ok = true := by
  refine putS_ok (fun n hn => ?_) x hx
  simp only [sigB]
  cases hlk : lookB l n with
  | none => exact hn
  | some t' =>
    obtain ⟨z, hz, hzo⟩ := T.of_right' (okBs_mem h (lookB_mem2 hlk))
    simp only at hz
    subst hz
    simp only [tOf_ty]; exact hzo
theorem twice_ty {l m : List Bd} (hl : okBs l = true) (hm : okBs m = true) (hc : ∀ i, i < l.length → without 6 (l.getD i default).2 = true) (x : T) : putS (sigB m) (putS (sigB l) x) = putS (sigB (l ++ m)) x := by
  rw [sigB_toT hl, sigB_toT hm, sigB_toT (okBs_app hl hm), toT_app]
  refine put_twice (fun p hp => ?_) x
  obtain ⟨q, hq, rfl⟩ := List.mem_map.1 hp
  obtain ⟨i, hi, e⟩ := List.mem_iff_getElem.1 hq
  have h1 := hc i hi
  have h2 : l.getD i default = q := by rw [← e]; simp [hi]
  rw [h2] at h1
  obtain ⟨z, hz, hzo⟩ := T.of_right' (okBs_mem hl hq)
  rw [hz, T.closed_ty] at h1
  simp only [hz, tOf_ty]; exact h1
theorem put_nil (x : T) : putS (sigB []) x = x := by
  have : sigB [] = sigT [] := by funext n; rfl
  rw [this]; exact put_none x

end Go.Proofs.Ytpkdbhlpndibkaa
