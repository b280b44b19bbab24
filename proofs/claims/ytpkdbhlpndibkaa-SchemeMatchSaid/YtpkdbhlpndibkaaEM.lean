/- Layer 11: matching: plain laws about the binds of the statements. No condition. -/
import Derived.Test.YtpkdbhlpndibkaaEC
set_option linter.unusedSimpArgs false
set_option linter.unusedVariables false
namespace Go.Proofs.Ytpkdbhlpndibkaa
open Go Go.Ab

theorem lookB_nodup : ∀ {L : List Bd}, (L.map Prod.fst).Nodup → ∀ p ∈ L, lookB L p.1 = some p.2 := by
  intro L
  induction L with
  | nil => intro _ p hp; cases hp
  | cons a L ih =>
    intro hn p hp
    rw [List.map_cons, List.nodup_cons] at hn
    rw [lookB]
    rcases List.mem_cons.1 hp with rfl | hp
    · rw [if_pos rfl]
    · rw [if_neg fun e => hn.1 (List.mem_map.2 ⟨p, hp, e.symm⟩)]
      exact ih hn.2 p hp
noncomputable def gT (l : List Ty) (c : Bool) (i : Nat) : T := if l.length = 0 then .base 0 else plainS c (tOf (l.getD (i % l.length) default))
theorem statG_eq (vs : List Int) (l : List Ty) (c : Bool) (i : Nat) : statG vs l c i = (vs.getD i 0, (gT l c i).ty) := by
  unfold statG gT
  split <;> rfl
theorem statB_fst (vs : List Int) (l : List Ty) (c : Bool) : (statB vs l c).map Prod.fst = vs := by
  apply List.ext_getElem (by simp [statB])
  intro i h1 h2
  simp [statB, statG, h2]
theorem plainS_stat (c : Bool) : ∀ x : T, (plainS c x).stat = true := by
  intro x
  induction x <;> cases c <;> simp_all [plainS, T.stat]
theorem gT_stat (l : List Ty) (c : Bool) (i : Nat) : (gT l c i).stat = true := by
  unfold gT
  split
  · rfl
  · exact plainS_stat _ _
theorem sig_stat {vs : List Int} (hn : vs.Nodup) (l : List Ty) (c : Bool) {n : Int} (h : n ∈ vs) : ∃ i, sigB (statB vs l c) n = gT l c i ∧ (n, (gT l c i).ty) ∈ statB vs l c := by
  obtain ⟨i, hi, e⟩ := List.mem_iff_getElem.1 h
  have hm : statG vs l c i ∈ statB vs l c := List.mem_map.2 ⟨i, List.mem_range.2 hi, rfl⟩
  have hl := lookB_nodup (L := statB vs l c) (by rw [statB_fst]; exact hn) _ hm
  rw [statG_eq] at hl hm
  have e1 : vs.getD i 0 = n := by rw [← e]; simp [hi]
  rw [e1] at hl hm
  exact ⟨i, by rw [sigB, hl]; exact tOf_ty _, hm⟩
theorem statB_binds {vs : List Int} (hn : vs.Nodup) (l : List Ty) (c : Bool) : bdL (bindsOf (sigB (statB vs l c)) vs) = statB vs l c := by
  conv => lhs; rw [← statB_fst vs l c]
  rw [statB_fst vs l c]
  unfold bdL bindsOf
  apply List.ext_getElem (by simp [statB])
  intro i h1 h2
  have hi : i < vs.length := by simpa [statB] using h2
  have hm : statG vs l c i ∈ statB vs l c := List.mem_map.2 ⟨i, List.mem_range.2 hi, rfl⟩
  have hl := lookB_nodup (L := statB vs l c) (by rw [statB_fst]; exact hn) _ hm
  rw [statG_eq] at hl
  have e1 : vs.getD i 0 = vs[i] := by simp [hi]
  rw [e1] at hl
  have hs : sigB (statB vs l c) vs[i] = gT l c i := by rw [sigB, hl]; exact tOf_ty _
  simp only [List.map_map, List.getElem_map, Function.comp_apply, hs]
  have e2 : (statB vs l c)[i] = statG vs l c i := by simp [statB]
  rw [e2, statG_eq, e1]
theorem statB_okBs {x : T} (hx : x.ok = true) {l : List Ty} (hl : ∀ y ∈ l, right y = true) (c : Bool) : okBs (statB (x.varsF []) l c) = true := by
  refine List.all_eq_true.2 fun p hp => ?_
  obtain ⟨i, hi, rfl⟩ := List.mem_map.1 hp
  have hi := List.mem_range.1 hi
  have h1 := has_ok hx ((x.varsF []).getD i 0) (mem_vars0.1 (by simp [hi]))
  have h2 := statG_right (vs := x.varsF []) (c := c) hl i
  have h3 : (statG (x.varsF []) l c i).1 = (x.varsF []).getD i 0 := rfl
  simp only [okBd, h2, Bool.and_true, Bool.and_eq_true]
  rw [h3]
  exact ⟨decide_eq_true h1.1, decide_eq_true h1.2⟩
theorem match_okL : ∀ (a u : T) (L L' : List BT), u.ok = true → (∀ p ∈ L, p.2.ok = true) → matchT a u L = some L' → ∀ p ∈ L', p.2.ok = true := by
  intro a
  induction a with
  | base k =>
    intro u L L' hu hL h
    cases u <;> simp only [matchT, reduceCtorEq] at h
    split at h
    · cases h; exact hL
    · cases h
  | dyn =>
    intro u L L' hu hL h
    cases u <;> simp only [matchT, reduceCtorEq] at h
    cases h; exact hL
  | var n =>
    intro u L L' hu hL h
    rw [matchT] at h
    split at h
    · split at h
      · cases h; exact hL
      · cases h
    · split at h
      · cases h
        intro p hp
        rcases List.mem_append.1 hp with hp | hp
        · exact hL p hp
        · simp only [List.mem_singleton] at hp; subst hp; exact hu
      · cases h
  | pair a b ih1 ih2 =>
    intro u L L' hu hL h
    cases u <;> simp only [matchT, reduceCtorEq] at h
    simp only [T.ok, Bool.and_eq_true] at hu
    obtain ⟨L1, h1, h2⟩ := Option.bind_eq_some_iff.1 h
    exact ih2 _ _ _ hu.2 (ih1 _ _ _ hu.1 hL h1) h2
  | fn a b ih1 ih2 =>
    intro u L L' hu hL h
    cases u <;> simp only [matchT, reduceCtorEq] at h
    simp only [T.ok, Bool.and_eq_true] at hu
    obtain ⟨L1, h1, h2⟩ := Option.bind_eq_some_iff.1 h
    exact ih2 _ _ _ hu.2 (ih1 _ _ _ hu.1 hL h1) h2
  | list a ih1 =>
    intro u L L' hu hL h
    cases u <;> simp only [matchT, reduceCtorEq] at h
    simp only [T.ok] at hu
    exact ih1 _ _ _ hu hL h
theorem lookB_bdL (n : Int) : ∀ L : List BT, lookB (bdL L) n = (lookT L n).map T.ty
  | [] => rfl
  | p :: L => by
    simp only [bdL, List.map_cons, lookB, lookT]
    split
    · rfl
    · exact lookB_bdL n L
theorem sigB_bdL (L : List BT) : sigB (bdL L) = sigT L := by
  funext n
  rw [sigB, lookB_bdL, sigT]
  cases lookT L n with
  | none => rfl
  | some v => exact tOf_ty v
theorem bdL_okBs {x y : T} (hx : x.ok = true) (hy : y.ok = true) {L : List BT} (h : matchT x y [] = some L) : okBs (bdL L) = true ∧ putS (sigB (bdL L)) x = y ∧ ∀ p ∈ L, p.2.stat = true := by
  obtain ⟨m, e, h1, h2, h3⟩ := match_sound x y [] L h
  rw [List.nil_append] at e
  subst e
  have hok := match_okL x y [] L hy (fun p hp => by cases hp) h
  refine ⟨List.all_eq_true.2 fun q hq => ?_, by rw [sigB_bdL]; exact h3, fun p hp => (h1 p hp).1⟩
  obtain ⟨p, hp, rfl⟩ := List.mem_map.1 hq
  have hr := has_ok hx p.1 (h1 p hp).2
  simp only [okBd, T.right_ty, hok p hp, Bool.and_true, Bool.and_eq_true]
  exact ⟨decide_eq_true hr.1, decide_eq_true hr.2⟩

end Go.Proofs.Ytpkdbhlpndibkaa
