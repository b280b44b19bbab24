/- A heap with six objects; what calls that write one cell of a box leave as it is. No condition. -/
import Derived.Test.YtpkdbhlpndibkaaET
set_option linter.unusedSimpArgs false
set_option linter.unusedVariables false
namespace Go.Ab
open Go

def six (F : List AObj) (s r c m1 m2 m3 : Nat) (x1 x2 x3 x4 x5 x6 : AObj) : List AObj := stF ((((F.set c x3).set m1 x4).set m2 x5).set m3 x6) s r x1 x2
structure SixD (F : List AObj) (s r c m1 m2 m3 : Nat) : Prop where
  hs : s < F.length
  hr : r < F.length
  hc : c < F.length
  h1 : m1 < F.length
  h2 : m2 < F.length
  h3 : m3 < F.length
  d1 : s ≠ r ∧ s ≠ c ∧ s ≠ m1 ∧ s ≠ m2 ∧ s ≠ m3
  d2 : r ≠ c ∧ r ≠ m1 ∧ r ≠ m2 ∧ r ≠ m3
  d3 : c ≠ m1 ∧ c ≠ m2 ∧ c ≠ m3
  d4 : m1 ≠ m2 ∧ m1 ≠ m3 ∧ m2 ≠ m3
section
variable {F : List AObj} {s r c m1 m2 m3 : Nat}
theorem SixD.app (h : SixD F s r c m1 m2 m3) (J : List AObj) : SixD (F ++ J) s r c m1 m2 m3 := by
  obtain ⟨h1, h2, h3, h4, h5, h6, d1, d2, d3, d4⟩ := h
  exact ⟨by simp; omega, by simp; omega, by simp; omega, by simp; omega, by simp; omega, by simp; omega, d1, d2, d3, d4⟩
@[simp] theorem six_len {x1 x2 x3 x4 x5 x6 : AObj} : (six F s r c m1 m2 m3 x1 x2 x3 x4 x5 x6).length = F.length := by simp [six]
theorem six_app (h : SixD F s r c m1 m2 m3) (J : List AObj) {x1 x2 x3 x4 x5 x6 : AObj} : six F s r c m1 m2 m3 x1 x2 x3 x4 x5 x6 ++ J = six (F ++ J) s r c m1 m2 m3 x1 x2 x3 x4 x5 x6 := by
  obtain ⟨h1, h2, h3, h4, h5, h6, _⟩ := h
  unfold six stF
  rw [app_set (F := F) h3, app_set (by simpa using h4), app_set (by simpa using h5), app_set (by simpa using h6), app_set (by simpa using h1), app_set (by simpa using h2)]
theorem six_get (h : SixD F s r c m1 m2 m3) {x1 x2 x3 x4 x5 x6 : AObj} :
    (six F s r c m1 m2 m3 x1 x2 x3 x4 x5 x6)[s]? = some x1 ∧ (six F s r c m1 m2 m3 x1 x2 x3 x4 x5 x6)[r]? = some x2 ∧ (six F s r c m1 m2 m3 x1 x2 x3 x4 x5 x6)[c]? = some x3 ∧
    (six F s r c m1 m2 m3 x1 x2 x3 x4 x5 x6)[m1]? = some x4 ∧ (six F s r c m1 m2 m3 x1 x2 x3 x4 x5 x6)[m2]? = some x5 ∧ (six F s r c m1 m2 m3 x1 x2 x3 x4 x5 x6)[m3]? = some x6 := by
  obtain ⟨h1, h2, h3, h4, h5, h6, ⟨a1, a2, a3, a4, a5⟩, ⟨b1, b2, b3, b4⟩, ⟨c1, c2, c3⟩, e1, e2, e3⟩ := h
  unfold six stF
  refine ⟨?_, ?_, ?_, ?_, ?_, ?_⟩
  · rw [set_get (by omega), set_get0 (by simpa using h1)]
  · rw [set_get0 (by simpa using h2)]
  · rw [set_get (by omega), set_get (by omega), set_get (by omega), set_get (by omega), set_get (by omega), set_get0 h3]
  · rw [set_get (by omega), set_get (by omega), set_get (by omega), set_get (by omega), set_get0 (by simpa using h4)]
  · rw [set_get (by omega), set_get (by omega), set_get (by omega), set_get0 (by simpa using h5)]
  · rw [set_get (by omega), set_get (by omega), set_get0 (by simpa using h6)]
theorem six_set (h : SixD F s r c m1 m2 m3) {G : List AObj} {x1 x2 x3 x4 x5 x6 y : AObj} :
    (six G s r c m1 m2 m3 x1 x2 x3 x4 x5 x6).set m1 y = six G s r c m1 m2 m3 x1 x2 x3 y x5 x6 ∧ (six G s r c m1 m2 m3 x1 x2 x3 x4 x5 x6).set m2 y = six G s r c m1 m2 m3 x1 x2 x3 x4 y x6 ∧ (six G s r c m1 m2 m3 x1 x2 x3 x4 x5 x6).set m3 y = six G s r c m1 m2 m3 x1 x2 x3 x4 x5 y := by
  obtain ⟨h1, h2, h3, h4, h5, h6, ⟨a1, a2, a3, a4, a5⟩, ⟨b1, b2, b3, b4⟩, ⟨c1, c2, c3⟩, e1, e2, e3⟩ := h
  unfold six stF
  refine ⟨?_, ?_, ?_⟩
  · rw [List.set_comm _ _ b2, List.set_comm _ _ a3, List.set_comm (i := m3) (j := m1) _ _ (fun h => e2 h.symm), List.set_comm (i := m2) (j := m1) _ _ (fun h => e1 h.symm), List.set_set]
  · rw [List.set_comm _ _ b3, List.set_comm _ _ a4, List.set_comm (i := m3) (j := m2) _ _ (fun h => e3 h.symm), List.set_set]
  · rw [List.set_comm _ _ b4, List.set_comm _ _ a5, List.set_set]
theorem six_oth (h : SixD F s r c m1 m2 m3) {q : Nat} (h1 : s ≠ q) (h2 : r ≠ q) (h3 : c ≠ q) (h4 : m1 ≠ q) (h5 : m2 ≠ q) (h6 : m3 ≠ q) {x1 x2 x3 x4 x5 x6 : AObj} : (six F s r c m1 m2 m3 x1 x2 x3 x4 x5 x6)[q]? = F[q]? := by
  unfold six stF
  rw [set_get h2, set_get h1, set_get h6, set_get h5, set_get h4, set_get h3]
theorem six_oset {q : Nat} (h1 : s ≠ q) (h2 : r ≠ q) (h3 : c ≠ q) (h4 : m1 ≠ q) (h5 : m2 ≠ q) (h6 : m3 ≠ q) {x1 x2 x3 x4 x5 x6 y : AObj} : (six F s r c m1 m2 m3 x1 x2 x3 x4 x5 x6).set q y = six (F.set q y) s r c m1 m2 m3 x1 x2 x3 x4 x5 x6 := by
  unfold six stF
  rw [List.set_comm _ _ h2, List.set_comm _ _ h1, List.set_comm _ _ h6, List.set_comm _ _ h5, List.set_comm _ _ h4, List.set_comm _ _ h3]
theorem six_sets (h : SixD F s r c m1 m2 m3) {G : List AObj} {x1 x2 x3 x4 x5 x6 y : AObj} :
    (six G s r c m1 m2 m3 x1 x2 x3 x4 x5 x6).set s y = six G s r c m1 m2 m3 y x2 x3 x4 x5 x6 ∧ (six G s r c m1 m2 m3 x1 x2 x3 x4 x5 x6).set r y = six G s r c m1 m2 m3 x1 y x3 x4 x5 x6 := by
  unfold six
  exact ⟨stF_set_s (fun e => h.d1.1 e.symm), stF_set_r⟩
/-- All about such a heap, with locals behind it. -/
theorem sixP (h : SixD F s r c m1 m2 m3) :
    (∀ x1 x2 x3 x4 x5 x6, (six F s r c m1 m2 m3 x1 x2 x3 x4 x5 x6).length = F.length) ∧ (∀ L x1 x2 x3 x4 x5 x6, (six (F ++ L) s r c m1 m2 m3 x1 x2 x3 x4 x5 x6).length = F.length + L.length) ∧
    (∀ L x1 x2 x3 x4 x5 x6, six F s r c m1 m2 m3 x1 x2 x3 x4 x5 x6 ++ L = six (F ++ L) s r c m1 m2 m3 x1 x2 x3 x4 x5 x6) ∧ (∀ L M x1 x2 x3 x4 x5 x6, six (F ++ L) s r c m1 m2 m3 x1 x2 x3 x4 x5 x6 ++ M = six (F ++ (L ++ M)) s r c m1 m2 m3 x1 x2 x3 x4 x5 x6) ∧
    (∀ x1 x2 x3 x4 x5 x6, (six F s r c m1 m2 m3 x1 x2 x3 x4 x5 x6)[s]? = some x1) ∧ (∀ L x1 x2 x3 x4 x5 x6, (six (F ++ L) s r c m1 m2 m3 x1 x2 x3 x4 x5 x6)[s]? = some x1) ∧
    (∀ x1 x2 x3 x4 x5 x6, (six F s r c m1 m2 m3 x1 x2 x3 x4 x5 x6)[r]? = some x2) ∧ (∀ L x1 x2 x3 x4 x5 x6, (six (F ++ L) s r c m1 m2 m3 x1 x2 x3 x4 x5 x6)[r]? = some x2) ∧
    (∀ x1 x2 x3 x4 x5 x6, (six F s r c m1 m2 m3 x1 x2 x3 x4 x5 x6)[c]? = some x3) ∧ (∀ L x1 x2 x3 x4 x5 x6, (six (F ++ L) s r c m1 m2 m3 x1 x2 x3 x4 x5 x6)[c]? = some x3) ∧
    (∀ x1 x2 x3 x4 x5 x6, (six F s r c m1 m2 m3 x1 x2 x3 x4 x5 x6)[m1]? = some x4) ∧ (∀ L x1 x2 x3 x4 x5 x6, (six (F ++ L) s r c m1 m2 m3 x1 x2 x3 x4 x5 x6)[m1]? = some x4) ∧
    (∀ x1 x2 x3 x4 x5 x6, (six F s r c m1 m2 m3 x1 x2 x3 x4 x5 x6)[m2]? = some x5) ∧ (∀ L x1 x2 x3 x4 x5 x6, (six (F ++ L) s r c m1 m2 m3 x1 x2 x3 x4 x5 x6)[m2]? = some x5) ∧
    (∀ x1 x2 x3 x4 x5 x6, (six F s r c m1 m2 m3 x1 x2 x3 x4 x5 x6)[m3]? = some x6) ∧ (∀ L x1 x2 x3 x4 x5 x6, (six (F ++ L) s r c m1 m2 m3 x1 x2 x3 x4 x5 x6)[m3]? = some x6) ∧
    (∀ G x1 x2 x3 x4 x5 x6 y, (six G s r c m1 m2 m3 x1 x2 x3 x4 x5 x6).set m1 y = six G s r c m1 m2 m3 x1 x2 x3 y x5 x6) ∧ (∀ G x1 x2 x3 x4 x5 x6 y, (six G s r c m1 m2 m3 x1 x2 x3 x4 x5 x6).set m2 y = six G s r c m1 m2 m3 x1 x2 x3 x4 y x6) ∧ (∀ G x1 x2 x3 x4 x5 x6 y, (six G s r c m1 m2 m3 x1 x2 x3 x4 x5 x6).set m3 y = six G s r c m1 m2 m3 x1 x2 x3 x4 x5 y) ∧
    (∀ L x1 x2 x3 x4 x5 x6, (six (F ++ L) s r c m1 m2 m3 x1 x2 x3 x4 x5 x6)[F.length]? = L[0]?) ∧ (∀ L j x1 x2 x3 x4 x5 x6, (six (F ++ L) s r c m1 m2 m3 x1 x2 x3 x4 x5 x6)[F.length + j]? = L[j]?) ∧
    (∀ L x1 x2 x3 x4 x5 x6 y, (six (F ++ L) s r c m1 m2 m3 x1 x2 x3 x4 x5 x6).set F.length y = six (F ++ L.set 0 y) s r c m1 m2 m3 x1 x2 x3 x4 x5 x6) ∧ (∀ L j x1 x2 x3 x4 x5 x6 y, (six (F ++ L) s r c m1 m2 m3 x1 x2 x3 x4 x5 x6).set (F.length + j) y = six (F ++ L.set j y) s r c m1 m2 m3 x1 x2 x3 x4 x5 x6) ∧
    (∀ x1 x2 x3 x4 x5 x6, (six F s r c m1 m2 m3 x1 x2 x3 x4 x5 x6).take F.length = six F s r c m1 m2 m3 x1 x2 x3 x4 x5 x6) ∧ (∀ L x1 x2 x3 x4 x5 x6, (six (F ++ L) s r c m1 m2 m3 x1 x2 x3 x4 x5 x6).take F.length = six F s r c m1 m2 m3 x1 x2 x3 x4 x5 x6) ∧
    (∀ x1 x2 x3 x4 x5 x6, ((F.length ≤ (six F s r c m1 m2 m3 x1 x2 x3 x4 x5 x6).length) = True)) ∧ (∀ L x1 x2 x3 x4 x5 x6, ((F.length ≤ (six (F ++ L) s r c m1 m2 m3 x1 x2 x3 x4 x5 x6).length) = True)) ∧
    (∀ G x1 x2 x3 x4 x5 x6 y, (six G s r c m1 m2 m3 x1 x2 x3 x4 x5 x6).set s y = six G s r c m1 m2 m3 y x2 x3 x4 x5 x6) ∧ (∀ G x1 x2 x3 x4 x5 x6 y, (six G s r c m1 m2 m3 x1 x2 x3 x4 x5 x6).set r y = six G s r c m1 m2 m3 x1 y x3 x4 x5 x6) := by
  have h1 := h.hs
  have h2 := h.hr
  have h3 := h.hc
  have h4 := h.h1
  have h5 := h.h2
  have h6 := h.h3
  refine ⟨fun _ _ _ _ _ _ => six_len, fun L _ _ _ _ _ _ => by rw [six_len, List.length_append], fun J _ _ _ _ _ _ => six_app h J, fun J M _ _ _ _ _ _ => by rw [six_app (h.app J), List.append_assoc],
    fun _ _ _ _ _ _ => (six_get h).1, fun J _ _ _ _ _ _ => (six_get (h.app J)).1, fun _ _ _ _ _ _ => (six_get h).2.1, fun J _ _ _ _ _ _ => (six_get (h.app J)).2.1, fun _ _ _ _ _ _ => (six_get h).2.2.1, fun J _ _ _ _ _ _ => (six_get (h.app J)).2.2.1,
    fun _ _ _ _ _ _ => (six_get h).2.2.2.1, fun J _ _ _ _ _ _ => (six_get (h.app J)).2.2.2.1, fun _ _ _ _ _ _ => (six_get h).2.2.2.2.1, fun J _ _ _ _ _ _ => (six_get (h.app J)).2.2.2.2.1, fun _ _ _ _ _ _ => (six_get h).2.2.2.2.2, fun J _ _ _ _ _ _ => (six_get (h.app J)).2.2.2.2.2,
    fun _ _ _ _ _ _ _ _ => (six_set h).1, fun _ _ _ _ _ _ _ _ => (six_set h).2.1, fun _ _ _ _ _ _ _ _ => (six_set h).2.2, fun J _ _ _ _ _ _ => ?_, fun J j _ _ _ _ _ _ => ?_, fun J _ _ _ _ _ _ y => ?_, fun J j _ _ _ _ _ _ y => ?_,
    fun _ _ _ _ _ _ => ?_, fun J _ _ _ _ _ _ => ?_, fun _ _ _ _ _ _ => by simp [six_len], fun J _ _ _ _ _ _ => by simp [six_len], fun _ _ _ _ _ _ _ _ => (six_sets h).1, fun _ _ _ _ _ _ _ _ => (six_sets h).2⟩
  · rw [six_oth (h.app J) (by omega) (by omega) (by omega) (by omega) (by omega) (by omega), app_get0c rfl]
  · rw [six_oth (h.app J) (by omega) (by omega) (by omega) (by omega) (by omega) (by omega), app_getkc rfl]
  · rw [six_oset (by omega) (by omega) (by omega) (by omega) (by omega) (by omega), app_set0c rfl]
  · rw [six_oset (by omega) (by omega) (by omega) (by omega) (by omega) (by omega), app_setkc rfl]
  · rw [List.take_of_length_le]; rw [six_len]; exact Nat.le_refl _
  · rw [← six_app h J, List.take_left' six_len]
/-- Older objects refer to no younger ones, as before. -/
theorem six_bel {b : Nat} {x1 x2 x3 x4 x5 x6 y1 y2 y4 y5 y6 : AObj} (h : SixD F s r c m1 m2 m3) (h1 : x1.bel b = true → y1.bel b = true) (h2 : y2.bel b = true) (h4 : y4.bel b = true) (h5 : y5.bel b = true) (h6 : x6.bel b = true → y6.bel b = true)
    (hb : ∀ x ∈ (six F s r c m1 m2 m3 x1 x2 x3 x4 x5 x6).take b, x.bel b = true) : ∀ x ∈ (six F s r c m1 m2 m3 y1 y2 x3 y4 y5 y6).take b, x.bel b = true := by
  have key : ∀ i, i < b → ∀ y, (six F s r c m1 m2 m3 x1 x2 x3 x4 x5 x6)[i]? = some y → y.bel b = true := fun i hi y e => hb y (List.mem_iff_getElem?.2 ⟨i, by rw [List.getElem?_take_of_lt hi]; exact e⟩)
  intro x hx
  obtain ⟨i, e⟩ := List.mem_iff_getElem?.1 hx
  by_cases hi : i < b
  · rw [List.getElem?_take_of_lt hi] at e
    have g := six_get h (x1 := y1) (x2 := y2) (x3 := x3) (x4 := y4) (x5 := y5) (x6 := y6)
    have g' := six_get h (x1 := x1) (x2 := x2) (x3 := x3) (x4 := x4) (x5 := x5) (x6 := x6)
    by_cases e1 : s = i
    · subst e1; rw [g.1] at e; cases e; exact h1 (key _ hi _ g'.1)
    · by_cases e2 : r = i
      · subst e2; rw [g.2.1] at e; cases e; exact h2
      · by_cases e3 : c = i
        · subst e3; rw [g.2.2.1] at e; cases e; exact key _ hi _ g'.2.2.1
        · by_cases e4 : m1 = i
          · subst e4; rw [g.2.2.2.1] at e; cases e; exact h4
          · by_cases e5 : m2 = i
            · subst e5; rw [g.2.2.2.2.1] at e; cases e; exact h5
            · by_cases e6 : m3 = i
              · subst e6; rw [g.2.2.2.2.2] at e; cases e; exact h6 (key _ hi _ g'.2.2.2.2.2)
              · rw [six_oth h e1 e2 e3 e4 e5 e6] at e
                exact key _ hi _ (by rw [six_oth h e1 e2 e3 e4 e5 e6]; exact e)
  · rw [List.getElem?_eq_none (by simp; omega)] at e; cases e
/-- One cell of the first box turns. -/
theorem six_bag (h : SixD F s r c m1 m2 m3) {cs cs' : List AV} {v1 v2 z1 z2 : Nat} {es1 es2 : List AV} {x3 x6 : AObj} {a1 a2 b1 b2 : List (AV × AV)} (hl : cs'.length = cs.length) (hq : ∀ q, q ≠ 0 → cs'.getD q .any = cs.getD q .any) :
    BoxAg (six F s r c m1 m2 m3 (.box cs) (.arr v1 z1 es1) x3 (.map a1) (.map b1) x6) (six F s r c m1 m2 m3 (.box cs') (.arr v2 z2 es2) x3 (.map a2) (.map b2) x6) s 0 := by
  refine ⟨by simp, fun q => ?_⟩
  have g := six_get h (x1 := .box cs) (x2 := .arr v1 z1 es1) (x3 := x3) (x4 := .map a1) (x5 := .map b1) (x6 := x6)
  have g' := six_get h (x1 := .box cs') (x2 := .arr v2 z2 es2) (x3 := x3) (x4 := .map a2) (x5 := .map b2) (x6 := x6)
  by_cases e1 : s = q
  · subst e1
    rw [g.1, g'.1]
    exact ⟨fun x hx => ⟨cs', rfl, by cases hx; exact ⟨hl, fun q k => hq q (k rfl)⟩⟩, fun x hx => ⟨cs, rfl, by cases hx; exact ⟨hl, fun q k => hq q (k rfl)⟩⟩⟩
  · by_cases e2 : r = q
    · subst e2; rw [g.2.1, g'.2.1]; exact ⟨fun x hx => (by cases hx), fun x hx => (by cases hx)⟩
    · by_cases e3 : c = q
      · subst e3; rw [g.2.2.1, g'.2.2.1]; exact ⟨fun x hx => ⟨x, hx, rfl, fun _ _ => rfl⟩, fun x hx => ⟨x, hx, rfl, fun _ _ => rfl⟩⟩
      · by_cases e4 : m1 = q
        · subst e4; rw [g.2.2.2.1, g'.2.2.2.1]; exact ⟨fun x hx => (by cases hx), fun x hx => (by cases hx)⟩
        · by_cases e5 : m2 = q
          · subst e5; rw [g.2.2.2.2.1, g'.2.2.2.2.1]; exact ⟨fun x hx => (by cases hx), fun x hx => (by cases hx)⟩
          · by_cases e6 : m3 = q
            · subst e6; rw [g.2.2.2.2.2, g'.2.2.2.2.2]; exact ⟨fun x hx => ⟨x, hx, rfl, fun _ _ => rfl⟩, fun x hx => ⟨x, hx, rfl, fun _ _ => rfl⟩⟩
            · rw [six_oth h e1 e2 e3 e4 e5 e6, six_oth h e1 e2 e3 e4 e5 e6]; exact ⟨fun x hx => ⟨x, hx, rfl, fun _ _ => rfl⟩, fun x hx => ⟨x, hx, rfl, fun _ _ => rfl⟩⟩
end
theorem zfrI {C : Cfg} {e : Nat → AV} {F F' : List AObj} {b n g : Nat} (hz : C.zfr = some (0, 0)) (he : e 0 = .bptr g 0) (h : BoxAg F F' g 0) : ZFr C (FS e F b n) F' := by
  unfold ZFr
  rw [hz]
  intro r0 h0
  have : e 0 = .bptr r0 0 := h0
  rw [he] at this
  cases this
  rw [fs_HL]; exact h
theorem exB {g o : Nat} {p : Nat → Prop} : (∃ r0, AV.bptr g o = AV.bptr r0 0 ∧ p r0) = (o = 0 ∧ p g) := by
  simp only [eq_iff_iff]
  constructor
  · rintro ⟨r0, h1, h2⟩; cases h1; exact ⟨rfl, h2⟩
  · rintro ⟨rfl, h2⟩; exact ⟨g, rfl, h2⟩
theorem exB0 {g : Nat} : (∃ r0, AV.bptr g 0 = AV.bptr r0 0) = True := by simp only [eq_iff_iff, iff_true]; exact ⟨g, rfl⟩
theorem ldOK_t (r0 o0 n : Nat) : LdOK r0 o0 (.tup []) n = True := rfl
theorem ldOK_b (r0 o0 r off n : Nat) : LdOK r0 o0 (.bptr r off) n = (r = r0 → o0 < off ∨ off + n ≤ o0) := rfl

end Go.Ab
