/- What solving gives, put into plain words. No condition. -/
import Derived.Test.YtdngjamjccjlmaaPBd
import Derived.Test.YtdngjamjccjlmaaPEb
set_option linter.unusedSimpArgs false
set_option linter.unusedVariables false
namespace Go.Proofs.Ytdngjamjccjlmaa
open Go Go.Ab

theorem ok_of_has : ∀ a : T, (∀ z, a.has z = true → 0 ≤ z ∧ z ≤ 1048576) → a.ok = true := by
  intro a
  induction a with
  | var n => intro h; have := h n (by simp [T.has]); simp [T.ok, this.1, this.2]
  | pair a b ih1 ih2 => intro h; simp only [T.ok, Bool.and_eq_true]; exact ⟨ih1 fun z hz => h z (by simp [T.has, hz]), ih2 fun z hz => h z (by simp [T.has, hz])⟩
  | fn a b ih1 ih2 => intro h; simp only [T.ok, Bool.and_eq_true]; exact ⟨ih1 fun z hz => h z (by simp [T.has, hz]), ih2 fun z hz => h z (by simp [T.has, hz])⟩
  | list a ih1 => intro h; exact ih1 fun z hz => h z (by simp [T.has, hz])
  | _ => intro _; rfl
theorem Wf.tT_ok {S : St} (hw : Wf S) (hl : S.length ≤ 1000000) {n : Nat} (hn : n < S.length) : (S.tT n).ok = true :=
  ok_of_has _ fun z hz => by
    obtain ⟨m, rfl, h1, _⟩ := hw.has_nat n hn z hz
    omega
theorem closed_put {σ : Int → T} : ∀ a : T, (∀ n, a.has n = true → (σ n).closed = true) → (putS σ a).closed = true := by
  intro a
  induction a with
  | var n => intro h; exact h n (by simp [T.has])
  | pair a b ih1 ih2 => intro h; simp only [putS, T.closed, Bool.and_eq_true]; exact ⟨ih1 fun z hz => h z (by simp [T.has, hz]), ih2 fun z hz => h z (by simp [T.has, hz])⟩
  | fn a b ih1 ih2 => intro h; simp only [putS, T.closed, Bool.and_eq_true]; exact ⟨ih1 fun z hz => h z (by simp [T.has, hz]), ih2 fun z hz => h z (by simp [T.has, hz])⟩
  | list a ih1 => intro h; exact ih1 fun z hz => h z (by simp [T.has, hz])
  | _ => intro _; rfl
theorem rowOf_has {k : Int} : ∀ {l : List (T × T)} {p : T × T}, p ∈ l → p.1.has k = true ∨ p.2.has k = true → (rowOf l).has k = true
  | q :: l, p, hp, h => by
    rcases List.mem_cons.1 hp with rfl | hp
    · simp only [rowOf, T.has, Bool.or_eq_true]; exact .inl h
    · simp only [rowOf, T.has, Bool.or_eq_true]; exact .inr (rowOf_has hp h)
theorem rowOf_ok {l : List (T × T)} (h : (rowOf l).ok = true) {p : T × T} (hp : p ∈ l) : p.1.ok = true ∧ p.2.ok = true := by
  induction l with
  | nil => cases hp
  | cons q l ih =>
    simp only [rowOf, T.ok, Bool.and_eq_true] at h
    rcases List.mem_cons.1 hp with rfl | hp
    · exact h.1
    · exact ih h.2 hp
theorem rowOf_ty_drop {l : List (T × T)} {i : Nat} (h : i < l.length) : (rowOf (l.drop i)).ty = .mk 7 0 [.mk 7 0 [(l.getD i default).1.ty, (l.getD i default).2.ty], (rowOf (l.drop (i + 1))).ty] := by
  rw [List.drop_eq_getElem_cons h, rowOf]; simp [h, T.ty]
theorem gT_closed (l : List Ty) (i : Nat) : (gT l true i).closed = true := by
  unfold gT
  split
  · rfl
  · exact plainS_closed _
theorem closing_closed {x : T} (m : List Ty) {k : Int} (h : x.has k = true) : (sigB (statB (x.varsF []) m true) k).closed = true := by
  obtain ⟨i, e, _⟩ := sig_stat (nodup_varsF x [] List.nodup_nil) m true (mem_vars0.2 h)
  rw [e]; exact gT_closed m i
theorem stat_same : ∀ a : T, a.stat = a.static := by
  intro a; induction a <;> simp_all [T.stat, T.static]
theorem closing_static {x : T} (m : List Ty) {k : Int} (h : x.has k = true) : (sigB (statB (x.varsF []) m true) k).static = true := by
  obtain ⟨i, e, _⟩ := sig_stat (nodup_varsF x [] List.nodup_nil) m true (mem_vars0.2 h)
  rw [e, ← stat_same]; exact gT_stat _ _ _
theorem closing_okT {x : T} (hx : x.ok = true) {m : List Ty} (hm : ∀ y ∈ m, right y = true) : (putS (sigB (statB (x.varsF []) m true)) x).ok = true := by
  refine putS_ok (fun n hn => ?_) x hx
  simp only [sigB]
  cases hlk : lookB (statB (x.varsF []) m true) n with
  | none => exact hn
  | some t' =>
    obtain ⟨z, hz, hzo⟩ := T.of_right' (statB_right hm n t' hlk)
    subst hz
    simp only [tOf_ty]; exact hzo
end Go.Proofs.Ytdngjamjccjlmaa
