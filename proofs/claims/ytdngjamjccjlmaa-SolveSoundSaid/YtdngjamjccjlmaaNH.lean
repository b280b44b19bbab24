/- What solving gives, put into plain words. No condition. -/
import Derived.Test.YtdngjamjccjlmaaPBd
import Derived.Test.YtdngjamjccjlmaaPEb
set_option linter.unusedSimpArgs false
set_option linter.unusedVariables false
namespace Go.Proofs.Ytdngjamjccjlmaa
open Go Go.Ab

theorem ok_of_has : ∀ a : T, (∀ z, a.has z = true → 0 ≤ z ∧ z ≤ 1048576) → a.ok = true := by
  intro a
  induction a with
  | var n => intro h; have := h n (by simp [T.has]); simp [T.ok, this.1, this.2]
  | pair a b ih1 ih2 => intro h; simp only [T.ok, Bool.and_eq_true]; exact ⟨ih1 fun z hz => h z (by simp [T.has, hz]), ih2 fun z hz => h z (by simp [T.has, hz])⟩
  | fn a b ih1 ih2 => intro h; simp only [T.ok, Bool.and_eq_true]; exact ⟨ih1 fun z hz => h z (by simp [T.has, hz]), ih2 fun z hz => h z (by simp [T.has, hz])⟩
  | list a ih1 => intro h; exact ih1 fun z hz => h z (by simp [T.has, hz])
  | _ => intro _; rfl
theorem Wf.tT_ok {S : St} (hw : Wf S) (hl : S.length ≤ 1000000) {n : Nat} (hn : n < S.length) : (S.tT n).ok = true :=
  ok_of_has _ fun z hz => by
    obtain ⟨m, rfl, h1, _⟩ := hw.has_nat n hn z hz
    omega
theorem closed_put {σ : Int → T} : ∀ a : T, (∀ n, a.has n = true → (σ n).closed = true) → (putS σ a).closed = true := by
  intro a
  induction a with
  | var n => intro h; exact h n (by simp [T.has])
  | pair a b ih1 ih2 => intro h; simp only [putS, T.closed, Bool.and_eq_true]; exact ⟨ih1 fun z hz => h z (by simp [T.has, hz]), ih2 fun z hz => h z (by simp [T.has, hz])⟩
  | fn a b ih1 ih2 => intro h; simp only [putS, T.closed, Bool.and_eq_true]; exact ⟨ih1 fun z hz => h z (by simp [T.has, hz]), ih2 fun z hz => h z (by simp [T.has, hz])⟩
  | list a ih1 => intro h; exact ih1 fun z hz => h z (by simp [T.has, hz])
  | _ => intro _; rfl
theorem rowOf_has {k : Int} : ∀ {l : List (T × T)} {p : T × T}, p ∈ l → p.1.has k = true ∨ p.2.has k = true → (rowOf l).has k = true
  | q :: l, p, hp, h => by
    rcases List.mem_cons.1 hp with rfl | hp
    · simp only [rowOf, T.has, Bool.or_eq_true]; exact .inl h
    · simp only [rowOf, T.has, Bool.or_eq_true]; exact .inr (rowOf_has hp h)
theorem rowOf_ok {l : List (T × T)} (h : (rowOf l).ok = true) {p : T × T} (hp : p ∈ l) : p.1.ok = true ∧ p.2.ok = true := by
  induction l with
  | nil => cases hp
  | cons q l ih =>
    simp only [rowOf, T.ok, Bool.and_eq_true] at h
    rcases List.mem_cons.1 hp with rfl | hp
    · exact h.1
    · exact ih h.2 hp
theorem rowOf_ty_drop {l : List (T × T)} {i : Nat} (h : i < l.length) : (rowOf (l.drop i)).ty = .mk 7 0 [.mk 7 0 [(l.getD i default).1.ty, (l.getD i default).2.ty], (rowOf (l.drop (i + 1))).ty] := by
  rw [List.drop_eq_getElem_cons h, rowOf]; simp [h, T.ty]
/-- The row behind the solving. -/
theorem SolvedF.rowf {l : List (T × T)} {n : Nat} {Z : List (Int × Int)} {σ0 : Sto} {ps : List (Nat × Nat)} {e : Int} {σ : Sto} (F : SolvedF l n Z σ0 ps e σ) : σ.L.st.tT n = rowOf (ps.map fun p => (σ.L.st.tT p.1, σ.L.st.tT p.2)) := by
  have hw := F.good0.si.wf
  have hn : n < σ0.L.st.length := by rw [Mem.st_len]; exact F.hn
  have e0 : σ0.L.st.tT n = rowOf (ps.map fun p => (σ0.L.st.tT p.1, σ0.L.st.tT p.2)) := by rw [F.pairs, F.tree, rowOf_put]
  rw [F.ext.tT hw n hn, e0, rowOf_put, List.map_map]
  congr 1
  refine List.map_congr_left fun p hp => ?_
  have h := F.lt p hp
  rw [← Mem.st_len σ0.L] at h
  show (putS _ _, putS _ _) = _
  rw [← F.ext.tT hw _ h.1, ← F.ext.tT hw _ h.2]
theorem gT_closed (l : List Ty) (i : Nat) : (gT l true i).closed = true := by
  unfold gT
  split
  · rfl
  · exact plainS_closed _
theorem closing_closed {x : T} (m : List Ty) {k : Int} (h : x.has k = true) : (sigB (statB (x.varsF []) m true) k).closed = true := by
  obtain ⟨i, e, _⟩ := sig_stat (nodup_varsF x [] List.nodup_nil) m true (mem_vars0.2 h)
  rw [e]; exact gT_closed m i
theorem closing_okT {x : T} (hx : x.ok = true) {m : List Ty} (hm : ∀ y ∈ m, right y = true) : (putS (sigB (statB (x.varsF []) m true)) x).ok = true := by
  refine putS_ok (fun n hn => ?_) x hx
  simp only [sigB]
  cases hlk : lookB (statB (x.varsF []) m true) n with
  | none => exact hn
  | some t' =>
    obtain ⟨z, hz, hzo⟩ := T.of_right' (statB_right hm n t' hlk)
    subst hz
    simp only [tOf_ty]; exact hzo
/-- Pairs that were made to agree do, with closed types for what is left. -/
theorem SolvedF.sound {l : List (T × T)} {n : Nat} {Z : List (Int × Int)} {σ0 : Sto} {ps : List (Nat × Nat)} {σ : Sto} (F : SolvedF l n Z σ0 ps 0 σ) (m : List Ty) {p : Nat × Nat} (hp : p ∈ ps) :
    agreeT (putS (sigB (statB ((σ.L.st.tT n).varsF []) m true)) (σ.L.st.tT p.1)) (putS (sigB (statB ((σ.L.st.tT n).varsF []) m true)) (σ.L.st.tT p.2)) = true := by
  obtain ⟨_, _, h⟩ := seq_sound ps σ0 (0, σ) F.good0 F.lt F.seq rfl
  have hh : ∀ k, (σ.L.st.tT p.1).has k = true ∨ (σ.L.st.tT p.2).has k = true → (σ.L.st.tT n).has k = true := fun k hk => by
    rw [F.rowf]
    exact rowOf_has (List.mem_map.2 ⟨p, hp, rfl⟩) hk
  rw [agO_closed _ _ (closed_put _ fun k hk => closing_closed m (hh k (.inl hk))) (closed_put _ fun k hk => closing_closed m (hh k (.inr hk)))]
  exact agO_put _ _ (h p hp)

end Go.Proofs.Ytdngjamjccjlmaa
