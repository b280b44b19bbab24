/- Lemmas: a store in plain Lean, second part. No condition. -/
import Derived.Test.YtpkdbhlpndibkaaPCa
import Derived.Test.YtpkdbhlpndibkaaPVa

section
/- Substitution, matching, numbering anew: plain laws over trees. No condition. -/
set_option linter.unusedSimpArgs false
set_option linter.unusedVariables false
namespace Go.Proofs.Ytpkdbhlpndibkaa
open Go Go.Ab

/-- Binds of trees, and what they put for a variable. -/
abbrev BT := Int × T
def lookT : List BT → Int → Option T
  | [], _ => none
  | p :: l, n => if p.1 = n then some p.2 else lookT l n
def sigT (l : List BT) (n : Int) : T := (lookT l n).getD (.var n)
theorem lookT_app (l m : List BT) (n : Int) : lookT (l ++ m) n = (lookT l n).or (lookT m n) := by
  induction l with
  | nil => simp [lookT]
  | cons p l ih => simp only [List.cons_append, lookT]; split <;> simp [ih]
theorem lookT_mem {l : List BT} {n : Int} {t : T} (h : lookT l n = some t) : (n, t) ∈ l := by
  induction l with
  | nil => cases h
  | cons p l ih =>
    rw [lookT] at h
    split at h
    · rename_i e; cases h; subst e; exact List.mem_cons_self
    · exact List.mem_cons_of_mem _ (ih h)

/-! Twice. -/
/-! Variables of a tree. -/
def T.varsF : T → List Int → List Int
  | .var n, out => if n ∉ out then out ++ [n] else out
  | .pair a b, out => b.varsF (a.varsF out)
  | .fn a b, out => b.varsF (a.varsF out)
  | .list a, out => a.varsF out
  | _, out => out
theorem T.varsF_ty : ∀ (a : T) (out : List Int), Go.Proofs.Ytpkdbhlpndibkaa.varsF a.ty out = a.varsF out := by
  intro a
  induction a with
  | base k => intro out; have := base_ne k; simp only [T.ty, Go.Proofs.Ytpkdbhlpndibkaa.varsF, varsL, T.varsF, this.2.1, false_and, if_false]
  | dyn => intro out; simp [T.ty, Go.Proofs.Ytpkdbhlpndibkaa.varsF, varsL, T.varsF]
  | var n => intro out; simp [T.ty, Go.Proofs.Ytpkdbhlpndibkaa.varsF, varsL, T.varsF]
  | pair a b ih1 ih2 => intro out; simp [T.ty, Go.Proofs.Ytpkdbhlpndibkaa.varsF, varsL, T.varsF, ih1, ih2]
  | fn a b ih1 ih2 => intro out; simp [T.ty, Go.Proofs.Ytpkdbhlpndibkaa.varsF, varsL, T.varsF, ih1, ih2]
  | list a ih1 => intro out; simp [T.ty, Go.Proofs.Ytpkdbhlpndibkaa.varsF, varsL, T.varsF, ih1]
/-- Is a variable in a tree? -/
def T.has (n : Int) : T → Bool
  | .var m => decide (m = n)
  | .pair a b => a.has n || b.has n
  | .fn a b => a.has n || b.has n
  | .list a => a.has n
  | _ => false
theorem mem_varsF : ∀ (a : T) (out : List Int) (n : Int), n ∈ a.varsF out ↔ n ∈ out ∨ a.has n = true := by
  intro a
  induction a with
  | var m =>
    intro out n
    simp only [T.varsF, T.has, decide_eq_true_eq]
    by_cases h : m ∈ out
    · simp only [h, not_true_eq_false, if_false]
      exact ⟨.inl, fun h' => h'.elim id fun e => e ▸ h⟩
    · simp only [h, not_false_eq_true, if_true, List.mem_append, List.mem_singleton]
      exact ⟨fun h' => h'.imp id Eq.symm, fun h' => h'.imp id Eq.symm⟩
  | pair a b ih1 ih2 => intro out n; simp only [T.varsF, T.has, ih2, ih1, Bool.or_eq_true, or_assoc]
  | fn a b ih1 ih2 => intro out n; simp only [T.varsF, T.has, ih2, ih1, Bool.or_eq_true, or_assoc]
  | list a ih1 => intro out n; simp only [T.varsF, T.has, ih1]
  | _ => intro out n; simp [T.varsF, T.has]
theorem nodup_varsF : ∀ (a : T) (out : List Int), out.Nodup → (a.varsF out).Nodup := by
  intro a
  induction a with
  | var m =>
    intro out h
    simp only [T.varsF]
    split
    · rename_i hm; exact List.nodup_append.2 ⟨h, by simp, by simp; rintro x hx rfl; exact hm hx⟩
    · exact h
  | pair a b ih1 ih2 => intro out h; exact ih2 _ (ih1 _ h)
  | fn a b ih1 ih2 => intro out h; exact ih2 _ (ih1 _ h)
  | list a ih1 => intro out h; exact ih1 _ h
  | _ => intro out h; exact h
theorem put_congr {σ τ : Int → T} : ∀ a : T, (∀ n, a.has n = true → σ n = τ n) → putS σ a = putS τ a := by
  intro a
  induction a with
  | var n => intro h; exact h n (by simp [T.has])
  | pair a b ih1 ih2 => intro h; simp only [putS]; rw [ih1 fun n hn => h n (by simp [T.has, hn]), ih2 fun n hn => h n (by simp [T.has, hn])]
  | fn a b ih1 ih2 => intro h; simp only [putS]; rw [ih1 fun n hn => h n (by simp [T.has, hn]), ih2 fun n hn => h n (by simp [T.has, hn])]
  | list a ih1 => intro h; simp only [putS]; rw [ih1 fun n hn => h n (by simp [T.has, hn])]
  | _ => intro _; rfl
theorem put_id : ∀ a : T, putS T.var a = a := by
  intro a; induction a <;> simp_all [putS]
theorem put_put {σ τ : Int → T} : ∀ a : T, putS τ (putS σ a) = putS (fun n => putS τ (σ n)) a := by
  intro a; induction a <;> simp_all [putS]
theorem put_eq_at {σ τ : Int → T} : ∀ a : T, putS σ a = putS τ a → ∀ n, a.has n = true → σ n = τ n := by
  intro a
  induction a with
  | var m => intro h n hn; simp only [T.has, decide_eq_true_eq] at hn; subst hn; exact h
  | pair a b ih1 ih2 => intro h n hn; simp only [putS, T.pair.injEq] at h; simp only [T.has, Bool.or_eq_true] at hn; exact hn.elim (ih1 h.1 n) (ih2 h.2 n)
  | fn a b ih1 ih2 => intro h n hn; simp only [putS, T.fn.injEq] at h; simp only [T.has, Bool.or_eq_true] at hn; exact hn.elim (ih1 h.1 n) (ih2 h.2 n)
  | list a ih1 => intro h n hn; simp only [putS, T.list.injEq] at h; simp only [T.has] at hn; exact ih1 h n hn
  | _ => intro _ n hn; simp [T.has] at hn

/-! Matching. -/
def T.stat : T → Bool
  | .dyn => false
  | .pair a b => a.stat && b.stat
  | .fn a b => a.stat && b.stat
  | .list a => a.stat
  | _ => true
def matchT : T → T → List BT → Option (List BT)
  | .var n, u, l => match lookT l n with
    | some v => if v = u then some l else none
    | none => if u.stat = true then some (l ++ [(n, u)]) else none
  | .pair a b, .pair c d, l => (matchT a c l).bind (matchT b d)
  | .fn a b, .fn c d, l => (matchT a c l).bind (matchT b d)
  | .list a, .list c, l => matchT a c l
  | .dyn, .dyn, l => some l
  | .base k, .base k', l => if k = k' then some l else none
  | _, _, _ => none
def bindsOf (σ : Int → T) (L : List Int) : List BT := L.map fun n => (n, σ n)
theorem look_bindsOf (σ : Int → T) (L : List Int) (n : Int) : lookT (bindsOf σ L) n = if n ∈ L then some (σ n) else none := by
  induction L with
  | nil => rfl
  | cons m L ih =>
    simp only [bindsOf, List.map_cons, lookT]
    by_cases h : m = n
    · subst h; simp
    · simp only [h, if_false, List.mem_cons, Ne.symm h, false_or]; exact ih
theorem match_put {σ : Int → T} : ∀ (a : T) (L : List Int), (∀ n, a.has n = true → (σ n).stat = true) → matchT a (putS σ a) (bindsOf σ L) = some (bindsOf σ (a.varsF L)) := by
  intro a
  induction a with
  | var n =>
    intro L h
    simp only [putS, matchT, look_bindsOf, T.varsF]
    by_cases hn : n ∈ L
    · simp [hn]
    · simp [hn, h n (by simp [T.has]), bindsOf]
  | pair a b ih1 ih2 =>
    intro L h
    simp only [putS, matchT, T.varsF]
    rw [ih1 L fun n hn => h n (by simp [T.has, hn])]
    exact ih2 _ fun n hn => h n (by simp [T.has, hn])
  | fn a b ih1 ih2 =>
    intro L h
    simp only [putS, matchT, T.varsF]
    rw [ih1 L fun n hn => h n (by simp [T.has, hn])]
    exact ih2 _ fun n hn => h n (by simp [T.has, hn])
  | list a ih1 =>
    intro L h
    simp only [putS, matchT, T.varsF]
    exact ih1 L fun n hn => h n (by simp [T.has, hn])
  | base k => intro L _; simp [putS, matchT, T.varsF]
  | dyn => intro L _; simp [putS, matchT, T.varsF]
/-- What was found: binds that go on, static new ones, under which the first is the second. -/
theorem match_sound : ∀ (a u : T) (l l' : List BT), matchT a u l = some l' →
    ∃ m, l' = l ++ m ∧ (∀ p ∈ m, p.2.stat = true ∧ a.has p.1 = true) ∧ (∀ n, a.has n = true → (lookT l' n).isSome = true) ∧ putS (sigT l') a = u := by
  intro a
  induction a with
  | var n =>
    intro u l l' h
    rw [matchT] at h
    cases e : lookT l n with
    | some v =>
      rw [e] at h
      simp only at h
      split at h
      · rename_i hv; cases h; subst hv
        exact ⟨[], by simp, by simp, fun m hm => by simp only [T.has, decide_eq_true_eq] at hm; subst hm; rw [e]; rfl, by simp [putS, sigT, e]⟩
      · cases h
    | none =>
      rw [e] at h
      simp only at h
      split at h
      · rename_i hs; cases h
        refine ⟨[(n, u)], rfl, ?_, ?_, ?_⟩
        · intro p hp; simp only [List.mem_singleton] at hp; subst hp; exact ⟨hs, by simp [T.has]⟩
        · intro m hm; simp only [T.has, decide_eq_true_eq] at hm; subst hm; simp [lookT_app, e, lookT]
        · simp [putS, sigT, lookT_app, e, lookT]
      · cases h
  | pair a b ih1 ih2 =>
    intro u l l' h
    cases u <;> simp only [matchT, reduceCtorEq] at h
    rename_i c d
    obtain ⟨l1, h1, h2⟩ := Option.bind_eq_some_iff.1 h
    obtain ⟨m1, rfl, s1, k1, p1⟩ := ih1 _ _ _ h1
    obtain ⟨m2, rfl, s2, k2, p2⟩ := ih2 _ _ _ h2
    have go : ∀ n, a.has n = true → lookT (l ++ m1 ++ m2) n = lookT (l ++ m1) n := fun n hn => by
      rw [lookT_app]; have := k1 n hn; cases e : lookT (l ++ m1) n with
      | none => rw [e] at this; cases this
      | some v => rfl
    refine ⟨m1 ++ m2, by simp, ?_, ?_, ?_⟩
    · intro p hp
      rcases List.mem_append.1 hp with hp | hp
      · exact ⟨(s1 p hp).1, by simp [T.has, (s1 p hp).2]⟩
      · exact ⟨(s2 p hp).1, by simp [T.has, (s2 p hp).2]⟩
    · intro n hn
      simp only [T.has, Bool.or_eq_true] at hn
      rcases hn with hn | hn
      · rw [go n hn]; exact k1 n hn
      · exact k2 n hn
    · simp only [putS, p2]
      rw [put_congr (τ := sigT (l ++ m1)) a fun n hn => by simp only [sigT, go n hn], p1]
  | fn a b ih1 ih2 =>
    intro u l l' h
    cases u <;> simp only [matchT, reduceCtorEq] at h
    rename_i c d
    obtain ⟨l1, h1, h2⟩ := Option.bind_eq_some_iff.1 h
    obtain ⟨m1, rfl, s1, k1, p1⟩ := ih1 _ _ _ h1
    obtain ⟨m2, rfl, s2, k2, p2⟩ := ih2 _ _ _ h2
    have go : ∀ n, a.has n = true → lookT (l ++ m1 ++ m2) n = lookT (l ++ m1) n := fun n hn => by
      rw [lookT_app]; have := k1 n hn; cases e : lookT (l ++ m1) n with
      | none => rw [e] at this; cases this
      | some v => rfl
    refine ⟨m1 ++ m2, by simp, ?_, ?_, ?_⟩
    · intro p hp
      rcases List.mem_append.1 hp with hp | hp
      · exact ⟨(s1 p hp).1, by simp [T.has, (s1 p hp).2]⟩
      · exact ⟨(s2 p hp).1, by simp [T.has, (s2 p hp).2]⟩
    · intro n hn
      simp only [T.has, Bool.or_eq_true] at hn
      rcases hn with hn | hn
      · rw [go n hn]; exact k1 n hn
      · exact k2 n hn
    · simp only [putS, p2]
      rw [put_congr (τ := sigT (l ++ m1)) a fun n hn => by simp only [sigT, go n hn], p1]
  | list a ih1 =>
    intro u l l' h
    cases u <;> simp only [matchT, reduceCtorEq] at h
    obtain ⟨m1, rfl, s1, k1, p1⟩ := ih1 _ _ _ h
    exact ⟨m1, rfl, fun p hp => ⟨(s1 p hp).1, by simp [T.has, (s1 p hp).2]⟩, fun n hn => k1 n hn, by simp only [putS, p1]⟩
  | base k =>
    intro u l l' h
    cases u <;> simp only [matchT, reduceCtorEq] at h
    split at h
    · rename_i e; cases h; subst e; exact ⟨[], by simp, by simp, by simp [T.has], rfl⟩
    · cases h
  | dyn =>
    intro u l l' h
    cases u <;> simp only [matchT, reduceCtorEq] at h
    cases h; exact ⟨[], by simp, by simp, by simp [T.has], rfl⟩
/-- One matches another just if it is that with static types put. -/
theorem match_iff (a u : T) : (matchT a u []).isSome = true ↔ ∃ σ : Int → T, putS σ a = u ∧ ∀ n, a.has n = true → (σ n).stat = true := by
  constructor
  · intro h
    obtain ⟨l', h'⟩ := Option.isSome_iff_exists.1 h
    obtain ⟨m, e, s, k, p⟩ := match_sound a u [] l' h'
    refine ⟨sigT l', p, fun n hn => ?_⟩
    have := k n hn
    obtain ⟨v, hv⟩ := Option.isSome_iff_exists.1 this
    rw [sigT, hv]
    have hm := lookT_mem hv
    rw [e, List.nil_append] at hm
    exact (s _ hm).1
  · rintro ⟨σ, rfl, h⟩
    rw [show ([] : List BT) = bindsOf σ [] from rfl, match_put a [] h]; rfl

end Go.Proofs.Ytpkdbhlpndibkaa
end

section
/- Numbering anew: plain laws over trees. No condition. -/
set_option linter.unusedSimpArgs false
set_option linter.unusedVariables false
namespace Go.Proofs.Ytpkdbhlpndibkaa
open Go Go.Ab

def idxI (vs : List Int) (n : Int) : Int := ((vs.idxOf n : Nat) : Int)
def canonT (a : T) : T := putS (fun n => .var (idxI (a.varsF []) n)) a
theorem ren_vars {ρ : Int → Int} : ∀ (a : T) (out : List Int), (∀ m n, (m ∈ out ∨ a.has m = true) → (n ∈ out ∨ a.has n = true) → ρ m = ρ n → m = n) → (putS (fun n => .var (ρ n)) a).varsF (out.map ρ) = (a.varsF out).map ρ := by
  intro a
  induction a with
  | var n =>
    intro out h
    simp only [putS, T.varsF, List.mem_map]
    by_cases hn : n ∈ out
    · rw [if_neg (by simpa using ⟨n, hn, rfl⟩), if_neg (by simpa using hn)]
    · rw [if_pos (by rintro ⟨m, hm, e⟩; exact hn (h m n (.inl hm) (.inr (by simp [T.has])) e ▸ hm)), if_pos hn, List.map_append]; rfl
  | pair a b ih1 ih2 =>
    intro out h
    simp only [putS, T.varsF]
    rw [ih1 out fun m n hm hn => h m n (hm.imp id fun x => by simp [T.has, x]) (hn.imp id fun x => by simp [T.has, x])]
    refine ih2 _ fun m n hm hn => h m n ?_ ?_
    · rw [mem_varsF] at hm; simp only [T.has, Bool.or_eq_true]; rcases hm with (h | h) | h <;> simp [h]
    · rw [mem_varsF] at hn; simp only [T.has, Bool.or_eq_true]; rcases hn with (h | h) | h <;> simp [h]
  | fn a b ih1 ih2 =>
    intro out h
    simp only [putS, T.varsF]
    rw [ih1 out fun m n hm hn => h m n (hm.imp id fun x => by simp [T.has, x]) (hn.imp id fun x => by simp [T.has, x])]
    refine ih2 _ fun m n hm hn => h m n ?_ ?_
    · rw [mem_varsF] at hm; simp only [T.has, Bool.or_eq_true]; rcases hm with (h | h) | h <;> simp [h]
    · rw [mem_varsF] at hn; simp only [T.has, Bool.or_eq_true]; rcases hn with (h | h) | h <;> simp [h]
  | list a ih1 =>
    intro out h
    simp only [putS, T.varsF]
    exact ih1 out fun m n hm hn => h m n (hm.imp id fun x => by simpa [T.has] using x) (hn.imp id fun x => by simpa [T.has] using x)
  | _ => intro out _; rfl
theorem idx_inj {vs : List Int} {m n : Int} (hm : m ∈ vs) (hn : n ∈ vs) (h : idxI vs m = idxI vs n) : m = n := by
  have h' : vs.idxOf m = vs.idxOf n := by unfold idxI at h; omega
  have h1 := List.idxOf_lt_length_of_mem hm
  have e1 : vs[vs.idxOf m] = m := List.getElem_idxOf h1
  have h2 := List.idxOf_lt_length_of_mem hn
  have e2 : vs[vs.idxOf n] = n := List.getElem_idxOf h2
  have e3 : vs[vs.idxOf m] = vs[vs.idxOf n] := by congr 1
  rw [e1, e2] at e3; exact e3
theorem mem_vars0 {a : T} {n : Int} : n ∈ a.varsF [] ↔ a.has n = true := by rw [mem_varsF]; simp
theorem map_idx {vs : List Int} (h : vs.Nodup) : vs.map (idxI vs) = (List.range vs.length).map fun i : Nat => (i : Int) := by
  apply List.ext_getElem (by simp)
  intro i h1 h2
  simp only [List.getElem_map, List.getElem_range, idxI]
  rw [h.idxOf_getElem]
theorem canon_vars (a : T) : (canonT a).varsF [] = (List.range (a.varsF []).length).map fun i : Nat => (i : Int) := by
  rw [← map_idx (nodup_varsF a [] List.nodup_nil)]
  exact ren_vars a [] fun m n hm hn e => idx_inj (mem_vars0.2 (by simpa using hm)) (mem_vars0.2 (by simpa using hn)) e
theorem canon_has {a : T} {n : Int} (h : (canonT a).has n = true) : ∃ i : Nat, n = i ∧ i < (a.varsF []).length := by
  have := mem_vars0.2 h
  rw [canon_vars] at this
  obtain ⟨i, hi, rfl⟩ := List.mem_map.1 this
  exact ⟨i, rfl, List.mem_range.1 hi⟩
theorem canon_canon (a : T) : canonT (canonT a) = canonT a := by
  conv => rhs; rw [← put_id (canonT a)]
  refine put_congr _ fun n hn => ?_
  obtain ⟨i, rfl, hi⟩ := canon_has hn
  congr 1
  rw [canon_vars]
  unfold idxI
  congr 1
  have nd : ((List.range (a.varsF []).length).map fun i : Nat => (i : Int)).Nodup := by
    exact List.Pairwise.map _ (fun x y (h : x ≠ y) (e : (x : Int) = y) => h (by omega)) List.nodup_range
  have := nd.idxOf_getElem i (by simpa using hi)
  simpa using this
/-- Back from the numbers. -/
theorem canon_back (a : T) : putS (fun n => .var ((a.varsF []).getD n.toNat 0)) (canonT a) = a := by
  unfold canonT
  rw [put_put]
  conv => rhs; rw [← put_id a]
  refine put_congr _ fun n hn => ?_
  simp only [putS, idxI, Int.toNat_natCast]
  have hm := mem_vars0.2 hn
  have h1 := List.idxOf_lt_length_of_mem hm
  have e1 : (a.varsF [])[(a.varsF []).idxOf n] = n := List.getElem_idxOf h1
  simp only [List.getD_eq_getElem?_getD, List.getElem?_eq_getElem h1, Option.getD_some, e1]
theorem canon_match {a b : T} (h : canonT a = canonT b) : (matchT a b []).isSome = true := by
  rw [match_iff]
  refine ⟨fun n => putS (fun n => .var ((b.varsF []).getD n.toNat 0)) (.var (idxI (a.varsF []) n)), ?_, fun n _ => rfl⟩
  rw [← put_put]
  have e : putS (fun n => .var (idxI (a.varsF []) n)) a = canonT b := h
  rw [e, canon_back]
theorem idxOf_map {s : Int → Int} : ∀ {vs : List Int} {n : Int}, n ∈ vs → (∀ m, m ∈ vs → s m = s n → m = n) → (vs.map s).idxOf (s n) = vs.idxOf n
  | [], n, h, _ => by cases h
  | v :: vs, n, h, hs => by
    by_cases e : v = n
    · subst e; simp
    · have e' : s v ≠ s n := fun h' => e (hs v List.mem_cons_self h')
      have hn : n ∈ vs := by rcases List.mem_cons.1 h with h | h; exact absurd h.symm e; exact h
      rw [List.map_cons, List.idxOf_cons, List.idxOf_cons, beq_eq_false_iff_ne.2 e', beq_eq_false_iff_ne.2 e, cond_false, cond_false, idxOf_map hn fun m hm => hs m (List.mem_cons_of_mem _ hm)]
theorem match_canon {a b : T} (h1 : (matchT a b []).isSome = true) (h2 : (matchT b a []).isSome = true) : canonT a = canonT b := by
  obtain ⟨σ, hσ, _⟩ := (match_iff a b).1 h1
  obtain ⟨τ, hτ, _⟩ := (match_iff b a).1 h2
  have key : ∀ n, a.has n = true → putS τ (σ n) = .var n := by
    refine put_eq_at a ?_
    rw [← put_put, hσ, hτ, put_id]
  have hv : ∀ n, a.has n = true → ∃ m, σ n = .var m ∧ τ m = .var n := fun n hn => by
    have := key n hn
    cases e : σ n with
    | var m => rw [e] at this; exact ⟨m, rfl, this⟩
    | _ => rw [e] at this; simp [putS] at this
  have hs : ∃ s : Int → Int, ∀ n, a.has n = true → σ n = .var (s n) ∧ τ (s n) = .var n :=
    ⟨fun n => if h : a.has n = true then (hv n h).choose else 0, fun n hn => by simp only [dif_pos hn]; exact (hv n hn).choose_spec⟩
  obtain ⟨s, hs⟩ := hs
  have inj : ∀ m n, a.has m = true → a.has n = true → s m = s n → m = n := fun m n hm hn e => by
    have h1 := (hs m hm).2; have h2 := (hs n hn).2
    rw [e, h2] at h1; cases h1; rfl
  have hb : b = putS (fun n => .var (s n)) a := by rw [← hσ]; exact put_congr a fun n hn => (hs n hn).1
  have vb : b.varsF [] = (a.varsF []).map s := by
    rw [hb]
    exact ren_vars a [] fun m n hm hn e => inj m n (by simpa using hm) (by simpa using hn) e
  unfold canonT
  rw [vb]
  conv => rhs; rw [hb, put_put]
  refine put_congr a fun n hn => ?_
  simp only [putS, idxI]
  congr 2
  rw [idxOf_map (mem_vars0.2 hn) fun m hm e => inj m n (mem_vars0.1 hm) hn e]
theorem canon_iff (a b : T) : canonT a = canonT b ↔ (matchT a b []).isSome = true ∧ (matchT b a []).isSome = true :=
  ⟨fun h => ⟨canon_match h, canon_match h.symm⟩, fun h => match_canon h.1 h.2⟩

end Go.Proofs.Ytpkdbhlpndibkaa
end

