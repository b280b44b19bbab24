/- Maps from numbers to numbers, as lists. No condition. -/
import Derived.Test.YtcpfjabjonpdaaaAbU
set_option linter.unusedSimpArgs false
set_option linter.unusedVariables false
namespace Go.Ab

def embM (m : List (Int × Int)) : List (AV × AV) := m.map fun p => (.int .i64 p.1, .int .i64 p.2)
def mget : List (Int × Int) → Int → Option Int
  | [], _ => none
  | (k, w) :: m, n => if k = n then some w else mget m n
def mput : List (Int × Int) → Int → Int → List (Int × Int)
  | [], n, v => [(n, v)]
  | (k, w) :: m, n, v => if k = n then (n, v) :: m else (k, w) :: mput m n v
def mfind : List (Int × Int) → Int → Nat → Option (Nat × AV)
  | [], _, _ => none
  | (k, w) :: m, n, i => if k = n then some (i, .int .i64 w) else mfind m n (i + 1)

theorem findA_m (m : List (Int × Int)) (n : Int) : ∀ i, findA (.int .i64) (.int .i64 n) (embM m) i = some (mfind m n i) := by
  induction m with
  | nil => intro i; rfl
  | cons p m ih =>
    intro i
    obtain ⟨k, w⟩ := p
    simp only [embM, List.map_cons, findA, keyEq, if_true, mfind]
    by_cases h : k = n
    · simp [h]
    · have : (n == k) = false := by simpa using Ne.symm h
      simp only [this, if_neg h]
      exact ih (i + 1)
theorem mfind_iff (m : List (Int × Int)) (n : Int) : ∀ i, (mfind m n i).map (·.2) = (mget m n).map (.int .i64 ·) := by
  induction m with
  | nil => intro i; rfl
  | cons p m ih =>
    intro i
    obtain ⟨k, w⟩ := p
    simp only [mfind, mget]
    split
    · rfl
    · exact ih (i + 1)
theorem foundOr_m (m : List (Int × Int)) (n z : Int) : foundOr (.int .i64 z) (mfind m n 0) = .int .i64 ((mget m n).getD z) := by
  have := mfind_iff m n 0
  cases h : mfind m n 0 with
  | none => rw [h] at this; cases h2 : mget m n with
    | none => rfl
    | some v => rw [h2] at this; simp at this
  | some p => rw [h] at this; cases h2 : mget m n with
    | none => rw [h2] at this; simp at this
    | some v => rw [h2] at this; simp only [Option.map_some, Option.some.injEq] at this; simp only [foundOr, this, Option.getD_some]
theorem mfind_some (m : List (Int × Int)) (n : Int) : (mfind m n 0).isSome = (mget m n).isSome := by
  have := congrArg Option.isSome (mfind_iff m n 0)
  simpa using this
theorem mapPut_m (m : List (Int × Int)) (n v : Int) : mapPut (embM m) (mfind m n 0) (.int .i64 n) (.int .i64 v) = embM (mput m n v) := by
  have key : ∀ (m : List (Int × Int)) (j : Nat), match mfind m n j with
      | none => embM m ++ [(.int .i64 n, .int .i64 v)] = embM (mput m n v)
      | some (i, _) => j ≤ i ∧ (embM m).set (i - j) (.int .i64 n, .int .i64 v) = embM (mput m n v) := by
    intro m
    induction m with
    | nil => intro j; rfl
    | cons p m ih =>
      intro j
      obtain ⟨k, w⟩ := p
      simp only [mfind, mput]
      by_cases h : k = n
      · simp [h, embM]
      · simp only [if_neg h]
        have := ih (j + 1)
        split at this
        · rename_i hm
          simp only [embM, List.map_cons, List.cons_append] at this ⊢
          rw [this]
        · rename_i i x hm
          obtain ⟨h1, h2⟩ := this
          refine ⟨by omega, ?_⟩
          rw [show i - j = (i - (j + 1)) + 1 by omega]
          simp only [embM, List.map_cons, List.set_cons_succ] at h2 ⊢
          rw [h2]
  have := key m 0
  split at this
  · rename_i hm; rw [hm]; exact this
  · rename_i i x hm; rw [hm]; exact this.2
theorem mget_put (m : List (Int × Int)) (n v k : Int) : mget (mput m n v) k = if n = k then some v else mget m k := by
  induction m with
  | nil => simp [mput, mget]
  | cons p m ih =>
    obtain ⟨j, w⟩ := p
    simp only [mput]
    by_cases h : j = n
    · subst h; simp only [if_true, mget]; split <;> rfl
    · simp only [if_neg h, mget, ih]
      by_cases h1 : j = k
      · subst h1; simp [Ne.symm h]
      · simp [h1]
theorem embM_bel (m : List (Int × Int)) (b : Nat) : (AObj.map (embM m)).bel b = true := by
  induction m with
  | nil => rfl
  | cons p m ih => simpa [AObj.bel, embM, AV.belL, AV.bel] using ih

section
variable {sz : Nat} {F F' : List AObj} {es es' : List AV} {a a' : AV}
theorem AccOK.setO (h : AccOK sz F es a) {r : Nat} {y x : AObj} (hy : F[r]? = some y) (hn : ∀ m, y ≠ .tok m sz) : AccOK sz (F.set r x) es a := by
  rcases h with h | ⟨q, h1, h2⟩
  · exact .inl h
  · refine .inr ⟨q, h1, ?_⟩
    rw [set_get]; exact h2
    rintro rfl; rw [h2] at hy; exact hn _ (Option.some.inj hy).symm
theorem AccR.setO (h : AccOK sz F es a) (hr : AccR sz F a es' a' F') {r : Nat} {y x : AObj} (hy : F[r]? = some y) (hn : ∀ m, y ≠ .tok m sz) : AccR sz (F.set r x) a es' a' (F'.set r x) := by
  have hl := get_lt hy
  obtain ⟨J, hr⟩ := hr
  rcases h with ⟨rfl, rfl⟩ | ⟨q, rfl, h⟩
  · obtain ⟨h1, h2⟩ := hr
    refine ⟨J, by rw [h1, app_set hl], ?_⟩
    rcases h2 with h2 | ⟨q, h3, h4, h5⟩
    · exact .inl h2
    · exact .inr ⟨q, by simpa using h3, h4, by rw [set_get (by omega)]; exact h5⟩
  · have hne : q ≠ r := by
      rintro rfl; rw [h] at hy; exact hn _ (Option.some.inj hy).symm
    obtain ⟨h1, h2⟩ := hr
    refine ⟨J, h1, ?_⟩
    rw [h2, app_set (by simpa using hl), List.set_comm _ _ hne]
theorem bel_set {b r : Nat} {x : AObj} (hx : x.bel b = true) (h : ∀ y ∈ F.take b, y.bel b = true) : ∀ y ∈ (F.set r x).take b, y.bel b = true := by
  rw [List.take_set]
  intro y hy
  rcases List.mem_or_eq_of_mem_set hy with hy | rfl
  · exact h y hy
  · exact hx
end
end Go.Ab
