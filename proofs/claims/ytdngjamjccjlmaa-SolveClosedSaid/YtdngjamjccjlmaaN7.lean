/- Pairs of nodes, one after the other, within bounds. No condition. -/
import Derived.Test.YtdngjamjccjlmaaN6
set_option linter.unusedSimpArgs false
set_option linter.unusedVariables false
namespace Go.Proofs.Ytdngjamjccjlmaa
open Go Go.Ab

/-- Bounds under which the code runs. -/
def okB (σ : Sto) (n : Nat) : Prop := σ.L.length ≤ 700000 ∧ σ.rd ≤ 80000000000 ∧ 0 ≤ σ.cnt ∧ σ.cnt ≤ 800000 ∧ n ≤ 1000000000000
/-- All pairs, with fuel, and what comes of them. -/
def RunB (lim : Int) : Nat → List (Nat × Nat) → Sto → (Int × Int × Int × Sto) → Prop
  | _, [], σ, res => res = (0, 0, 0, σ)
  | 0, _ :: _, _, _ => False
  | n + 1, p :: stk, σ, res => okB σ (stk.length + 1) ∧ match stepS lim p stk σ with
    | .go stk' σ' => RunB lim n stk' σ' res
    | .stop l r e σ' => res = (l, r, e, σ')
def Lt2 (n : Nat) (stk : List (Nat × Nat)) : Prop := ∀ q ∈ stk, q.1 < n ∧ q.2 < n
theorem zip_lt {l l' : List Nat} {n : Nat} (h : ∀ k ∈ l, k < n) (h' : ∀ k ∈ l', k < n) : Lt2 n (l.zip l') := fun q hq => by
  obtain ⟨a, b⟩ := q
  have := List.of_mem_zip hq
  exact ⟨h _ this.1, h' _ this.2⟩
theorem Lt2.app {n : Nat} {a b : List (Nat × Nat)} (h : Lt2 n a) (h' : Lt2 n b) : Lt2 n (a ++ b) := fun q hq => (List.mem_append.1 hq).elim (h q) (h' q)
theorem Lt2.mono {n m : Nat} {a : List (Nat × Nat)} (h : Lt2 n a) (hm : n ≤ m) : Lt2 m a := fun q hq => ⟨by have := (h q hq).1; omega, by have := (h q hq).2; omega⟩
theorem GrowS.refl {σ : Sto} (h : GoodS σ) : GrowS σ σ 3 4 3 := ⟨h, Nat.le_refl _, by omega, Int.le_refl _, by omega, Int.le_refl _, by omega⟩
theorem Wf.kids_ltM {L : Mem} (h : Wf L.st) (n : Nat) : ∀ k ∈ L.st.kids n, k < L.length := fun k hk => by
  have := h.kid_lt n k hk; rwa [Mem.st_len] at this
/-- What one pair comes to is sound. -/
def StpOK (σ : Sto) : Stp → Prop
  | .go stk' σ' => GrowS σ σ' 3 4 3 ∧ Lt2 σ'.L.length stk'
  | .stop _ _ _ σ' => GrowS σ σ' 3 4 3
theorem bec_keep {lim : Int} {σ : Sto} (h : GoodS σ) {x y : Nat} (hx : x < σ.L.length) (hy : y < σ.L.length) (ex : σ.L.st.root x = x) (ey : σ.L.st.root y = y) (h6 : σ.L.st.kind x = 6) {stk : List (Nat × Nat)} (hs : Lt2 σ.L.length stk) (g : Nat → St → List (Nat × Nat)) (hg : ∀ m (L : Mem), Wf L.st → Lt2 L.length (g m L.st)) :
    StpOK σ (match σ.become lim x y with
    | (m, e, σ') => if e ≠ 0 then .stop 0 0 e σ' else match m with
      | none => .go stk σ'
      | some m => .go (g m σ'.L.st ++ stk) σ') := by
  have hG := Sto.become_grow h (lim := lim) hx hy ex ey h6
  generalize σ.become lim x y = q at *
  obtain ⟨m, e, σ'⟩ := q
  simp only at hG ⊢
  split
  · exact hG
  · cases m with
    | none => exact ⟨hG, hs.mono hG.len1⟩
    | some m => exact ⟨hG, (hg m _ hG.good.si.wf).app (hs.mono hG.len1)⟩
theorem step_keep {lim : Int} {σ : Sto} (h : GoodS σ) {p : Nat × Nat} (hp : p.1 < σ.L.length ∧ p.2 < σ.L.length) {stk : List (Nat × Nat)} (hs : Lt2 σ.L.length stk) : StpOK σ (stepS lim p stk σ) := by
  have hx : σ.L.st.root p.1 < σ.L.length := by have := h.si.wf.root_lt p.1 (by rw [Mem.st_len]; exact hp.1); rwa [Mem.st_len] at this
  have hy : σ.L.st.root p.2 < σ.L.length := by have := h.si.wf.root_lt p.2 (by rw [Mem.st_len]; exact hp.2); rwa [Mem.st_len] at this
  have ex := h.si.wf.root_root p.1
  have ey := h.si.wf.root_root p.2
  unfold stepS
  simp only
  split
  · exact ⟨GrowS.refl h, hs⟩
  split
  · have := (Sto.low_grow h (lv := 0) hy (Int.le_refl _)).mono (a' := 3) (b' := 4) (c' := 3) (by omega) (by omega) (by omega)
    exact ⟨this, hs.mono this.len1⟩
  split
  · have := (Sto.low_grow h (lv := 0) hx (Int.le_refl _)).mono (a' := 3) (b' := 4) (c' := 3) (by omega) (by omega) (by omega)
    exact ⟨this, hs.mono this.len1⟩
  split
  · rename_i h6
    exact bec_keep h hx hy ex ey h6 hs (fun m S => (S.kids m).zip (S.kids (σ.L.st.root p.2))) fun m L hw => zip_lt (hw.kids_ltM _) (hw.kids_ltM _)
  split
  · rename_i h6
    exact bec_keep h hy hx ey ex h6 hs (fun m S => (S.kids (σ.L.st.root p.1)).zip (S.kids m)) fun m L hw => zip_lt (hw.kids_ltM _) (hw.kids_ltM _)
  split
  · exact GrowS.refl h
  · exact ⟨GrowS.refl h, (zip_lt (h.si.wf.kids_ltM _) (h.si.wf.kids_ltM _)).app hs⟩
theorem Wf.kind_pos {S : St} (h : Wf S) {x : Nat} (hx : x < S.length) : 0 < S.kind x := by
  rcases h.shape6 hx with hk | ⟨_, hk, _⟩ | ⟨hk, _⟩ | ⟨hk, _⟩ <;> omega
/-- Two nodes of a kind that are no variables: as many kids, some. -/
theorem Wf.kids_same {S : St} (h : Wf S) {x y : Nat} (hx : x < S.length) (hy : y < S.length) (hne : x ≠ y) (hk : S.kind x = S.kind y) (h6 : S.kind x ≠ 6) : (S.kids x).length = (S.kids y).length ∧ 1 ≤ (S.kids x).length ∧ (S.kids x).length ≤ 2 := by
  rcases h.shape6 hx with a | ⟨a1, a2, _⟩ | ⟨a1, a, ea⟩ | ⟨a1, a, b, ea⟩
  · exact absurd a.1 h6
  · rcases h.shape6 hy with b | ⟨b1, b2, _⟩ | ⟨b1, _⟩ | ⟨b1, _⟩ <;> omega
  · rcases h.shape6 hy with b | ⟨b1, b2, _⟩ | ⟨b1, b, eb⟩ | ⟨b1, _⟩
    · omega
    · omega
    · rw [ea, eb]; simp
    · omega
  · rcases h.shape6 hy with b | ⟨b1, b2, _⟩ | ⟨b1, b, eb⟩ | ⟨b1, c, d, eb⟩
    · omega
    · omega
    · omega
    · rw [ea, eb]; simp
theorem two_lists {l l' : List Nat} (h : l.length = l'.length) (h1 : 1 ≤ l.length) (h2 : l.length ≤ 2) : (∃ a c, l = [a] ∧ l' = [c]) ∨ ∃ a b c d, l = [a, b] ∧ l' = [c, d] := by
  rcases l with _ | ⟨a, _ | ⟨b, _ | ⟨x, l⟩⟩⟩
  · simp at h1
  · rcases l' with _ | ⟨c, _ | ⟨d, l'⟩⟩
    · simp at h
    · exact .inl ⟨a, c, rfl, rfl⟩
    · simp at h
  · rcases l' with _ | ⟨c, _ | ⟨d, _ | ⟨y, l'⟩⟩⟩
    · simp at h
    · simp at h
    · exact .inr ⟨a, b, c, d, rfl, rfl⟩
    · simp at h
  · simp at h2

theorem run_good {lim : Int} : ∀ (m : Nat) (stk : List (Nat × Nat)) (σ : Sto) (res : Int × Int × Int × Sto), GoodS σ → Lt2 σ.L.length stk → RunB lim m stk σ res → GoodS res.2.2.2 ∧ σ.L.length ≤ res.2.2.2.L.length := by
  intro m
  induction m with
  | zero =>
    intro stk σ res hg hlt hr
    cases stk with
    | nil => have e : res = (0, 0, 0, σ) := hr
             subst e; exact ⟨hg, Nat.le_refl _⟩
    | cons p stk => exact hr.elim
  | succ m ih =>
    intro stk σ res hg hlt hr
    cases stk with
    | nil => have e : res = (0, 0, 0, σ) := hr
             subst e; exact ⟨hg, Nat.le_refl _⟩
    | cons p stk =>
      obtain ⟨_, hr⟩ := hr
      have hkeep := step_keep (lim := lim) hg (hlt p List.mem_cons_self) fun q hq => hlt q (List.mem_cons_of_mem _ hq)
      generalize stepS lim p stk σ = st at hkeep hr
      cases st with
      | go stk' σ' =>
        obtain ⟨h1, h2⟩ := ih stk' σ' res hkeep.1.good hkeep.2 hr
        have := hkeep.1.len1
        exact ⟨h1, by omega⟩
      | stop l r e σ' =>
        have e : res = (l, r, e, σ') := hr
        rw [e]; exact ⟨GrowS.good hkeep, GrowS.len1 hkeep⟩
/-- A run, computed. -/
def okBc (σ : Sto) (n : Nat) : Bool := decide (σ.L.length ≤ 700000) && decide (σ.rd ≤ 80000000000) && decide (0 ≤ σ.cnt) && decide (σ.cnt ≤ 800000) && decide (n ≤ 1000000000000)
def runC (lim : Int) : Nat → List (Nat × Nat) → Sto → Option (Int × Int × Int × Sto)
  | _, [], σ => some (0, 0, 0, σ)
  | 0, _ :: _, _ => none
  | n + 1, p :: stk, σ => if okBc σ (stk.length + 1) then (match stepS lim p stk σ with
    | .go stk' σ' => runC lim n stk' σ'
    | .stop l r e σ' => some (l, r, e, σ')) else none
theorem runC_run {lim : Int} : ∀ (n : Nat) (stk : List (Nat × Nat)) (σ : Sto) (res : Int × Int × Int × Sto), runC lim n stk σ = some res → RunB lim n stk σ res := by
  intro n
  induction n with
  | zero =>
    intro stk σ res h
    cases stk with
    | nil => simp only [runC, Option.some.injEq] at h; exact h.symm
    | cons p stk => cases h
  | succ n ih =>
    intro stk σ res h
    cases stk with
    | nil => simp only [runC, Option.some.injEq] at h; exact h.symm
    | cons p stk =>
      rw [runC] at h
      split at h
      · rename_i hok
        simp only [okBc, Bool.and_eq_true, decide_eq_true_eq] at hok
        refine ⟨⟨hok.1.1.1.1, hok.1.1.1.2, hok.1.1.2, hok.1.2, hok.2⟩, ?_⟩
        generalize stepS lim p stk σ = st at h ⊢
        cases st with
        | go stk' σ' => exact ih _ _ _ h
        | stop l r e σ' => simp only [Option.some.injEq] at h; exact h.symm
      · cases h

end Go.Proofs.Ytdngjamjccjlmaa
