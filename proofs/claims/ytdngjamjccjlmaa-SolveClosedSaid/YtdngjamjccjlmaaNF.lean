/- One pair of nodes; stores without variables. No condition. -/
import Derived.Test.YtdngjamjccjlmaaNE
set_option linter.unusedSimpArgs false
set_option linter.unusedVariables false
namespace Go.Proofs.Ytdngjamjccjlmaa
open Go Go.Ab

/-- Where there is room, a run of one pair ends. -/
theorem run_one {lim : Int} {σ : Sto} (hg : GoodS σ) (hs : StV σ.L.st) {x y : Nat} (hx : x < σ.L.length) (hy : y < σ.L.length) (hw : (σ.L.st.tT x).wD + (σ.L.st.tT y).wD ≤ 2000) (hf : σ.L.st.free ≤ 10000) (hl : σ.L.length ≤ 50000) (hc0 : 0 ≤ σ.cnt) (hlim : lim ≤ 65536)
    (hc : σ.cnt + 3 * (((σ.L.st.tT x).wD + (σ.L.st.tT y).wD : Nat) : Int) ≤ lim) (hrd : σ.rd ≤ 10000000000) :
    ∃ m res, RunB lim m [(x, y)] σ res ∧ EndS σ (5 * ((σ.L.st.tT x).wD + (σ.L.st.tT y).wD) + σ.L.st.free) ((σ.L.st.tT x).wD + (σ.L.st.tT y).wD) res := by
  have hlt : Lt2 σ.L.length [(x, y)] := fun q hq => by rw [List.mem_singleton] at hq; subst hq; exact ⟨hx, hy⟩
  have ew : wL σ.L.st [(x, y)] = (σ.L.st.tT x).wD + (σ.L.st.tT y).wD := by simp [wL, wP]
  have hq : qL σ.L.st [(x, y)] ≤ 1 + 56000 := by
    refine qL_le (stk := [(x, y)]) fun q hq => Nat.le_trans (hg.si.wf.dP_le (by rw [Mem.st_len]; exact hlt) q hq) ?_
    rw [Mem.st_len]; omega
  have hM : 5 * ((σ.L.st.tT x).wD + (σ.L.st.tT y).wD) + σ.L.st.free ≤ 20000 := by omega
  have hmul : (56000 + 2) * (5 * ((σ.L.st.tT x).wD + (σ.L.st.tT y).wD) + σ.L.st.free) ≤ (56000 + 2) * 20000 := Nat.mul_le_mul_left _ hM
  have := run_ex (lim := lim) (R := 80000000000) (C := lim) (D := 56000) (K := 100000000000) (by omega) (by omega) (by omega) (Int.le_refl _) (by omega) (5 * ((σ.L.st.tT x).wD + (σ.L.st.tT y).wD) + σ.L.st.free) (zL σ.L.st [(x, y)]) σ [(x, y)] hg hs hlt (by rw [ew]; omega) (Nat.le_refl _) (by rw [ew]; omega) hc0 (by rw [ew]; exact hc) (by omega) (by omega)
  rw [ew] at this
  exact this

/-! Stores without variables. -/
def NoVar (S : St) : Prop := ∀ i, S.kind i ≠ 6
theorem run_novar {lim : Int} : ∀ (m : Nat) (stk : List (Nat × Nat)) (σ : Sto) (res : Int × Int × Int × Sto), GoodS σ → NoVar σ.L.st → Lt2 σ.L.length stk → RunB lim m stk σ res → res.2.2.1 ≠ 5 ∧ res.2.2.1 ≠ 7 ∧ res.2.2.2.cnt = σ.cnt := by
  intro m
  induction m with
  | zero =>
    intro stk σ res hg hn hlt hr
    cases stk with
    | nil => have e : res = (0, 0, 0, σ) := hr
             subst e; simp
    | cons p stk => exact hr.elim
  | succ m ih =>
    intro stk σ res hg hn hlt hr
    cases stk with
    | nil => have e : res = (0, 0, 0, σ) := hr
             subst e; simp
    | cons p stk =>
      obtain ⟨_, hr⟩ := hr
      have hp := hlt p List.mem_cons_self
      have hkeep := step_keep (lim := lim) hg hp fun q hq => hlt q (List.mem_cons_of_mem _ hq)
      have hcase := step_cases (lim := lim) hg hp stk
      have nl : lim ≤ σ.cnt + 2 → ∀ σ', stepS lim p stk σ ≠ .stop 0 0 7 σ' := fun _ σ' e => by
        unfold stepS at e
        simp only at e
        rw [if_neg (hn _), if_neg (hn _)] at e
        split at e
        · cases e
        split at e
        · cases e
        split at e
        · cases e
        split at e
        · simp at e
        · cases e
      generalize hst : stepS lim p stk σ = st at *
      cases hcase with
      | eq e => exact ih _ _ _ hkeep.1.good hn hkeep.2 hr
      | dyn z σ' hz hg' hlow hcn =>
        have := ih _ _ _ hkeep.1.good (fun i => by rw [hlow.lv.kind]; exact hn i) hkeep.2 hr
        rw [hcn] at this; exact this
      | link u w σ' huw c hs hl hcn => exact absurd c.h6 (hn _)
      | copyl S1 n fr σ' h6 k6 hns hh cp hl hcn => exact absurd h6 (hn _)
      | copyr S1 n fr σ' h6 k6 hns hh cp hl hcn => exact absurd h6 (hn _)
      | kids hne hk h6 h41 h42 => exact ih _ _ _ hkeep.1.good hn hkeep.2 hr
      | clash hk h61 h62 h41 h42 =>
        have e : res = (_, _, 4, σ) := hr
        rw [e]; simp
      | loop u w σ' huw hne h6 hh hg' hst' hcn => exact absurd h6 (hn _)
      | limit σ' hns hl => exact absurd rfl (nl hl σ')
theorem tT_closed {S : St} (hw : Wf S) (hn : NoVar S) : ∀ n, n < S.length → (S.tT n).closed = true := by
  refine hw.ind (p := fun n => n < S.length → (S.tT n).closed = true) fun n ih hn' => ?_
  have sh := hw.shT hn'
  generalize S.tT n = x at sh ⊢
  cases sh with
  | base h4 hk hc => rfl
  | dyn h4 hk hc => rfl
  | var h5 hk hc => exact absurd hk (hn _)
  | pair i j h5 hk hc hi hj => simp only [T.closed, ih i (by rw [hc]; simp) hi, ih j (by rw [hc]; simp) hj, Bool.and_self]
  | fn i j h5 hk hc hi hj => simp only [T.closed, ih i (by rw [hc]; simp) hi, ih j (by rw [hc]; simp) hj, Bool.and_self]
  | list i h5 hk hc hi => simp only [T.closed, ih i (by rw [hc]; simp) hi]
theorem free_novar {S : St} (hn : NoVar S) : S.free = 0 := by
  unfold St.free
  rw [List.countP_eq_zero]
  intro i _
  simp [St.isFree, hn i]
theorem putM_novar : ∀ (t : T) (L : Mem), NoVar L.st → t.closed = true → NoVar (putM t L).1.st := by
  have add : ∀ (L : Mem) (x : Nd), NoVar L.st → x.kind ≠ 6 → NoVar (L ++ [(x, (0 : Int))] : Mem).st := fun L x h hx i => by
    rw [Mem.st_app, St.kind, St.nd_add]
    split
    · exact hx
    · exact h i
  intro t
  induction t with
  | base k => intro L h _; exact h
  | dyn => intro L h _; exact h
  | var k => intro L h hc; cases hc
  | pair a b ih1 ih2 =>
    intro L h hc
    simp only [T.closed, Bool.and_eq_true] at hc
    exact add _ _ (ih2 _ (ih1 _ h hc.1) hc.2) (by simp)
  | fn a b ih1 ih2 =>
    intro L h hc
    simp only [T.closed, Bool.and_eq_true] at hc
    exact add _ _ (ih2 _ (ih1 _ h hc.1) hc.2) (by simp)
  | list a ih1 => intro L h hc; exact add _ _ (ih1 _ h hc) (by simp)
/-- Closed types: what they are made to agree with, and what is made for it. -/
theorem run_closed {lim : Int} {σ : Sto} (hg : GoodS σ) (hn : NoVar σ.L.st) {x y : Nat} (hx : x < σ.L.length) (hy : y < σ.L.length) (hw : (σ.L.st.tT x).wD + (σ.L.st.tT y).wD ≤ 2000) (hl : σ.L.length ≤ 50000) (hc0 : 0 ≤ σ.cnt) (hlim : lim ≤ 65536)
    (hc : σ.cnt + 3 * (((σ.L.st.tT x).wD + (σ.L.st.tT y).wD : Nat) : Int) ≤ lim) (hrd : σ.rd ≤ 10000000000) :
    ∃ m res, RunB lim m [(x, y)] σ res ∧ res.2.2.2.cnt = σ.cnt ∧ ((res.2.2.1 = 0 ∧ agreeT (σ.L.st.tT x) (σ.L.st.tT y) = true) ∨ (res.2.2.1 = 4 ∧ 0 < res.1 ∧ 0 < res.2.1 ∧ res.1 ≠ res.2.1 ∧ agreeT (σ.L.st.tT x) (σ.L.st.tT y) = false)) := by
  have hs : StV σ.L.st := fun v _ h => absurd h (hn v)
  have hlt : Lt2 σ.L.length [(x, y)] := fun q hq => by rw [List.mem_singleton] at hq; subst hq; exact ⟨hx, hy⟩
  have hx' : x < σ.L.st.length := by rw [Mem.st_len]; exact hx
  have hy' : y < σ.L.st.length := by rw [Mem.st_len]; exact hy
  have cx := tT_closed hg.si.wf hn x hx'
  have cy := tT_closed hg.si.wf hn y hy'
  obtain ⟨m, res, h1, h2⟩ := run_one hg hs hx hy hw (by rw [free_novar hn]; omega) hl hc0 hlim hc hrd
  obtain ⟨n1, n2, n3⟩ := run_novar m _ _ _ hg hn hlt h1
  refine ⟨m, res, h1, n3, ?_⟩
  rw [agO_closed _ _ cx cy]
  rcases h2.e with e | ⟨e, e1, e2, e3⟩ | e
  · left
    refine ⟨e, ?_⟩
    obtain ⟨_, b, c⟩ := run_sound m _ _ _ hg hlt h1 e
    have := c (x, y) (by simp)
    simp only at this
    rw [b.tT hg.si.wf x hx', b.tT hg.si.wf y hy', putS_closed cx, putS_closed cy] at this
    exact this
  · right
    refine ⟨e, e1, e2, e3, ?_⟩
    cases ha : agO (σ.L.st.tT x) (σ.L.st.tT y) with
    | false => rfl
    | true =>
      have := (run_comp m _ _ _ (fun _ => .base 0) hg hlt h1 n2 (fun _ => rfl) (fun p hp => by
        rw [List.mem_singleton] at hp; subst hp
        simp only
        rw [putS_closed cx, putS_closed cy]; exact ha)).1
      omega
  · exact absurd e n1

end Go.Proofs.Ytdngjamjccjlmaa
