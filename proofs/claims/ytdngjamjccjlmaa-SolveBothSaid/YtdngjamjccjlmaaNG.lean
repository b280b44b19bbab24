/- Rows of pairs, made to agree one behind the other. No condition. -/
import Derived.Test.YtdngjamjccjlmaaPNc
import Derived.Test.YtdngjamjccjlmaaW17
set_option linter.unusedSimpArgs false
set_option linter.unusedVariables false
namespace Go.Proofs.Ytdngjamjccjlmaa
open Go Go.Ab

def rowOf : List (T × T) → T
  | [] => .base 3
  | p :: l => .pair (.pair p.1 p.2) (rowOf l)
theorem rowOf_put (σ : Int → T) : ∀ l : List (T × T), putS σ (rowOf l) = rowOf (l.map fun p => (putS σ p.1, putS σ p.2))
  | [] => rfl
  | p :: l => by simp only [rowOf, putS, List.map_cons, rowOf_put σ l]
def RowN (S : St) : Nat → List (Nat × Nat) → Prop
  | _, [] => True
  | n, p :: ps => ∃ k0 k1, n < S.length ∧ k0 < S.length ∧ k1 < S.length ∧ S.kind (S.root n) = 7 ∧ S.kids (S.root n) = [k0, k1] ∧ S.kind (S.root k0) = 7 ∧ S.kids (S.root k0) = [p.1, p.2] ∧ RowN S k1 ps
theorem RowN.ext {S S' : St} (hw : Wf S) (h : Ext S S') : ∀ {ps : List (Nat × Nat)} {n : Nat}, RowN S n ps → RowN S' n ps
  | [], _, _ => trivial
  | p :: ps, n, ⟨k0, k1, h1, h2, h3, h4, h5, h6, h7, h8⟩ => by
    have hle := h.len
    have r1 : S'.root n = S.root n := by rw [h.root hw n]; exact h.root_eq hw (hw.root_lt n h1) (by omega)
    have r2 : S'.root k0 = S.root k0 := by rw [h.root hw k0]; exact h.root_eq hw (hw.root_lt k0 h2) (by omega)
    refine ⟨k0, k1, by omega, by omega, by omega, ?_, ?_, ?_, ?_, RowN.ext hw h h8⟩
    · rw [r1, h.kind _ (hw.root_lt n h1), h4]
    · rw [r1, h.kids _ (hw.root_lt n h1), h5]
    · rw [r2, h.kind _ (hw.root_lt k0 h2), h6]
    · rw [r2, h.kids _ (hw.root_lt k0 h2), h7]
theorem tT_pair {S : St} (hw : Wf S) {n : Nat} (hn : n < S.length) {a b : T} (h : S.tT n = .pair a b) : ∃ i j, S.kind (S.root n) = 7 ∧ S.kids (S.root n) = [i, j] ∧ i < S.length ∧ j < S.length ∧ S.tT i = a ∧ S.tT j = b := by
  have sh := hw.shT hn
  rw [h] at sh
  generalize hx : T.pair a b = x at sh
  cases sh with
  | pair i j h5 hk hc hi hj => simp only [T.pair.injEq] at hx; exact ⟨i, j, hk, hc, hi, hj, hx.1.symm, hx.2.symm⟩
  | _ => cases hx
theorem rowN_of {S : St} (hw : Wf S) : ∀ (l : List (T × T)) (n : Nat), n < S.length → S.tT n = rowOf l → ∃ ps : List (Nat × Nat), RowN S n ps ∧ ps.map (fun p => (S.tT p.1, S.tT p.2)) = l ∧ Lt2 S.length ps
  | [], _, _, _ => ⟨[], trivial, rfl, fun q hq => by cases hq⟩
  | p :: l, n, hn, h => by
    obtain ⟨k0, k1, a1, a2, a3, a4, a5, a6⟩ := tT_pair hw hn h
    obtain ⟨i, j, b1, b2, b3, b4, b5, b6⟩ := tT_pair hw a3 a5
    obtain ⟨ps, c1, c2, c3⟩ := rowN_of hw l k1 a4 a6
    refine ⟨(i, j) :: ps, ⟨k0, k1, hn, a3, a4, a1, a2, b1, b2, c1⟩, ?_, fun q hq => ?_⟩
    · simp only [List.map_cons, c2, b5, b6]
    · rcases List.mem_cons.1 hq with rfl | hq
      · exact ⟨b3, b4⟩
      · exact c3 q hq
def SeqB (lim : Int) : List (Nat × Nat) → Sto → Int × Sto → Prop
  | [], σ, r => r = (0, σ)
  | p :: ps, σ, r => ∃ m res, RunB lim m [p] σ res ∧ if res.2.2.1 = 0 then SeqB lim ps res.2.2.2 r else r = (res.2.2.1, res.2.2.2)
theorem seq_sound {lim : Int} : ∀ (ps : List (Nat × Nat)) (σ : Sto) (r : Int × Sto), GoodS σ → Lt2 σ.L.length ps → SeqB lim ps σ r → r.1 = 0 → GoodS r.2 ∧ Ext σ.L.st r.2.L.st ∧ ∀ p ∈ ps, agO (r.2.L.st.tT p.1) (r.2.L.st.tT p.2) = true
  | [], σ, r, hg, _, h, _ => by
    have e : r = (0, σ) := h
    subst e; exact ⟨hg, Ext.refl hg.si.wf, by simp⟩
  | p :: ps, σ, r, hg, hlt, ⟨m, res, h1, h2⟩, he => by
    have hp := hlt p List.mem_cons_self
    have hlp : Lt2 σ.L.length [p] := fun q hq => by rw [List.mem_singleton] at hq; subst hq; exact hp
    split at h2
    · rename_i e
      obtain ⟨a1, a2, a3⟩ := run_sound m _ _ _ hg hlp h1 e
      have hle := a2.len
      rw [Mem.st_len, Mem.st_len] at hle
      obtain ⟨b1, b2, b3⟩ := seq_sound ps _ r a1 (fun q hq => ⟨by have := (hlt q (List.mem_cons_of_mem _ hq)).1; omega, by have := (hlt q (List.mem_cons_of_mem _ hq)).2; omega⟩) h2 he
      refine ⟨b1, a2.trans b2, fun q hq => ?_⟩
      rcases List.mem_cons.1 hq with rfl | hq
      · rw [b2.tT a1.si.wf _ (by rw [Mem.st_len]; omega), b2.tT a1.si.wf _ (by rw [Mem.st_len]; omega)]
        exact agO_put _ _ (a3 q (by simp))
      · exact b3 q hq
    · rename_i e; rw [h2] at he; exact absurd he e
theorem seq_comp {lim : Int} : ∀ (ps : List (Nat × Nat)) (σ : Sto) (r : Int × Sto) (val : Int → T), GoodS σ → Lt2 σ.L.length ps → SeqB lim ps σ r → r.1 ≠ 7 → (∀ z, (val z).static = true) → (∀ p ∈ ps, agO (putS val (σ.L.st.tT p.1)) (putS val (σ.L.st.tT p.2)) = true) →
    r.1 = 0 ∧ ∃ val' : Int → T, (∀ z, (val' z).static = true) ∧ ∀ n, n < σ.L.length → putS val' (r.2.L.st.tT n) = putS val (σ.L.st.tT n)
  | [], σ, r, val, hg, _, h, _, hv, _ => by
    have e : r = (0, σ) := h
    subst e; exact ⟨rfl, val, hv, fun _ _ => rfl⟩
  | p :: ps, σ, r, val, hg, hlt, ⟨m, res, h1, h2⟩, he, hv, ha => by
    have hp := hlt p List.mem_cons_self
    have hlp : Lt2 σ.L.length [p] := fun q hq => by rw [List.mem_singleton] at hq; subst hq; exact hp
    obtain ⟨a1, a2⟩ := run_good m _ _ _ hg hlp h1
    have hne : res.2.2.1 ≠ 7 := fun e => by
      rw [if_neg (by omega)] at h2
      rw [h2] at he; exact he e
    obtain ⟨c1, val1, c2, c3⟩ := run_comp m _ _ _ val hg hlp h1 hne hv (fun q hq => ha q (by rw [List.mem_singleton] at hq; subst hq; exact List.mem_cons_self))
    rw [if_pos c1] at h2
    have hlt' : ∀ q ∈ ps, q.1 < σ.L.length ∧ q.2 < σ.L.length := fun q hq => hlt q (List.mem_cons_of_mem _ hq)
    obtain ⟨d1, val2, d2, d3⟩ := seq_comp ps _ r val1 a1 (fun q hq => ⟨by have := (hlt' q hq).1; omega, by have := (hlt' q hq).2; omega⟩) h2 he c2 fun q hq => by
      rw [c3 _ (hlt' q hq).1, c3 _ (hlt' q hq).2]; exact ha q (List.mem_cons_of_mem _ hq)
    exact ⟨d1, val2, d2, fun n hn => by rw [d3 n (by omega), c3 n hn]⟩
structure EndQ (σ : Sto) (w k : Nat) (r : Int × Sto) : Prop where
  good : GoodS r.2
  stv : StV r.2.L.st
  ext : Ext σ.L.st r.2.L.st
  e : r.1 = 0 ∨ r.1 = 4 ∨ r.1 = 5
  len : r.2.L.length ≤ σ.L.length + 3 * w
  cnt1 : σ.cnt ≤ r.2.cnt
  cnt : r.2.cnt ≤ σ.cnt + 3 * w
  free : r.2.L.st.free ≤ 5 * w + σ.L.st.free
  rd : r.2.rd ≤ σ.rd + 40000 * k
theorem seq_ex {lim : Int} (hlim : lim ≤ 65536) : ∀ (ps : List (Nat × Nat)) (σ : Sto), GoodS σ → StV σ.L.st → Lt2 σ.L.length ps → 5 * wL σ.L.st ps + σ.L.st.free ≤ 10000 → σ.L.length + 3 * wL σ.L.st ps ≤ 50000 → 0 ≤ σ.cnt → σ.cnt + 3 * wL σ.L.st ps ≤ lim → σ.rd + 40000 * ps.length ≤ 10000000000 →
    ∃ r, SeqB lim ps σ r ∧ EndQ σ (wL σ.L.st ps) ps.length r
  | [], σ, hg, hs, _, _, _, hc0, _, _ => ⟨(0, σ), rfl, hg, hs, Ext.refl hg.si.wf, .inl rfl, by simp only; omega, Int.le_refl _, by simp only; omega, by simp only; omega, by simp only; omega⟩
  | p :: ps, σ, hg, hs, hlt, h1, h2, h3, h4, h5 => by
    have hp := hlt p List.mem_cons_self
    have hlt' : Lt2 σ.L.length ps := fun q hq => hlt q (List.mem_cons_of_mem _ hq)
    have ew : wL σ.L.st (p :: ps) = (σ.L.st.tT p.1).wD + (σ.L.st.tT p.2).wD + wL σ.L.st ps := rfl
    rw [ew] at h1 h2 h4
    rw [List.length_cons] at h5
    push_cast at h5
    obtain ⟨m, res, q1, q2⟩ := run_one (lim := lim) hg hs hp.1 hp.2 (by omega) (by omega) (by omega) h3 hlim (by omega) (by omega)
    have q3 := q2.len
    have q4 := q2.free
    have q5 := q2.cnt
    have q6 := q2.cnt1
    have q7 := q2.rd
    have hle := q2.ext.len
    rw [Mem.st_len, Mem.st_len] at hle
    by_cases e : res.2.2.1 = 0
    · have hwl := wL_ext hg.si.wf q2.ext q2.stv (stk := ps) (by rw [Mem.st_len]; exact hlt')
      obtain ⟨r, c1, c2⟩ := seq_ex hlim ps res.2.2.2 q2.good q2.stv (hlt'.mono hle) (by rw [hwl]; omega) (by rw [hwl]; omega) (by omega) (by rw [hwl]; omega) (by omega)
      rw [hwl] at c2
      refine ⟨r, ⟨m, res, q1, by rw [if_pos e]; exact c1⟩, c2.good, c2.stv, q2.ext.trans c2.ext, c2.e, ?_, ?_, ?_, ?_, ?_⟩
      · have := c2.len; rw [ew]; omega
      · have := c2.cnt1; omega
      · have := c2.cnt; rw [ew]; omega
      · have := c2.free; rw [ew]; omega
      · have := c2.rd; rw [List.length_cons]; push_cast; omega
    · refine ⟨(res.2.2.1, res.2.2.2), ⟨m, res, q1, by rw [if_neg e]⟩, q2.good, q2.stv, q2.ext, ?_, ?_, q6, ?_, ?_, ?_⟩
      · rcases q2.e with h | h | h
        · exact .inl h
        · exact .inr (.inl h.1)
        · exact .inr (.inr h)
      · rw [ew]; simp only; omega
      · rw [ew]; simp only; omega
      · rw [ew]; simp only; omega
      · rw [List.length_cons]; push_cast; omega
def NoLink (S : St) : Prop := ∀ i, S.link i = none
theorem NoLink.stv {S : St} (hw : Wf S) (h : NoLink S) : StV S := fun v hv h6 => by rw [hw.tT_free hv h6 (h v)]; rfl
theorem NoLink.lvok {S : St} (hw : Wf S) (h : NoLink S) : LvOK S := fun v hv h6 w hh => by
  rw [hw.tT_free hv h6 (h v)] at hh
  simp only [T.has, decide_eq_true_eq] at hh
  have : w = v := by omega
  subst this; exact Int.le_refl _
theorem NoLink.add {L : Mem} (h : NoLink L.st) {x : Nd} (hx : x.link = none) : NoLink (L ++ [(x, (0 : Int))] : Mem).st := fun i => by
  rw [Mem.st_app, St.link, St.nd_add]
  split
  · exact hx
  · exact h i
theorem madeM_nolink (lvl : Int) : ∀ (t : T) (L : Mem) (Z : List (Int × Int)), NoLink L.st → NoLink (madeM lvl t L Z).1.st := by
  intro t
  induction t with
  | base k => intro L Z h; exact h
  | dyn => intro L Z h; exact h
  | var k =>
    intro L Z h
    rw [madeM]
    split
    · exact h
    · exact h.add rfl
  | pair a b ih1 ih2 => intro L Z h; exact (ih2 _ _ (ih1 _ _ h)).add rfl
  | fn a b ih1 ih2 => intro L Z h; exact (ih2 _ _ (ih1 _ _ h)).add rfl
  | list a ih1 => intro L Z h; exact (ih1 _ _ h).add rfl
theorem noLink0 : NoLink mem0.st := fun i => by
  match i with
  | 0 | 1 | 2 | 3 | 4 => rfl
  | i + 5 => rfl
theorem free_len (S : St) : S.free ≤ S.length := by
  unfold St.free
  have := List.countP_le_length (p := S.isFree) (l := List.range S.length)
  rwa [List.length_range] at this

end Go.Proofs.Ytdngjamjccjlmaa
