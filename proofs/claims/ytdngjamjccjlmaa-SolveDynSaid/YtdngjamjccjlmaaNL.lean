/- What agrees with ? has levels of zero alone: the rounds of the law. No condition. -/
import Derived.Test.YtdngjamjccjlmaaNK
import Derived.Test.YtdngjamjccjlmaaNG
import Derived.Test.YtdngjamjccjlmaaW20
set_option linter.unusedSimpArgs false
set_option linter.unusedVariables false
namespace Go.Proofs.Ytdngjamjccjlmaa
open Go Go.Ab

structure DynI (vs : List Nat) (mm i : Nat) (σ : Sto) : Prop where
  good : GoodS σ
  stv : StV σ.L.st
  lvok : LvOK σ.L.st
  lt : ∀ v ∈ vs, v < σ.L.st.length ∧ σ.L.st.kind v = 6
  lev : ∀ v ∈ vs, (σ.L.st.nd v).level = 0
  away : ∀ j, i ≤ j → j < vs.length → σ.L.st.link (vs.getD j 0) = none ∧ (σ.L.st.tT mm).has (vs.getD j 0 : Nat) = false
  mlt : mm < σ.L.st.length
  w : (σ.L.st.tT mm).wD ≤ 225
  len : σ.L.length ≤ 1000 + 700 * i
  cnt1 : 0 ≤ σ.cnt
  cnt : σ.cnt ≤ 1000 + 700 * i
  rd : σ.rd ≤ 1000 + 100000 * i
  free : σ.L.st.free ≤ 1000 + 1200 * i
theorem dyn_step {vs : List Nat} {mm i : Nat} {σ : Sto} (hn : vs.Nodup) (h12 : vs.length ≤ 12) (h : DynI vs mm i σ) (hi : i < vs.length) : ∃ m res, RunB 65536 m [(mm, vs.getD i 0)] σ res ∧ res.2.2.1 ≠ 7 ∧ DynI vs mm (i + 1) res.2.2.2 := by
  have hw := h.good.si.wf
  have hvm : vs.getD i 0 ∈ vs := by simp [hi]
  obtain ⟨v1, v2⟩ := h.lt _ hvm
  obtain ⟨v3, v4⟩ := h.away i (Nat.le_refl _) hi
  have tv := hw.tT_free v1 v2 v3
  have e0 : (σ.L.st.tT (vs.getD i 0)).wD = 0 := by rw [tv]; rfl
  have hml := h.mlt
  rw [Mem.st_len] at v1 hml
  have hww := h.w
  have hlen := h.len
  have hc := h.cnt
  have hrd := h.rd
  have hfr := h.free
  obtain ⟨m, res, h1, h2⟩ := run_one (lim := 65536) h.good h.stv hml v1 (by rw [e0]; omega) (by omega) (by omega) h.cnt1 (by omega) (by rw [e0]; push_cast; omega) (by omega)
  rw [e0] at h2
  have ne7 : res.2.2.1 ≠ 7 := by
    rcases h2.e with e | e | e
    · omega
    · have := e.1; omega
    · omega
  have hlp : Lt2 σ.L.length [(mm, vs.getD i 0)] := fun q hq => by rw [List.mem_singleton] at hq; subst hq; exact ⟨hml, v1⟩
  have hx := h2.ext
  refine ⟨m, res, h1, ne7, h2.good, h2.stv, h2.lvok h.lvok, fun v hv => ?_, fun v hv => ?_, fun j hj hjl => ?_, Nat.lt_of_lt_of_le h.mlt hx.len, ?_, ?_, ?_, ?_, ?_, ?_⟩
  · obtain ⟨a, b⟩ := h.lt v hv
    exact ⟨Nat.lt_of_lt_of_le a hx.len, by rw [hx.kind v a]; exact b⟩
  · obtain ⟨a, b⟩ := h.lt v hv
    have h3 := h2.low v a
    have h4 := h2.good.lv v (by rw [hx.kind v a]; exact b)
    have h5 := h.lev v hv
    omega
  · have hjm : vs.getD j 0 ∈ vs := by simp [hjl]
    obtain ⟨a1, a2⟩ := h.lt _ hjm
    obtain ⟨a3, a4⟩ := h.away j (by omega) hjl
    have hne : vs.getD j 0 ≠ vs.getD i 0 := fun e => by
      have e' : vs[j] = vs[i] := by simpa [hjl, hi] using e
      exact (List.pairwise_iff_getElem.1 hn i j hi hjl (by omega)) e'.symm
    rw [Mem.st_len] at a1
    obtain ⟨b1, b2⟩ := run_away m _ _ _ h.good hlp h1 ne7 a1 a2 a3 (fun q hq => by
      rw [List.mem_singleton] at hq; subst hq
      refine ⟨a4, ?_⟩
      rw [tv]
      simp only [T.has, decide_eq_false_iff_not]
      omega)
    exact ⟨b1, by rw [b2 mm hml]; exact a4⟩
  · rw [hx.wD hw h2.stv h.mlt]; exact hww
  · have := h2.len; omega
  · have := h2.cnt1; have := h.cnt1; omega
  · have := h2.cnt; push_cast at this ⊢; omega
  · have := h2.rd; push_cast at this ⊢; omega
  · have := h2.free; omega
/-- What is within a variable at the end. -/
theorem dyn_end {vs : List Nat} {mm i : Nat} {σ : Sto} (h : DynI vs mm i σ) {v k : Nat} (hv : v ∈ vs) (hk : k ∈ σ.L.st.vars v) : k < σ.L.st.length ∧ σ.L.st.root k = k ∧ σ.L.st.kind k = 6 ∧ (σ.L.st.nd k).level = 0 := by
  have hw := h.good.si.wf
  obtain ⟨a1, a2⟩ := h.lt v hv
  obtain ⟨b1, b2, b3⟩ := vars_root hw a1 hk
  refine ⟨b3, b1, b2, ?_⟩
  have h1 := (hw.has_iff v a1 k).2 ((hw.mem_vars a1).1 hk)
  have h2 := h.lvok v a1 a2 k h1
  have h3 := h.lev v hv
  have h4 := h.good.lv k b2
  omega
theorem DynI.mark {vs : List Nat} {mm i : Nat} {σ : Sto} (h : DynI vs mm i σ) (n : Nat) (hr : (σ.mark n).rd ≤ 1000 + 100000 * i) : DynI vs mm i (σ.mark n) := by
  have e := σ.mark1_st n
  refine ⟨h.good.mark n, ?_, ?_, ?_, ?_, ?_, ?_, ?_, ?_, h.cnt1, h.cnt, hr, ?_⟩
  · rw [e]; exact h.stv
  · rw [e]; exact h.lvok
  · rw [e]; exact h.lt
  · rw [e]; exact h.lev
  · rw [e]; exact h.away
  · rw [e]; exact h.mlt
  · rw [e]; exact h.w
  · rw [σ.mark1_len]; exact h.len
  · rw [e]; exact h.free
/-- A node and ?. -/
theorem run_dyn {lim : Int} {σ : Sto} (hg : GoodS σ) (hok : okB σ 1) {n : Nat} (hn : n < σ.L.length) (hr : σ.L.st.root n = n) : RunB lim 1 [(n, 4)] σ (0, 0, 0, if n = 4 then σ else σ.low n 0) := by
  have h5 := hg.si.wf.five
  have e4 := hg.si.wf.leaf 4 (by omega)
  have r4 : σ.L.st.root 4 = 4 := root_none (by rw [St.link, e4])
  refine ⟨hok, ?_⟩
  unfold stepS
  simp only [hr, r4]
  by_cases e : n = 4
  · rw [if_pos e, if_pos e]; exact rfl
  · rw [if_neg e, if_neg e, if_neg e]; exact rfl
theorem dyn_init {a b : T} {lv : Int} (hl : 0 ≤ lv) (hsz : a.size + b.size ≤ 225) (hva : (a.varsF []).length ≤ 12) {L1 L2 : Mem} {Z1 Z2 : List (Int × Int)} {n mm : Nat} (e1 : madeM lv a mem0 [] = (L1, Z1, n)) (e2 : madeM lv b L1 [] = (L2, Z2, mm)) (v : Nat) {c : Int} (hc : 0 ≤ c ∧ c ≤ 500) :
    GoodS ⟨L2, v, c, 0⟩ ∧ n < L2.length ∧ L2.st.root n = n ∧ ∃ σ1, RunB 65536 1 [(n, 4)] ⟨L2, v, c, 0⟩ (0, 0, 0, σ1) ∧ GoodS σ1 ∧ n < σ1.L.length ∧ σ1.rd ≤ 1 ∧ σ1.L.length ≤ 500 ∧ (σ1.L.st.vars n).Nodup ∧ (σ1.L.st.vars n).length ≤ 12 ∧ DynI (σ1.L.st.vars n) mm 0 (σ1.mark n) := by
  have l1 := madeM_len lv a mem0 []
  have l2 := madeM_len lv b L1 []
  obtain ⟨s1, o1⟩ := madeM_ok lv a mem0 [] SI.mem0 (VI_nil _)
  have m1 := madeM_st lv a mem0 []
  have m2 := madeM_st lv b L1 []
  have nl1 := madeM_nolink lv a mem0 [] noLink0
  rw [e1] at l1 s1 o1 m1 nl1
  simp only at l1 s1 o1 m1 nl1
  obtain ⟨s2, o2⟩ := madeM_ok lv b L1 [] s1 (VI_nil _)
  have nl2 := madeM_nolink lv b L1 [] nl1
  rw [e2] at l2 s2 o2 m2 nl2
  simp only at l2 s2 o2 m2 nl2
  have l0 : mem0.length = 5 := rfl
  obtain ⟨w1, w2, hn1, hle, hm2, t1, t2, f1, f2, _, _⟩ := lev_two (t := a) (u := b) (a := lv) (b := lv) (S1 := L1.st) (S2 := L2.st) (Z1 := Z1) (Z2 := Z2) (n := n) (mm := mm) (by rw [m1.1, m1.2]) (by rw [m2.1, m2.2]) (by rw [Mem.st_len]; omega)
  have hnl : n < L2.length := by rw [← Mem.st_len]; omega
  have hr : L2.st.root n = n := by rw [(o2.oldt n hn1).2]; exact o1.root
  have tn := w2.tT_of (by rw [Mem.st_len]; exact hnl) t1
  have tm := w2.tT_of hm2 t2
  have hg : GoodS ⟨L2, v, c, 0⟩ := by
    refine ⟨s2, fun k hk => ?_⟩
    simp only at hk ⊢
    by_cases h5 : k < mem0.st.length
    · rw [St.kind, o2.old k (by rw [Mem.st_len] at h5 ⊢; omega), o1.old k h5, wf_mem0.leaf k h5] at hk
      simp only at hk
      rw [Mem.st_len] at h5
      omega
    · by_cases hk1 : k < L1.st.length
      · rw [o2.old k hk1]
        rw [o1.lvl k (by omega) hk1 (by rw [St.kind, o2.old k hk1] at hk; exact hk)]; exact hl
      · by_cases hk2 : k < L2.st.length
        · rw [o2.lvl k (by omega) hk2 hk]; exact hl
        · rw [St.nd_ge (by omega)]; decide
  have hok : okB ⟨L2, v, c, 0⟩ 1 := ⟨by simp only; omega, by simp only; omega, hc.1, by simp only; omega, by omega⟩
  have hrun := run_dyn (lim := 65536) hg hok (n := n) hnl hr
  obtain ⟨σ1, hσ1⟩ : ∃ σ1 : Sto, σ1 = if n = 4 then (⟨L2, v, c, 0⟩ : Sto) else (⟨L2, v, c, 0⟩ : Sto).low n 0 := ⟨_, rfl⟩
  rw [← hσ1] at hrun
  -- the levels within n are none
  have hlow : Lv L2.st σ1.L.st ∧ GoodS σ1 ∧ σ1.rd ≤ 1 ∧ 0 ≤ σ1.rd ∧ σ1.cnt = c ∧ ∀ z ∈ L2.st.vars n, (σ1.L.st.nd z).level = 0 := by
    by_cases e : n = 4
    · rw [hσ1, if_pos e]
      refine ⟨Lv.refl _, hg, by simp, by simp, rfl, fun z hz => ?_⟩
      obtain ⟨q1, q2, q3⟩ := vars_root w2 (by rw [Mem.st_len]; exact hnl) hz
      have h1 := (w2.has_iff n (by rw [Mem.st_len]; exact hnl) z).2 ((w2.mem_vars (by rw [Mem.st_len]; exact hnl)).1 hz)
      have sh := w2.shT (n := n) (by rw [Mem.st_len]; exact hnl)
      rw [hr] at sh
      generalize L2.st.tT n = x at sh h1
      cases sh with
      | base h4 => omega
      | dyn => simp [T.has] at h1
      | _ => omega
    · rw [hσ1, if_neg e]
      obtain ⟨a1, a2⟩ := Sto.low_ok hg hnl (lv := 0) (Int.le_refl _)
      refine ⟨a2.lv, a1, Int.le_refl _, by show (0 : Int) ≤ 0 + 1; omega, rfl, fun z hz => ?_⟩
      have h6 := (vars_root w2 (by rw [Mem.st_len]; exact hnl) hz).2.1
      have hz0 := hg.lv z h6
      rw [a2.level, if_pos hz]
      simp only at hz0 ⊢
      omega
  obtain ⟨hlv, hg1, hrd, hrd0, hcn, hz⟩ := hlow
  have hvs : σ1.L.st.vars n = L2.st.vars n := by
    unfold St.vars St.all
    rw [hlv.look]
    congr 1
    funext i
    rw [hlv.kind]
  have hlen1 : σ1.L.length = L2.length := by have := hlv.len; rwa [Mem.st_len, Mem.st_len] at this
  have hfr := free_len L2.st
  rw [Mem.st_len] at hfr
  have hstv : StV σ1.L.st := (nl2.stv w2).lv hlv
  have hmm : mm < σ1.L.st.length := by rw [hlv.len]; exact hm2
  refine ⟨hg, hnl, hr, σ1, hrun, hg1, by omega, hrd, by omega, ?_, ?_, ?_⟩
  · rw [hvs]; exact (w2.nodup_all (by rw [Mem.st_len]; exact hnl)).filter _
  · rw [hvs, o1.varsAt w2 (by rw [Mem.st_len]; omega) (by rw [Mem.st_len]; exact hnl) (o2.oldt n hn1).1]; exact hva
  · rw [hvs]
    refine DynI.mark ⟨hg1, hstv, ?_, fun x hx => ?_, hz, fun j _ hjl => ?_, hmm, ?_, by omega, by rw [hcn]; exact hc.1, by rw [hcn]; omega, by omega, by rw [hlv.free]; omega⟩ n (by show σ1.rd + 1 ≤ _; omega)
    · exact NoLink.lvok hg1.si.wf fun i => by rw [hlv.link]; exact nl2 i
    · obtain ⟨q1, q2, q3⟩ := vars_root w2 (by rw [Mem.st_len]; exact hnl) hx
      exact ⟨by rw [hlv.len]; exact q3, by rw [hlv.kind]; exact q2⟩
    · have hjm : (L2.st.vars n).getD j 0 ∈ L2.st.vars n := by simp [hjl]
      refine ⟨by rw [hlv.link]; exact nl2 _, ?_⟩
      have h1 := (w2.has_iff n (by rw [Mem.st_len]; exact hnl) _).2 ((w2.mem_vars (by rw [Mem.st_len]; exact hnl)).1 hjm)
      rw [tn] at h1
      have h2 := (f1 _ h1).1
      rw [hlv.tT, tm]
      cases h3 : (putS (fun k => .var (nu Z2 k)) b).has ((L2.st.vars n).getD j 0 : Nat) with
      | false => rfl
      | true => have := (f2 _ h3).1; omega
    · rw [hlv.tT, tm, wD_put _ (fun _ _ => rfl)]
      have := wD_size b; omega

end Go.Proofs.Ytdngjamjccjlmaa
