/- Pairs that may agree are made to. No condition. -/
import Derived.Test.YtdngjamjccjlmaaND
set_option linter.unusedSimpArgs false
set_option linter.unusedVariables false
namespace Go.Proofs.Ytdngjamjccjlmaa
open Go Go.Ab

theorem putS_static {σ : Int → T} (h : ∀ z, (σ z).static = true) {a : T} (ha : a.static = true) : (putS σ a).static = true := static_closed_put a (fun n _ => h n) ha
/-- A link to what a variable is valued: all values stay. -/
theorem CanLk.val {S : St} {x y : Nat} (hw : Wf S) (c : CanLk S x y) {val : Int → T} (h : val x = putS val (S.tT y)) {n : Nat} (hn : n < S.length) : putS val ((S.lk x y).tT n) = putS val (S.tT n) := by
  rw [c.tT hw hn, put_put]
  refine put_congr _ fun z _ => ?_
  split
  · rename_i e; rw [e, h]
  · rfl
theorem LinkS.val {S : St} {x y : Nat} {σ' : Sto} (hw : Wf S) (c : CanLk S x y) (hl : LinkS S x y σ') {val : Int → T} (h : val x = putS val (S.tT y)) {n : Nat} (hn : n < S.length) : putS val (σ'.L.st.tT n) = putS val (S.tT n) := by
  rw [hl.tT]; exact c.val hw h hn
/-- Values of new variables, ahead of others. -/
def valU (val : Int → T) (L : Nat) (c0 c1 : T) : Int → T := fun z => if z = L then c0 else if z = (L + 1 : Nat) then c1 else val z
theorem valU_old {S : St} (hw : Wf S) {val : Int → T} {c0 c1 : T} {n : Nat} (hn : n < S.length) : putS (valU val S.length c0 c1) (S.tT n) = putS val (S.tT n) := by
  refine put_congr _ fun z hz => ?_
  obtain ⟨m, rfl, h1, _⟩ := hw.has_nat n hn z hz
  unfold valU
  rw [if_neg (by omega), if_neg (by omega)]
/-- A static type that agrees with a list's, a pair's or function's. -/
theorem agO_list_inv {s b : T} (hs : s.static = true) (h : agO s (.list b) = true) : ∃ c, s = .list c ∧ c.static = true ∧ agO c b = true := by
  cases s <;> simp only [agO, T.static, Bool.false_eq_true] at h hs
  exact ⟨_, rfl, hs, h⟩
theorem agO_mkB_inv {s a b : T} {k : Int} (hs : s.static = true) (h : agO s (mkB k a b) = true) : ∃ c d, s = mkB k c d ∧ c.static = true ∧ d.static = true ∧ agO c a = true ∧ agO d b = true := by
  unfold mkB at h ⊢
  split at h
  · rename_i e
    cases s <;> simp only [agO, T.static, Bool.and_eq_true, Bool.false_eq_true] at h hs
    simp only [if_pos e]
    exact ⟨_, _, rfl, hs.1, hs.2, h.1, h.2⟩
  · rename_i e
    cases s <;> simp only [agO, T.static, Bool.and_eq_true, Bool.false_eq_true] at h hs
    simp only [if_neg e]
    exact ⟨_, _, rfl, hs.1, hs.2, h.1, h.2⟩
/-- What a copy comes to, with values. -/
theorem cpy_val {S S1 : St} {x y m : Nat} {fr : List Nat} {σ' : Sto} (hw : Wf S) (hx : x < S.length) (hy : y < S.length) (ey : S.root y = y) (cp : CpyOK S S1 x y m fr) (hl : LinkS S1 x m σ') {val : Int → T} (hv : ∀ z, (val z).static = true)
    (ha : agO (val x) (putS val (S.tT y)) = true) : ∃ val' : Int → T, (∀ z, (val' z).static = true) ∧ (∀ n, n < S.length → putS val' (σ'.L.st.tT n) = putS val (S.tT n)) ∧
      ∀ q ∈ fr.zip (S.kids y), agO (putS val' (σ'.L.st.tT q.1)) (putS val' (σ'.L.st.tT q.2)) = true := by
  have hml : m < S1.length := by rw [cp.len]; omega
  have hxs : ∀ c0 c1, valU val S.length c0 c1 x = val x := fun c0 c1 => by unfold valU; rw [if_neg (by omega), if_neg (by omega)]
  have old : ∀ c0 c1, val x = putS (valU val S.length c0 c1) (S1.tT m) → ∀ n, n < S.length → putS (valU val S.length c0 c1) (σ'.L.st.tT n) = putS val (S.tT n) := fun c0 c1 h n hn => by
    have := cp.ext.len
    rw [hl.val cp.wf cp.can (by rw [hxs]; exact h) (by omega), cp.tT n hn, valU_old hw hn]
  have new : ∀ c0 c1, val x = putS (valU val S.length c0 c1) (S1.tT m) → ∀ f ∈ fr, putS (valU val S.length c0 c1) (σ'.L.st.tT f) = valU val S.length c0 c1 f := fun c0 c1 h f hf => by
    obtain ⟨_, h2, _⟩ := cp.frs f hf
    rw [hl.val cp.wf cp.can (by rw [hxs]; exact h) (by rw [cp.len]; omega), cp.tT_fr hf]; rfl
  rcases cp.two with ⟨a, hk, hf, hm, hkd⟩ | ⟨a, b, hk, hf, hm, hkd⟩
  · have hal := hw.kid_lt y a (by rw [hk]; simp)
    rw [hw.node1 hy ey hk, putS] at ha
    obtain ⟨c, hc, hcs, hca⟩ := agO_list_inv (hv x) ha
    have tm : S1.tT m = .list (.var S.length) := by
      have k := cp.kids
      rw [hf] at k
      rw [cp.wf.node1 hml cp.root k, cp.tT_fr (f := S.length) (by rw [hf]; simp)]
    have hxm : val x = putS (valU val S.length c c) (S1.tT m) := by rw [tm, hc]; simp [putS, valU]
    refine ⟨valU val S.length c c, fun z => ?_, old c c hxm, fun q hq => ?_⟩
    · unfold valU; split; exact hcs; split; exact hcs; exact hv z
    · rw [hk, hf] at hq
      simp only [List.zip_cons_cons, List.zip_nil_right, List.mem_singleton] at hq
      subst hq
      simp only
      rw [old c c hxm a hal, new c c hxm S.length (by rw [hf]; simp)]
      unfold valU; rw [if_pos rfl]; exact hca
  · have hal := hw.kid_lt y a (by rw [hk]; simp)
    have hbl := hw.kid_lt y b (by rw [hk]; simp)
    rw [hw.node2 hy ey hk, mkB_put] at ha
    obtain ⟨c, d, hc, hcs, hds, hca, hda⟩ := agO_mkB_inv (hv x) ha
    have tm : S1.tT m = mkB (S.kind y) (.var S.length) (.var (S.length + 1 : Nat)) := by
      have k := cp.kids
      rw [hf] at k
      rw [cp.wf.node2 hml cp.root k, cp.kind, cp.tT_fr (f := S.length) (by rw [hf]; simp), cp.tT_fr (f := S.length + 1) (by rw [hf]; simp)]
    have hxm : val x = putS (valU val S.length c d) (S1.tT m) := by
      rw [tm, hc, mkB_put]
      simp only [putS, valU, if_true]
      rw [if_neg (by omega)]
    refine ⟨valU val S.length c d, fun z => ?_, old c d hxm, fun q hq => ?_⟩
    · unfold valU; split; exact hcs; split; exact hds; exact hv z
    · rw [hk, hf] at hq
      simp only [List.zip_cons_cons, List.zip_nil_right, List.mem_cons, List.not_mem_nil, or_false] at hq
      rcases hq with rfl | rfl
      · simp only
        rw [old c d hxm a hal, new c d hxm S.length (by rw [hf]; simp)]
        unfold valU; rw [if_pos rfl]; exact hca
      · simp only
        rw [old c d hxm b hbl, new c d hxm (S.length + 1) (by rw [hf]; simp)]
        unfold valU; rw [if_neg (by omega), if_pos rfl]; exact hda
theorem run_comp {lim : Int} : ∀ (m : Nat) (stk : List (Nat × Nat)) (σ : Sto) (res : Int × Int × Int × Sto) (val : Int → T), GoodS σ → Lt2 σ.L.length stk → RunB lim m stk σ res → res.2.2.1 ≠ 7 → (∀ z, (val z).static = true) →
    (∀ p ∈ stk, agO (putS val (σ.L.st.tT p.1)) (putS val (σ.L.st.tT p.2)) = true) →
    res.2.2.1 = 0 ∧ ∃ val' : Int → T, (∀ z, (val' z).static = true) ∧ ∀ n, n < σ.L.length → putS val' (res.2.2.2.L.st.tT n) = putS val (σ.L.st.tT n) := by
  intro m
  induction m with
  | zero =>
    intro stk σ res val hg hlt hr he hv ha
    cases stk with
    | nil => have e : res = (0, 0, 0, σ) := hr
             subst e; exact ⟨rfl, val, hv, fun _ _ => rfl⟩
    | cons p stk => exact hr.elim
  | succ m ih =>
    intro stk σ res val hg hlt hr he hv ha
    cases stk with
    | nil => have e : res = (0, 0, 0, σ) := hr
             subst e; exact ⟨rfl, val, hv, fun _ _ => rfl⟩
    | cons p stk =>
      obtain ⟨_, hr⟩ := hr
      have hw := hg.si.wf
      have hp := hlt p List.mem_cons_self
      have hp' : p.1 < σ.L.st.length ∧ p.2 < σ.L.st.length := by rw [Mem.st_len]; exact hp
      have hlt' : Lt2 σ.L.length stk := fun q hq => hlt q (List.mem_cons_of_mem _ hq)
      have hlt'' : Lt2 σ.L.st.length stk := by rw [Mem.st_len]; exact hlt'
      have hap := ha p List.mem_cons_self
      have ha' : ∀ q ∈ stk, agO (putS val (σ.L.st.tT q.1)) (putS val (σ.L.st.tT q.2)) = true := fun q hq => ha q (List.mem_cons_of_mem _ hq)
      have hkeep := step_keep (lim := lim) hg hp hlt'
      have hcase := step_cases (lim := lim) hg hp stk
      have hx1 := hw.root_lt _ hp'.1
      have hx2 := hw.root_lt _ hp'.2
      have t1 := tT_rootq hw hp'.1
      have t2 := tT_rootq hw hp'.2
      rw [← t1, ← t2] at hap
      have hll : σ.L.length = σ.L.st.length := (Mem.st_len _).symm
      -- go on
      have fin : ∀ (σ' : Sto) stk' (val' : Int → T), GoodS σ' → Lt2 σ'.L.length stk' → RunB lim m stk' σ' res → σ.L.length ≤ σ'.L.length → (∀ z, (val' z).static = true) → (∀ n, n < σ.L.st.length → putS val' (σ'.L.st.tT n) = putS val (σ.L.st.tT n)) →
          (∀ q ∈ stk', agO (putS val' (σ'.L.st.tT q.1)) (putS val' (σ'.L.st.tT q.2)) = true) →
          res.2.2.1 = 0 ∧ ∃ val' : Int → T, (∀ z, (val' z).static = true) ∧ ∀ n, n < σ.L.length → putS val' (res.2.2.2.L.st.tT n) = putS val (σ.L.st.tT n) := by
        intro σ' stk' val' h1 h2 h3 h4 h5 h6 h7
        obtain ⟨a, v, b, c⟩ := ih stk' σ' res val' h1 h2 h3 he h5 h7
        exact ⟨a, v, b, fun n hn => by rw [c n (Nat.lt_of_lt_of_le hn h4), h6 n (by rw [← hll]; exact hn)]⟩
      generalize hst : stepS lim p stk σ = st at *
      cases hcase with
      | eq e => exact fin σ stk val hkeep.1.good hkeep.2 hr (Nat.le_refl _) hv (fun _ _ => rfl) ha'
      | dyn z σ' hz hg' hlow hcn =>
        exact fin σ' stk val hkeep.1.good hkeep.2 hr hkeep.1.len1 hv (fun n _ => by rw [hlow.lv.tT]) fun q hq => by rw [hlow.lv.tT, hlow.lv.tT]; exact ha' q hq
      | link u w σ' huw c hs hl hcn =>
        have hu := hw.tT_free c.hx c.h6 c.lx
        have e : val u = putS val (σ.L.st.tT w) := by
          have h1 : agO (val u) (putS val (σ.L.st.tT w)) = true := by
            rcases huw with ⟨rfl, rfl⟩ | ⟨rfl, rfl⟩
            · rw [hu] at hap; exact hap
            · rw [hu, agO_comm] at hap; exact hap
          exact agO_static _ _ (hv u) (putS_static hv hs) h1
        have hval := fun n hn => hl.val hw c e (n := n) hn
        exact fin σ' stk val hkeep.1.good hkeep.2 hr hkeep.1.len1 hv hval fun q hq => by
          rw [hval _ (hlt'' q hq).1, hval _ (hlt'' q hq).2]; exact ha' q hq
      | copyl S1 n fr σ' h6 k6 hns hh cp hl hcn =>
        have lx : σ.L.st.link (σ.L.st.root p.1) = none := hw.root_link _
        have hu := hw.tT_free hx1 h6 lx
        rw [hu] at hap
        obtain ⟨val', q1, q2, q3⟩ := cpy_val hw hx1 hx2 (hw.root_root _) cp hl hv hap
        refine fin σ' _ val' hkeep.1.good hkeep.2 hr hkeep.1.len1 q1 q2 fun q hq => ?_
        rcases List.mem_append.1 hq with hq | hq
        · exact q3 q hq
        · rw [q2 _ (hlt'' q hq).1, q2 _ (hlt'' q hq).2]; exact ha' q hq
      | copyr S1 n fr σ' h6 k6 hns hh cp hl hcn =>
        have lx : σ.L.st.link (σ.L.st.root p.2) = none := hw.root_link _
        have hu := hw.tT_free hx2 h6 lx
        rw [hu, agO_comm] at hap
        obtain ⟨val', q1, q2, q3⟩ := cpy_val hw hx2 hx1 (hw.root_root _) cp hl hv hap
        refine fin σ' _ val' hkeep.1.good hkeep.2 hr hkeep.1.len1 q1 q2 fun q hq => ?_
        rcases List.mem_append.1 hq with hq | hq
        · have hq' : (q.2, q.1) ∈ fr.zip (σ.L.st.kids (σ.L.st.root p.1)) := by
            rcases cp.lists with ⟨a, c, e1, e2⟩ | ⟨a, b, c, d, e1, e2⟩
            · rw [e1, e2] at hq ⊢
              simp only [List.zip_cons_cons, List.zip_nil_right, List.mem_singleton] at hq ⊢
              rw [hq]
            · rw [e1, e2] at hq ⊢
              simp only [List.zip_cons_cons, List.zip_nil_right, List.mem_cons, List.not_mem_nil, or_false] at hq ⊢
              rcases hq with rfl | rfl
              · exact .inl rfl
              · exact .inr rfl
          have := q3 _ hq'
          rw [agO_comm] at this; exact this
        · rw [q2 _ (hlt'' q hq).1, q2 _ (hlt'' q hq).2]; exact ha' q hq
      | kids hne hk h6 h41 h42 =>
        obtain ⟨klen, klo, khi⟩ := hw.kids_same hx1 hx2 hne hk h6
        refine fin σ _ val hkeep.1.good hkeep.2 hr (Nat.le_refl _) hv (fun _ _ => rfl) fun q hq => ?_
        rcases List.mem_append.1 hq with hq | hq
        · rcases two_lists klen klo khi with ⟨a, c, e1, e2⟩ | ⟨a, b, c, d, e1, e2⟩
          · rw [hw.node1 hx1 (hw.root_root _) e1, hw.node1 hx2 (hw.root_root _) e2] at hap
            rw [e1, e2] at hq
            simp only [List.zip_cons_cons, List.zip_nil_right, List.mem_singleton] at hq
            subst hq
            exact hap
          · rw [hw.node2 hx1 (hw.root_root _) e1, hw.node2 hx2 (hw.root_root _) e2, mkB_put, mkB_put, hk, agO_mkB, Bool.and_eq_true] at hap
            rw [e1, e2] at hq
            simp only [List.zip_cons_cons, List.zip_nil_right, List.mem_cons, List.not_mem_nil, or_false] at hq
            rcases hq with rfl | rfl
            · exact hap.1
            · exact hap.2
        · exact ha' q hq
      | clash hk h61 h62 h41 h42 =>
        exfalso
        have k1 := hw.kind_tT hx1
        have k2 := hw.kind_tT hx2
        rw [hw.root_root] at k1 k2
        have nv : ∀ r, r < σ.L.st.length → σ.L.st.kind r ≠ 6 → (σ.L.st.tT r).kind = σ.L.st.kind r → ∀ n, σ.L.st.tT r ≠ .var n := fun r _ h6 hkd n e => by rw [e] at hkd; simp only [T.kind] at hkd; omega
        have nd : ∀ r, r < σ.L.st.length → r ≠ 4 → σ.L.st.root r = r → ∀ z : Int → T, (∀ n, σ.L.st.tT r ≠ .var n) → putS z (σ.L.st.tT r) ≠ .dyn := fun r hr' h4 er z hnv e => by
          have sh := hw.shT hr'
          rw [er] at sh
          generalize σ.L.st.tT r = x at sh e hnv
          cases sh <;> simp only [putS, reduceCtorEq] at e
          · omega
          · exact hnv _ rfl
        have v1 := nv _ hx1 h61 k1
        have v2 := nv _ hx2 h62 k2
        have := agO_kind hap (nd _ hx1 h41 (hw.root_root _) val v1) (nd _ hx2 h42 (hw.root_root _) val v2)
        rw [kind_put v1, kind_put v2, k1, k2] at this
        exact hk this
      | loop u w σ' huw hne h6 hh hg' hst' hcn =>
        exfalso
        have hu : u < σ.L.st.length ∧ σ.L.st.root u = u ∧ w < σ.L.st.length ∧ σ.L.st.root w = w := by
          rcases huw with ⟨rfl, rfl⟩ | ⟨rfl, rfl⟩
          · exact ⟨hx1, hw.root_root _, hx2, hw.root_root _⟩
          · exact ⟨hx2, hw.root_root _, hx1, hw.root_root _⟩
        obtain ⟨h1, h2, h3, h4⟩ := hu
        have lu : σ.L.st.link u = none := by have := hw.root_link u; rwa [h2] at this
        have lw : σ.L.st.link w = none := by have := hw.root_link w; rwa [h4] at this
        have hf := hw.tT_free h1 h6 lu
        have hag : agO (val u) (putS val (σ.L.st.tT w)) = true := by
          rcases huw with ⟨rfl, rfl⟩ | ⟨rfl, rfl⟩
          · rw [hf] at hap; exact hap
          · rw [hf, agO_comm] at hap; exact hap
        have := (occ_size (hv u) _ _ (hv u) hh hag).2 fun e => by
          have hk := hw.kind_tT h3
          rw [e, h4] at hk
          have hf' := hw.tT_free h3 (by rw [← hk]; rfl) lw
          rw [e] at hf'
          simp only [T.var.injEq] at hf'
          omega
        omega
      | limit σ' hns hl =>
        have e : res = (0, 0, 7, σ') := hr
        rw [e] at he; exact absurd rfl he

end Go.Proofs.Ytdngjamjccjlmaa
