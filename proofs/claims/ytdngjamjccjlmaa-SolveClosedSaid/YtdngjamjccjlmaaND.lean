/- Pairs that were made to agree do, and pairs that may agree are made to. No condition. -/
import Derived.Test.YtdngjamjccjlmaaNC
set_option linter.unusedSimpArgs false
set_option linter.unusedVariables false
namespace Go.Proofs.Ytdngjamjccjlmaa
open Go Go.Ab

/-- Agreement of types with variables of their own. -/
def agO : T → T → Bool
  | .dyn, _ => true
  | .base k, b => match b with | .dyn => true | .base k' => decide (k = k') | _ => false
  | .var n, b => match b with | .dyn => true | .var m => decide (n = m) | _ => false
  | .pair a a', b => match b with | .dyn => true | .pair c c' => agO a c && agO a' c' | _ => false
  | .list a, b => match b with | .dyn => true | .list c => agO a c | _ => false
  | .fn a a', b => match b with | .dyn => true | .fn c c' => agO a c && agO a' c' | _ => false
theorem agO_dyn (a : T) : agO a .dyn = true := by cases a <;> rfl
theorem agO_refl : ∀ a : T, agO a a = true := by intro a; induction a <;> simp_all [agO]
theorem agO_comm : ∀ a b : T, agO a b = agO b a := by
  intro a
  induction a with
  | dyn => intro b; rw [agO_dyn]; rfl
  | base k => intro b; cases b <;> simp [agO, eq_comm]
  | var n => intro b; cases b <;> simp [agO, eq_comm]
  | pair x y ih1 ih2 => intro b; cases b <;> simp [agO, ih1, ih2]
  | list x ih1 => intro b; cases b <;> simp [agO, ih1]
  | fn x y ih1 ih2 => intro b; cases b <;> simp [agO, ih1, ih2]
theorem agO_static : ∀ a b : T, a.static = true → b.static = true → agO a b = true → a = b := by
  intro a
  induction a with
  | dyn => intro b h; cases h
  | base k => intro b _ hb h; cases b <;> simp_all [agO, T.static]
  | var n => intro b _ hb h; cases b <;> simp_all [agO, T.static]
  | pair x y ih1 ih2 =>
    intro b ha hb h
    cases b <;> simp only [agO, T.static, Bool.and_eq_true, Bool.false_eq_true] at h ha hb
    rw [ih1 _ ha.1 hb.1 h.1, ih2 _ ha.2 hb.2 h.2]
  | list x ih1 =>
    intro b ha hb h
    cases b <;> simp only [agO, T.static, Bool.and_eq_true, Bool.false_eq_true] at h ha hb
    rw [ih1 _ ha hb h]
  | fn x y ih1 ih2 =>
    intro b ha hb h
    cases b <;> simp only [agO, T.static, Bool.and_eq_true, Bool.false_eq_true] at h ha hb
    rw [ih1 _ ha.1 hb.1 h.1, ih2 _ ha.2 hb.2 h.2]
theorem agO_closed : ∀ a b : T, a.closed = true → b.closed = true → agreeT a b = agO a b := by
  intro a
  induction a with
  | dyn => intro b _ hb; simp [agreeT, agO, hb]
  | base k => intro b _ hb; cases b <;> simp [agreeT, agO]
  | var n => intro b ha; cases ha
  | pair x y ih1 ih2 =>
    intro b ha hb
    simp only [T.closed, Bool.and_eq_true] at ha
    cases b <;> simp only [agreeT, agO, T.closed, Bool.and_eq_true, ha.1, ha.2, Bool.and_self] at hb ⊢
    rw [ih1 _ ha.1 hb.1, ih2 _ ha.2 hb.2]
  | list x ih1 =>
    intro b ha hb
    simp only [T.closed] at ha
    cases b <;> simp only [agreeT, agO, T.closed, ha] at hb ⊢
    rw [ih1 _ ha hb]
  | fn x y ih1 ih2 =>
    intro b ha hb
    simp only [T.closed, Bool.and_eq_true] at ha
    cases b <;> simp only [agreeT, agO, T.closed, Bool.and_eq_true, ha.1, ha.2, Bool.and_self] at hb ⊢
    rw [ih1 _ ha.1 hb.1, ih2 _ ha.2 hb.2]
theorem agO_kind {a b : T} (h : agO a b = true) (ha : a ≠ .dyn) (hb : b ≠ .dyn) : a.kind = b.kind := by
  cases a <;> cases b <;> simp_all [agO, T.kind]
theorem agO_mkB (k : Int) (a b c d : T) : agO (mkB k a b) (mkB k c d) = (agO a c && agO b d) := by unfold mkB; split <;> simp [agO]
theorem kind_put {σ : Int → T} {a : T} (h : ∀ n, a ≠ .var n) : (putS σ a).kind = a.kind := by
  cases a <;> first | rfl | exact absurd rfl (h _)
theorem Wf.kind_tT {S : St} (h : Wf S) {n : Nat} (hn : n < S.length) : (S.tT n).kind = S.kind (S.root n) := by
  have e := h.shT hn
  generalize S.tT n = x at e ⊢
  cases e <;> simp_all [T.kind]
/-- What stands where a variable is within is as great as it, at least. -/
theorem occ_size {σ : Int → T} {u : Int} (hu : (σ u).static = true) : ∀ (t s : T), s.static = true → t.has u = true → agO s (putS σ t) = true → (σ u).size ≤ s.size ∧ (t ≠ .var u → (σ u).size < s.size) := by
  intro t
  induction t with
  | dyn => intro s _ h; cases h
  | base k => intro s _ h; cases h
  | var n =>
    intro s hs h ha
    simp only [T.has, decide_eq_true_eq] at h
    subst h
    have := agO_static s (σ n) hs hu ha
    rw [this]; exact ⟨Nat.le_refl _, fun h => absurd rfl h⟩
  | pair a b ih1 ih2 =>
    intro s hs h ha
    cases s <;> simp only [putS, agO, T.static, Bool.and_eq_true, Bool.false_eq_true] at ha hs
    rename_i c d
    simp only [T.has, Bool.or_eq_true] at h
    simp only [T.size]
    rcases h with h | h
    · have := (ih1 c hs.1 h ha.1).1; exact ⟨by omega, fun _ => by omega⟩
    · have := (ih2 d hs.2 h ha.2).1; exact ⟨by omega, fun _ => by omega⟩
  | fn a b ih1 ih2 =>
    intro s hs h ha
    cases s <;> simp only [putS, agO, T.static, Bool.and_eq_true, Bool.false_eq_true] at ha hs
    rename_i c d
    simp only [T.has, Bool.or_eq_true] at h
    simp only [T.size]
    rcases h with h | h
    · have := (ih1 c hs.1 h ha.1).1; exact ⟨by omega, fun _ => by omega⟩
    · have := (ih2 d hs.2 h ha.2).1; exact ⟨by omega, fun _ => by omega⟩
  | list a ih1 =>
    intro s hs h ha
    cases s <;> simp only [putS, agO, T.static, Bool.and_eq_true, Bool.false_eq_true] at ha hs
    rename_i c
    simp only [T.has] at h
    simp only [T.size]
    have := (ih1 c hs h ha).1; exact ⟨by omega, fun _ => by omega⟩
theorem Ext.tT_same {S S' : St} (hw : Wf S) (h : Ext S S') {a b : Nat} (ha : a < S.length) (hb : b < S.length) (e : S'.root a = S'.root b) : S'.tT a = S'.tT b :=
  h.wf.tT_root (Nat.lt_of_lt_of_le ha h.len) (Nat.lt_of_lt_of_le hb h.len) e
/-- Two nodes of a kind, seen later: their trees agree if their kids' do. -/
theorem ag_kids {S : St} (hw : Wf S) {x y : Nat} (hx : x < S.length) (hy : y < S.length) (ex : S.root x = x) (ey : S.root y = y) (hk : S.kind x = S.kind y) {l l' : List Nat} (el : S.kids x = l) (el' : S.kids y = l') (hl : (∃ a c, l = [a] ∧ l' = [c]) ∨ ∃ a b c d, l = [a, b] ∧ l' = [c, d])
    (h : ∀ q ∈ l.zip l', agO (S.tT q.1) (S.tT q.2) = true) : agO (S.tT x) (S.tT y) = true := by
  rcases hl with ⟨a, c, rfl, rfl⟩ | ⟨a, b, c, d, rfl, rfl⟩
  · rw [hw.node1 hx ex el, hw.node1 hy ey el']
    exact h (a, c) (by simp)
  · rw [hw.node2 hx ex el, hw.node2 hy ey el', hk, agO_mkB]
    have h1 := h (a, c) (by simp)
    have h2 := h (b, d) (by simp)
    simp only at h1 h2
    rw [h1, h2]; rfl
theorem CpyOK.lists {S S1 : St} {x y m : Nat} {fr : List Nat} (h : CpyOK S S1 x y m fr) : (∃ a c, fr = [a] ∧ S.kids y = [c]) ∨ ∃ a b c d, fr = [a, b] ∧ S.kids y = [c, d] := by
  rcases h.two with ⟨a, e1, e2, _⟩ | ⟨a, b, e1, e2, _⟩
  · exact .inl ⟨_, _, e2, e1⟩
  · exact .inr ⟨_, _, _, _, e2, e1⟩
theorem lists_symm {l l' : List Nat} (hl : (∃ a c, l = [a] ∧ l' = [c]) ∨ ∃ a b c d, l = [a, b] ∧ l' = [c, d]) : (∃ a c, l' = [a] ∧ l = [c]) ∨ ∃ a b c d, l' = [a, b] ∧ l = [c, d] := by
  rcases hl with ⟨a, c, e1, e2⟩ | ⟨a, b, c, d, e1, e2⟩
  · exact .inl ⟨_, _, e2, e1⟩
  · exact .inr ⟨_, _, _, _, e2, e1⟩
/-- A copy's variable has the copy as its root. -/
theorem CpyOK.root_x {S S1 : St} {x y m : Nat} {fr : List Nat} {σ' : Sto} (hw : Wf S) (cp : CpyOK S S1 x y m fr) (hl : LinkS S1 x m σ') {p : Nat} (hp : S.root p = x) : σ'.L.st.root p = m := by
  rw [hl.root cp.wf cp.can]
  have : S1.root p = x := by rw [cp.ext.root hw p, hp]; exact root_none cp.can.lx
  rw [if_pos this]
theorem run_sound {lim : Int} : ∀ (m : Nat) (stk : List (Nat × Nat)) (σ : Sto) (res : Int × Int × Int × Sto), GoodS σ → Lt2 σ.L.length stk → RunB lim m stk σ res → res.2.2.1 = 0 →
    GoodS res.2.2.2 ∧ Ext σ.L.st res.2.2.2.L.st ∧ ∀ p ∈ stk, agO (res.2.2.2.L.st.tT p.1) (res.2.2.2.L.st.tT p.2) = true := by
  intro m
  induction m with
  | zero =>
    intro stk σ res hg hlt hr he
    cases stk with
    | nil => have e : res = (0, 0, 0, σ) := hr
             subst e; exact ⟨hg, Ext.refl hg.si.wf, by simp⟩
    | cons p stk => exact hr.elim
  | succ m ih =>
    intro stk σ res hg hlt hr he
    cases stk with
    | nil => have e : res = (0, 0, 0, σ) := hr
             subst e; exact ⟨hg, Ext.refl hg.si.wf, by simp⟩
    | cons p stk =>
      obtain ⟨_, hr⟩ := hr
      have hw := hg.si.wf
      have hp := hlt p List.mem_cons_self
      have hp' : p.1 < σ.L.st.length ∧ p.2 < σ.L.st.length := by rw [Mem.st_len]; exact hp
      have hlt' : Lt2 σ.L.length stk := fun q hq => hlt q (List.mem_cons_of_mem _ hq)
      have hkeep := step_keep (lim := lim) hg hp hlt'
      have hcase := step_cases (lim := lim) hg hp stk
      have hx1 := hw.root_lt _ hp'.1
      have hx2 := hw.root_lt _ hp'.2
      -- what remains, where the pair's own agreement is known
      have fin : ∀ (σ' : Sto) stk', GoodS σ' → Lt2 σ'.L.length stk' → RunB lim m stk' σ' res → Ext σ.L.st σ'.L.st → (∀ q ∈ stk, q ∈ stk') →
          (Ext σ'.L.st res.2.2.2.L.st → (∀ q ∈ stk', agO (res.2.2.2.L.st.tT q.1) (res.2.2.2.L.st.tT q.2) = true) → agO (res.2.2.2.L.st.tT p.1) (res.2.2.2.L.st.tT p.2) = true) →
          GoodS res.2.2.2 ∧ Ext σ.L.st res.2.2.2.L.st ∧ ∀ q ∈ p :: stk, agO (res.2.2.2.L.st.tT q.1) (res.2.2.2.L.st.tT q.2) = true := by
        intro σ' stk' h1 h2 h3 h4 h5 h6
        obtain ⟨a, b, c⟩ := ih stk' σ' res h1 h2 h3 he
        refine ⟨a, h4.trans b, fun q hq => ?_⟩
        rcases List.mem_cons.1 hq with rfl | hq
        · exact h6 b c
        · exact c q (h5 q hq)
      -- the pair has one root
      have one : ∀ σ' : Sto, Ext σ.L.st σ'.L.st → σ'.L.st.root p.1 = σ'.L.st.root p.2 → Ext σ'.L.st res.2.2.2.L.st → agO (res.2.2.2.L.st.tT p.1) (res.2.2.2.L.st.tT p.2) = true := by
        intro σ' h1 h2 h3
        have e : res.2.2.2.L.st.root p.1 = res.2.2.2.L.st.root p.2 := by rw [h3.root h1.wf p.1, h3.root h1.wf p.2, h2]
        rw [(h1.trans h3).tT_same hw hp'.1 hp'.2 e]; exact agO_refl _
      generalize hst : stepS lim p stk σ = st at *
      cases hcase with
      | eq e => exact fin σ stk hkeep.1.good hkeep.2 hr (Ext.refl hw) (fun _ h => h) fun b _ => one σ (Ext.refl hw) e b
      | dyn z σ' hz hg' hlow hcn =>
        have hx := Ext.lv hg'.si.wf hlow.lv
        refine fin σ' stk hkeep.1.good hkeep.2 hr hx (fun _ h => h) fun b _ => ?_
        have hx' := hx.trans b
        have d4 : ∀ n, n < σ.L.st.length → σ.L.st.root n = 4 → res.2.2.2.L.st.tT n = .dyn := fun n hn e => by
          have h5 := hw.five
          have e4 := hw.leaf 4 (by omega)
          have er : σ.L.st.root 4 = 4 := root_none (by rw [St.link, e4])
          rw [hx'.tT hw n hn, ← tT_rootq hw hn, e, hw.tT_eq (by omega), er, St.nodeT, St.kids, St.kind, e4]; rfl
        rcases hz with ⟨e, _⟩ | ⟨e, _⟩
        · rw [d4 _ hp'.1 e]; rfl
        · rw [d4 _ hp'.2 e]; exact agO_dyn _
      | link u w σ' huw c hs hl hcn =>
        have hx := hl.ext hw c
        refine fin σ' stk hkeep.1.good hkeep.2 hr hx (fun _ h => h) fun b _ => one σ' hx ?_ b
        have hne := c.ne hw
        rw [hl.root hw c, hl.root hw c]
        rcases huw with ⟨rfl, rfl⟩ | ⟨rfl, rfl⟩
        · rw [if_pos rfl, if_neg hne]
        · rw [if_pos rfl, if_neg hne]
      | copyl S1 n fr σ' h6 k6 hns hh cp hl hcn =>
        have hxl := hl.ext cp.wf cp.can
        have hx := cp.ext.trans hxl
        refine fin σ' _ hkeep.1.good hkeep.2 hr hx (fun _ h => List.mem_append_right _ h) fun b hall => ?_
        have hx' := hx.trans b
        have hnl : n < S1.length := by rw [cp.len]; omega
        have b1 := hxl.trans b
        have hk1 : S1.kind n ≠ 6 := by rw [cp.kind]; exact k6
        have r1 : res.2.2.2.L.st.root n = n := b1.root_eq cp.wf hnl hk1
        have r2 : res.2.2.2.L.st.root (σ.L.st.root p.2) = σ.L.st.root p.2 := hx'.root_eq hw hx2 k6
        have e1 : res.2.2.2.L.st.tT p.1 = res.2.2.2.L.st.tT n := by
          refine b.wf.tT_root (Nat.lt_of_lt_of_le hp'.1 hx'.len) (Nat.lt_of_lt_of_le hnl b1.len) ?_
          rw [b.root hx.wf p.1, cp.root_x hw hl rfl]
        have e2 : res.2.2.2.L.st.tT p.2 = res.2.2.2.L.st.tT (σ.L.st.root p.2) := by
          refine b.wf.tT_root (Nat.lt_of_lt_of_le hp'.2 hx'.len) (Nat.lt_of_lt_of_le hx2 hx'.len) ?_
          rw [hx'.root hw p.2]
        rw [e1, e2]
        exact ag_kids b.wf (Nat.lt_of_lt_of_le hnl b1.len) (Nat.lt_of_lt_of_le hx2 hx'.len) r1 r2 (by rw [b1.kind n hnl, hx'.kind _ hx2, cp.kind]) (by rw [b1.kids n hnl, cp.kids]) (hx'.kids _ hx2) cp.lists fun q hq => hall q (List.mem_append_left _ hq)
      | copyr S1 n fr σ' h6 k6 hns hh cp hl hcn =>
        have hxl := hl.ext cp.wf cp.can
        have hx := cp.ext.trans hxl
        refine fin σ' _ hkeep.1.good hkeep.2 hr hx (fun _ h => List.mem_append_right _ h) fun b hall => ?_
        have hx' := hx.trans b
        have hnl : n < S1.length := by rw [cp.len]; omega
        have b1 := hxl.trans b
        have hk1 : S1.kind n ≠ 6 := by rw [cp.kind]; exact k6
        have r1 : res.2.2.2.L.st.root n = n := b1.root_eq cp.wf hnl hk1
        have r2 : res.2.2.2.L.st.root (σ.L.st.root p.1) = σ.L.st.root p.1 := hx'.root_eq hw hx1 k6
        have e1 : res.2.2.2.L.st.tT p.2 = res.2.2.2.L.st.tT n := by
          refine b.wf.tT_root (Nat.lt_of_lt_of_le hp'.2 hx'.len) (Nat.lt_of_lt_of_le hnl b1.len) ?_
          rw [b.root hx.wf p.2, cp.root_x hw hl rfl]
        have e2 : res.2.2.2.L.st.tT p.1 = res.2.2.2.L.st.tT (σ.L.st.root p.1) := by
          refine b.wf.tT_root (Nat.lt_of_lt_of_le hp'.1 hx'.len) (Nat.lt_of_lt_of_le hx1 hx'.len) ?_
          rw [hx'.root hw p.1]
        rw [e1, e2]
        exact ag_kids b.wf (Nat.lt_of_lt_of_le hx1 hx'.len) (Nat.lt_of_lt_of_le hnl b1.len) r2 r1 (by rw [b1.kind n hnl, hx'.kind _ hx1, cp.kind]) (hx'.kids _ hx1) (by rw [b1.kids n hnl, cp.kids]) (lists_symm cp.lists) fun q hq => hall q (List.mem_append_left _ hq)
      | kids hne hk h6 h41 h42 =>
        refine fin σ _ hkeep.1.good hkeep.2 hr (Ext.refl hw) (fun _ h => List.mem_append_right _ h) fun b hall => ?_
        obtain ⟨klen, klo, khi⟩ := hw.kids_same hx1 hx2 hne hk h6
        have r1 : res.2.2.2.L.st.root (σ.L.st.root p.1) = σ.L.st.root p.1 := b.root_eq hw hx1 h6
        have r2 : res.2.2.2.L.st.root (σ.L.st.root p.2) = σ.L.st.root p.2 := b.root_eq hw hx2 (by rw [← hk]; exact h6)
        have e1 : res.2.2.2.L.st.tT p.1 = res.2.2.2.L.st.tT (σ.L.st.root p.1) := by
          refine b.wf.tT_root (Nat.lt_of_lt_of_le hp'.1 b.len) (Nat.lt_of_lt_of_le hx1 b.len) ?_
          rw [b.root hw p.1]
        have e2 : res.2.2.2.L.st.tT p.2 = res.2.2.2.L.st.tT (σ.L.st.root p.2) := by
          refine b.wf.tT_root (Nat.lt_of_lt_of_le hp'.2 b.len) (Nat.lt_of_lt_of_le hx2 b.len) ?_
          rw [b.root hw p.2]
        rw [e1, e2]
        exact ag_kids b.wf (Nat.lt_of_lt_of_le hx1 b.len) (Nat.lt_of_lt_of_le hx2 b.len) r1 r2 (by rw [b.kind _ hx1, b.kind _ hx2, hk]) (b.kids _ hx1) (b.kids _ hx2) (two_lists klen klo khi) fun q hq => hall q (List.mem_append_left _ hq)
      | clash hk h61 h62 h41 h42 =>
        have e : res = (_, _, 4, σ) := hr
        rw [e] at he; simp at he
      | loop u w σ' huw hne h6 hh hg' hst' hcn =>
        have e : res = (0, 0, 5, σ') := hr
        rw [e] at he; simp at he
      | limit σ' hns hl =>
        have e : res = (0, 0, 7, σ') := hr
        rw [e] at he; simp at he

end Go.Proofs.Ytdngjamjccjlmaa
