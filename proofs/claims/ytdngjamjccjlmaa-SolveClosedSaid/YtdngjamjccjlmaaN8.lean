/- A node's type as a tree, for any store; stores that go on. No condition. -/
import Derived.Test.YtdngjamjccjlmaaPSb
import Derived.Test.YtdngjamjccjlmaaPCa
set_option linter.unusedSimpArgs false
set_option linter.unusedVariables false
namespace Go.Proofs.Ytdngjamjccjlmaa
open Go Go.Ab

/-- The tree at a root, of what is known of its kids. -/
def St.nodeT (S : St) (r : Nat) (f : Nat → T) : T := match S.kids r with
  | [i] => .list (f i)
  | [i, j] => if S.kind r = 7 then .pair (f i) (f j) else .fn (f i) (f j)
  | _ => if S.kind r = 6 then .var r else if h : r < 4 then .base ⟨r, h⟩ else .dyn
def tTF (S : St) : Nat → Nat → T
  | 0, _ => .dyn
  | f + 1, n => S.nodeT (S.root n) (tTF S f)
def St.tT (S : St) (n : Nat) : T := tTF S S.length n
theorem nodeT_congr {S : St} {r : Nat} {f g : Nat → T} (h : ∀ k ∈ S.kids r, f k = g k) : S.nodeT r f = S.nodeT r g := by
  unfold St.nodeT
  split
  · rename_i i e; rw [h i (by rw [e]; simp)]
  · rename_i i j e; rw [h i (by rw [e]; simp), h j (by rw [e]; simp)]
  · rfl
theorem tTF_fuel {S : St} (h : Wf S) {ρ : Nat → Nat} (hρ : Rk S ρ) : ∀ (f f' n : Nat), ρ (S.root n) < f → ρ (S.root n) < f' → tTF S f n = tTF S f' n := by
  intro f
  induction f with
  | zero => intro f' n hf; omega
  | succ f ih =>
    intro f' n hf hf'
    cases f' with
    | zero => omega
    | succ f' =>
      simp only [tTF]
      exact nodeT_congr fun k hk => ih f' k (by have := h.kid_rank hρ hk; omega) (by have := h.kid_rank hρ hk; omega)
theorem Wf.tT_eq {S : St} (h : Wf S) {n : Nat} (hn : n < S.length) : S.tT n = S.nodeT (S.root n) S.tT := by
  obtain ⟨ρ, hρ, hlt⟩ := h.rank
  have hr := hlt _ (h.root_lt n hn)
  obtain ⟨m, hm⟩ := Nat.exists_eq_succ_of_ne_zero (show S.length ≠ 0 by omega)
  have e : S.tT n = tTF S (m + 1) n := by rw [St.tT, hm]
  rw [e, tTF]
  refine nodeT_congr fun k hk => ?_
  have := h.kid_rank hρ hk
  exact tTF_fuel h hρ _ _ _ (by omega) (by omega)
/-- How a root's tree may be. -/
inductive ShT (S : St) (r : Nat) : T → Prop
  | base (h : r < 4) : S.kind r = r + 1 → S.kids r = [] → ShT S r (.base ⟨r, h⟩)
  | dyn : r = 4 → S.kind r = 5 → S.kids r = [] → ShT S r .dyn
  | var : 5 ≤ r → S.kind r = 6 → S.kids r = [] → ShT S r (.var r)
  | pair (i j : Nat) : 5 ≤ r → S.kind r = 7 → S.kids r = [i, j] → i < S.length → j < S.length → ShT S r (.pair (S.tT i) (S.tT j))
  | fn (i j : Nat) : 5 ≤ r → S.kind r = 9 → S.kids r = [i, j] → i < S.length → j < S.length → ShT S r (.fn (S.tT i) (S.tT j))
  | list (i : Nat) : 5 ≤ r → S.kind r = 8 → S.kids r = [i] → i < S.length → ShT S r (.list (S.tT i))
theorem Wf.five_kid {S : St} (h : Wf S) {r i : Nat} (hi : i ∈ S.kids r) : 5 ≤ r := Nat.le_of_not_lt fun hr => by
  rw [St.kids, h.leaf r hr] at hi; cases hi
theorem Wf.shT {S : St} (h : Wf S) {n : Nat} (hn : n < S.length) : ShT S (S.root n) (S.tT n) := by
  have e := h.tT_eq hn
  rw [e]
  rcases h.shape (h.root_lt n hn) (h.root_link n) with ⟨h5, hk, hc⟩ | ⟨h5, hk, hc⟩ | ⟨i, j, hk, hc⟩ | ⟨i, hk, hc⟩
  · by_cases h4 : S.root n < 4
    · have : S.nodeT (S.root n) S.tT = .base ⟨S.root n, h4⟩ := by
        unfold St.nodeT; rw [hc]; simp only; rw [if_neg (by omega), dif_pos h4]
      rw [this]; exact .base h4 hk hc
    · have : S.nodeT (S.root n) S.tT = .dyn := by
        unfold St.nodeT; rw [hc]; simp only; rw [if_neg (by omega), dif_neg h4]
      rw [this]; exact .dyn (by omega) (by omega) hc
  · have : S.nodeT (S.root n) S.tT = .var (S.root n) := by
      unfold St.nodeT; rw [hc]; simp only; rw [if_pos hk]
    rw [this]; exact .var h5 hk hc
  · have h5 : 5 ≤ S.root n := h.five_kid (i := i) (by rw [hc]; simp)
    have hi : i < S.length := h.kid_lt (S.root n) i (by rw [hc]; simp)
    have hj : j < S.length := h.kid_lt (S.root n) j (by rw [hc]; simp)
    rcases hk with hk | hk
    · have : S.nodeT (S.root n) S.tT = .pair (S.tT i) (S.tT j) := by
        unfold St.nodeT; rw [hc]; simp only; rw [if_pos hk]
      rw [this]; exact .pair i j h5 hk hc hi hj
    · have : S.nodeT (S.root n) S.tT = .fn (S.tT i) (S.tT j) := by
        unfold St.nodeT; rw [hc]; simp only; rw [if_neg (by omega)]
      rw [this]; exact .fn i j h5 hk hc hi hj
  · have h5 : 5 ≤ S.root n := h.five_kid (i := i) (by rw [hc]; simp)
    have hi : i < S.length := h.kid_lt (S.root n) i (by rw [hc]; simp)
    have : S.nodeT (S.root n) S.tT = .list (S.tT i) := by
      unfold St.nodeT; rw [hc]
    rw [this]; exact .list i h5 hk hc hi
theorem Wf.tT_root {S : St} (h : Wf S) {a b : Nat} (ha : a < S.length) (hb : b < S.length) (e : S.root a = S.root b) : S.tT a = S.tT b := by
  rw [h.tT_eq ha, h.tT_eq hb, e]
theorem Wf.tT_ty {S : St} (h : Wf S) : ∀ n, n < S.length → S.tree n = (S.tT n).ty := by
  refine h.ind (p := fun n => n < S.length → S.tree n = (S.tT n).ty) fun n ih hn => ?_
  have e := h.tree_eq hn
  have sh := h.shT hn
  generalize S.tT n = x at sh ⊢
  cases sh with
  | base h4 hk hc => rw [e, hk, hc, if_neg (by omega)]; rfl
  | dyn h4 hk hc => rw [e, hk, hc, if_neg (by omega)]; rfl
  | var h5 hk hc => rw [e, hk, hc, if_pos rfl]; rfl
  | pair i j h5 hk hc hi hj =>
    rw [e, hk, hc, if_neg (by omega)]
    simp only [List.map_cons, List.map_nil, T.ty, ih i (by rw [hc]; simp) hi, ih j (by rw [hc]; simp) hj]
  | fn i j h5 hk hc hi hj =>
    rw [e, hk, hc, if_neg (by omega)]
    simp only [List.map_cons, List.map_nil, T.ty, ih i (by rw [hc]; simp) hi, ih j (by rw [hc]; simp) hj]
  | list i h5 hk hc hi =>
    rw [e, hk, hc, if_neg (by omega)]
    simp only [List.map_cons, List.map_nil, T.ty, ih i (by rw [hc]; simp) hi]
theorem Wf.tT_of {S : St} (h : Wf S) {n : Nat} (hn : n < S.length) {x : T} (e : S.tree n = x.ty) : S.tT n = x := T.ty_inj (by rw [← h.tT_ty n hn, e])
/-- The variables of a node's tree are those within. -/
theorem Wf.has_iff {S : St} (h : Wf S) : ∀ n, n < S.length → ∀ m : Nat, (S.tT n).has m = true ↔ Rch S n m ∧ S.kind m = 6 := by
  refine h.ind (p := fun n => n < S.length → ∀ m : Nat, (S.tT n).has m = true ↔ Rch S n m ∧ S.kind m = 6) fun n ih hn m => ?_
  have sh := h.shT hn
  rw [rch_step]
  generalize S.tT n = x at sh ⊢
  cases sh with
  | base h4 hk hc => rw [hc]; simp only [T.has, Bool.false_eq_true, false_iff]; rintro ⟨rfl | ⟨k, hk, _⟩, h6⟩; omega; cases hk
  | dyn h4 hk hc => rw [hc]; simp only [T.has, Bool.false_eq_true, false_iff]; rintro ⟨rfl | ⟨k, hk, _⟩, h6⟩; omega; cases hk
  | var h5 hk hc =>
    rw [hc]; simp only [T.has, decide_eq_true_eq]
    constructor
    · intro e; have e : m = S.root n := by omega
      exact ⟨.inl e, e ▸ hk⟩
    · rintro ⟨rfl | ⟨k, hk, _⟩, h6⟩
      · rfl
      · cases hk
  | pair i j h5 hk hc hi hj =>
    have hi' := ih i (by rw [hc]; simp) hi m
    have hj' := ih j (by rw [hc]; simp) hj m
    rw [hc]; simp only [T.has, Bool.or_eq_true, hi', hj', List.mem_cons, List.not_mem_nil, or_false, exists_eq_or_imp, exists_eq_left]
    constructor
    · rintro (⟨a, b⟩ | ⟨a, b⟩)
      · exact ⟨.inr (.inl a), b⟩
      · exact ⟨.inr (.inr a), b⟩
    · rintro ⟨rfl | a | a, b⟩
      · omega
      · exact .inl ⟨a, b⟩
      · exact .inr ⟨a, b⟩
  | fn i j h5 hk hc hi hj =>
    have hi' := ih i (by rw [hc]; simp) hi m
    have hj' := ih j (by rw [hc]; simp) hj m
    rw [hc]; simp only [T.has, Bool.or_eq_true, hi', hj', List.mem_cons, List.not_mem_nil, or_false, exists_eq_or_imp, exists_eq_left]
    constructor
    · rintro (⟨a, b⟩ | ⟨a, b⟩)
      · exact ⟨.inr (.inl a), b⟩
      · exact ⟨.inr (.inr a), b⟩
    · rintro ⟨rfl | a | a, b⟩
      · omega
      · exact .inl ⟨a, b⟩
      · exact .inr ⟨a, b⟩
  | list i h5 hk hc hi =>
    have hi' := ih i (by rw [hc]; simp) hi m
    rw [hc]; simp only [T.has, hi', List.mem_cons, List.not_mem_nil, or_false, exists_eq_left]
    constructor
    · rintro ⟨a, b⟩; exact ⟨.inr a, b⟩
    · rintro ⟨rfl | a, b⟩
      · omega
      · exact ⟨a, b⟩
/-- The variables of a node's tree are nodes. -/
theorem Wf.has_nat {S : St} (h : Wf S) : ∀ n, n < S.length → ∀ z : Int, (S.tT n).has z = true → ∃ m : Nat, z = m ∧ m < S.length ∧ S.kind m = 6 ∧ S.root m = m := by
  refine h.ind (p := fun n => n < S.length → ∀ z : Int, (S.tT n).has z = true → ∃ m : Nat, z = m ∧ m < S.length ∧ S.kind m = 6 ∧ S.root m = m) fun n ih hn z hz => ?_
  have sh := h.shT hn
  generalize S.tT n = x at sh hz
  cases sh with
  | base h4 hk hc => simp [T.has] at hz
  | dyn h4 hk hc => simp [T.has] at hz
  | var h5 hk hc => simp only [T.has, decide_eq_true_eq] at hz; exact ⟨_, hz.symm, h.root_lt n hn, hk, h.root_root n⟩
  | pair i j h5 hk hc hi hj =>
    simp only [T.has, Bool.or_eq_true] at hz
    exact hz.elim (ih i (by rw [hc]; simp) hi z) (ih j (by rw [hc]; simp) hj z)
  | fn i j h5 hk hc hi hj =>
    simp only [T.has, Bool.or_eq_true] at hz
    exact hz.elim (ih i (by rw [hc]; simp) hi z) (ih j (by rw [hc]; simp) hj z)
  | list i h5 hk hc hi => exact ih i (by rw [hc]; simp) hi z (by simpa [T.has] using hz)
/-- Is ? within? -/
theorem Wf.stat_iff {S : St} (h : Wf S) : ∀ n, n < S.length → ((S.tT n).static = false ↔ Rch S n 4) := by
  refine h.ind (p := fun n => n < S.length → ((S.tT n).static = false ↔ Rch S n 4)) fun n ih hn => ?_
  have sh := h.shT hn
  rw [rch_step]
  generalize S.tT n = x at sh ⊢
  cases sh with
  | base h4 hk hc => rw [hc]; simp only [T.static, Bool.true_eq_false, false_iff]; rintro (e | ⟨k, hk, _⟩); omega; cases hk
  | dyn h4 hk hc => simp only [T.static, true_iff]; exact .inl h4.symm
  | var h5 hk hc => rw [hc]; simp only [T.static, Bool.true_eq_false, false_iff]; rintro (e | ⟨k, hk, _⟩); omega; cases hk
  | pair i j h5 hk hc hi hj =>
    have hi' := ih i (by rw [hc]; simp) hi
    have hj' := ih j (by rw [hc]; simp) hj
    rw [hc]; simp only [T.static, Bool.and_eq_false_iff, hi', hj', List.mem_cons, List.not_mem_nil, or_false, exists_eq_or_imp, exists_eq_left]
    constructor
    · exact .inr
    · rintro (e | e)
      · omega
      · exact e
  | fn i j h5 hk hc hi hj =>
    have hi' := ih i (by rw [hc]; simp) hi
    have hj' := ih j (by rw [hc]; simp) hj
    rw [hc]; simp only [T.static, Bool.and_eq_false_iff, hi', hj', List.mem_cons, List.not_mem_nil, or_false, exists_eq_or_imp, exists_eq_left]
    constructor
    · exact .inr
    · rintro (e | e)
      · omega
      · exact e
  | list i h5 hk hc hi =>
    have hi' := ih i (by rw [hc]; simp) hi
    rw [hc]; simp only [T.static, hi', List.mem_cons, List.not_mem_nil, or_false, exists_eq_left]
    constructor
    · exact .inr
    · rintro (e | e)
      · omega
      · exact e
theorem Wf.all4 {S : St} (h : Wf S) {n : Nat} (hn : n < S.length) : 4 ∉ S.all n ↔ (S.tT n).static = true := by
  rw [h.mem_all hn, ← h.stat_iff n hn]; simp
theorem Wf.allx {S : St} (h : Wf S) {n x : Nat} (hn : n < S.length) (h6 : S.kind x = 6) : x ∈ S.all n ↔ (S.tT n).has x = true := by
  rw [h.mem_all hn, h.has_iff n hn]; simp [h6]
/-- No deeper than there are nodes. -/
theorem Wf.deep_le {S : St} (h : Wf S) : ∀ n, n < S.length → (S.tT n).deep ≤ S.length := by
  obtain ⟨ρ, hρ, hlt⟩ := h.rank
  have key : ∀ m n, n < S.length → ρ (S.root n) < m → (S.tT n).deep ≤ m := by
    intro m
    induction m with
    | zero => intro n _ hm; omega
    | succ m ih =>
      intro n hn hm
      have sh := h.shT hn
      generalize S.tT n = x at sh ⊢
      cases sh with
      | base h4 hk hc => simp [T.deep]
      | dyn h4 hk hc => simp [T.deep]
      | var h5 hk hc => simp [T.deep]
      | pair i j h5 hk hc hi hj =>
        have a := ih i hi (by have := h.kid_rank hρ (n := n) (k := i) (by rw [hc]; simp); omega)
        have b := ih j hj (by have := h.kid_rank hρ (n := n) (k := j) (by rw [hc]; simp); omega)
        simp only [T.deep]; omega
      | fn i j h5 hk hc hi hj =>
        have a := ih i hi (by have := h.kid_rank hρ (n := n) (k := i) (by rw [hc]; simp); omega)
        have b := ih j hj (by have := h.kid_rank hρ (n := n) (k := j) (by rw [hc]; simp); omega)
        simp only [T.deep]; omega
      | list i h5 hk hc hi =>
        have a := ih i hi (by have := h.kid_rank hρ (n := n) (k := i) (by rw [hc]; simp); omega)
        simp only [T.deep]; omega
  exact fun n hn => key _ n hn (hlt _ (h.root_lt n hn))

/-! A store that goes on: new nodes, and links of variables that had none. -/
structure Ext (S S' : St) : Prop where
  wf : Wf S'
  len : S.length ≤ S'.length
  kind : ∀ i, i < S.length → S'.kind i = S.kind i
  kids : ∀ i, i < S.length → S'.kids i = S.kids i
  link : ∀ i j, S.link i = some j → S'.link i = some j
theorem Ext.refl {S : St} (h : Wf S) : Ext S S := ⟨h, Nat.le_refl _, fun _ _ => rfl, fun _ _ => rfl, fun _ _ e => e⟩
theorem Ext.trans {S S' S'' : St} (h : Ext S S') (h' : Ext S' S'') : Ext S S'' :=
  ⟨h'.wf, Nat.le_trans h.len h'.len, fun i hi => by rw [h'.kind i (Nat.lt_of_lt_of_le hi h.len), h.kind i hi], fun i hi => by rw [h'.kids i (Nat.lt_of_lt_of_le hi h.len), h.kids i hi], fun i j e => h'.link i j (h.link i j e)⟩
theorem Ext.lv {S S' : St} (hw : Wf S') (h : Lv S S') : Ext S S' := ⟨hw, Nat.le_of_eq h.len.symm, fun i _ => h.kind i, fun i _ => h.kids i, fun i j e => by rw [h.link]; exact e⟩
theorem Ext.add {S : St} {x : Nd} (hw : Wf (S ++ [x])) : Ext S (S ++ [x]) := by
  refine ⟨hw, by simp, fun i hi => ?_, fun i hi => ?_, fun i j e => ?_⟩
  · rw [St.kind, St.nd_app hi]; rfl
  · rw [St.kids, St.nd_app hi]; rfl
  · have hi : i < S.length := Nat.lt_of_not_le fun hi => by rw [St.link, St.nd_ge hi] at e; cases e
    rw [St.link, St.nd_app hi]; exact e
theorem Ext.lk {S : St} {r to : Nat} (hw : Wf (S.lk r to)) (hr : r < S.length) (hl : S.link r = none) : Ext S (S.lk r to) := by
  refine ⟨hw, Nat.le_of_eq St.lk_len.symm, fun i hi => ?_, fun i hi => ?_, fun i j e => ?_⟩
  · rw [St.kind, St.nd_lk hr]; split
    · rename_i e; subst e; rfl
    · rfl
  · rw [St.kids, St.nd_lk hr]; split
    · rename_i e; subst e; rfl
    · rfl
  · have hne : i ≠ r := by rintro rfl; rw [hl] at e; cases e
    rw [St.link, St.nd_lk hr, if_neg hne]; exact e
theorem Ext.root {S S' : St} (hw : Wf S) (h : Ext S S') : ∀ n, S'.root n = S'.root (S.root n) := by
  refine hw.link_ind (fun n hn => by rw [root_none hn]) fun n j hn ih => ?_
  rw [hw.root_some hn, h.wf.root_some (h.link n j hn)]; exact ih
/-- A root that is no variable stays one. -/
theorem Ext.root_eq {S S' : St} (hw : Wf S) (h : Ext S S') {r : Nat} (hr : r < S.length) (h6 : S.kind r ≠ 6) : S'.root r = r := by
  apply root_none
  cases e : S'.link r with
  | none => rfl
  | some j => exact absurd (h.wf.link_var e).2.1 (by rw [h.kind r hr]; exact h6)
/-- What nodes become: their trees with what their variables become. -/
theorem Ext.tT {S S' : St} (hw : Wf S) (h : Ext S S') : ∀ n, n < S.length → S'.tT n = putS (fun v => S'.tT v.toNat) (S.tT n) := by
  refine hw.ind (p := fun n => n < S.length → S'.tT n = putS (fun v => S'.tT v.toNat) (S.tT n)) fun n ih hn => ?_
  have hr := hw.root_lt n hn
  have hle := h.len
  have e0 : S'.tT n = S'.tT (S.root n) := h.wf.tT_root (by omega) (by omega) (h.root hw n)
  have sh := hw.shT hn
  rw [e0]
  generalize hx : S.tT n = x at sh ⊢
  cases sh with
  | var h5 hk hc => simp only [putS, Int.toNat_natCast]
  | base h4 hk hc =>
    have er := h.root_eq hw hr (by omega)
    have e1 := h.kids _ hr
    have e2 := h.kind _ hr
    rw [h.wf.tT_eq (by omega), er, St.nodeT, e1, hc]
    simp only [putS]
    rw [if_neg (by omega), dif_pos h4]
  | dyn h4 hk hc =>
    have er := h.root_eq hw hr (by omega)
    have e1 := h.kids _ hr
    have e2 := h.kind _ hr
    rw [h.wf.tT_eq (by omega), er, St.nodeT, e1, hc]
    simp only [putS]
    rw [if_neg (by omega), dif_neg (by omega)]
  | pair i j h5 hk hc hi hj =>
    have er := h.root_eq hw hr (by omega)
    have e1 := h.kids _ hr
    have e2 := h.kind _ hr
    rw [h.wf.tT_eq (by omega), er, St.nodeT, e1, hc]
    simp only [putS]
    rw [if_pos (by omega), ih i (by rw [hc]; simp) hi, ih j (by rw [hc]; simp) hj]
  | fn i j h5 hk hc hi hj =>
    have er := h.root_eq hw hr (by omega)
    have e1 := h.kids _ hr
    have e2 := h.kind _ hr
    rw [h.wf.tT_eq (by omega), er, St.nodeT, e1, hc]
    simp only [putS]
    rw [if_neg (by omega), ih i (by rw [hc]; simp) hi, ih j (by rw [hc]; simp) hj]
  | list i h5 hk hc hi =>
    have er := h.root_eq hw hr (by omega)
    have e1 := h.kids _ hr
    have e2 := h.kind _ hr
    rw [h.wf.tT_eq (by omega), er, St.nodeT, e1, hc]
    simp only [putS]
    rw [ih i (by rw [hc]; simp) hi]
theorem Lv.tT {S S' : St} (h : Lv S S') (n : Nat) : S'.tT n = S.tT n := by
  have : ∀ f n, tTF S' f n = tTF S f n := by
    intro f
    induction f with
    | zero => intro n; rfl
    | succ f ih =>
      intro n
      simp only [tTF, h.root]
      unfold St.nodeT
      rw [h.kids, h.kind]
      split <;> simp [ih]
  unfold St.tT; rw [h.len]; exact this _ n

end Go.Proofs.Ytdngjamjccjlmaa
