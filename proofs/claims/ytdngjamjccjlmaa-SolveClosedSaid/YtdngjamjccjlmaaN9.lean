/- Stores that go on: what is put in, links, copies, levels, free variables. No condition. -/
import Derived.Test.YtdngjamjccjlmaaN8
import Derived.Test.YtdngjamjccjlmaaN6
set_option linter.unusedSimpArgs false
set_option linter.unusedVariables false
namespace Go.Proofs.Ytdngjamjccjlmaa
open Go Go.Ab

/-! How much of ? is in a tree. -/
def T.wD : T → Nat
  | .dyn => 1
  | .pair a b => if a.wD + b.wD = 0 then 0 else a.wD + b.wD + 1
  | .fn a b => if a.wD + b.wD = 0 then 0 else a.wD + b.wD + 1
  | .list a => if a.wD = 0 then 0 else a.wD + 1
  | _ => 0
theorem wD_zero : ∀ a : T, a.wD = 0 ↔ a.static = true := by
  intro a
  induction a with
  | pair a b ih1 ih2 => simp only [T.wD, T.static, Bool.and_eq_true, ← ih1, ← ih2]; split <;> omega
  | fn a b ih1 ih2 => simp only [T.wD, T.static, Bool.and_eq_true, ← ih1, ← ih2]; split <;> omega
  | list a ih1 => simp only [T.wD, T.static, ← ih1]; split <;> omega
  | _ => simp [T.wD, T.static]
theorem wD_size : ∀ a : T, a.wD ≤ a.size := by
  intro a
  induction a with
  | pair a b ih1 ih2 => simp only [T.wD, T.size]; split <;> omega
  | fn a b ih1 ih2 => simp only [T.wD, T.size]; split <;> omega
  | list a ih1 => simp only [T.wD, T.size]; split <;> omega
  | _ => simp [T.wD, T.size]
theorem wD_put {σ : Int → T} : ∀ a : T, (∀ n, a.has n = true → (σ n).static = true) → (putS σ a).wD = a.wD := by
  intro a
  induction a with
  | var n => intro h; exact (wD_zero _).2 (h n (by simp [T.has]))
  | pair a b ih1 ih2 => intro h; simp only [putS, T.wD]; rw [ih1 fun n hn => h n (by simp [T.has, hn]), ih2 fun n hn => h n (by simp [T.has, hn])]
  | fn a b ih1 ih2 => intro h; simp only [putS, T.wD]; rw [ih1 fun n hn => h n (by simp [T.has, hn]), ih2 fun n hn => h n (by simp [T.has, hn])]
  | list a ih1 => intro h; simp only [putS, T.wD]; rw [ih1 fun n hn => h n (by simp [T.has, hn])]
  | _ => intro _; rfl
theorem static_put {σ : Int → T} {a : T} (h : ∀ n, a.has n = true → (σ n).static = true) : (putS σ a).static = a.static := by
  rw [Bool.eq_iff_iff, ← wD_zero, ← wD_zero, wD_put a h]
theorem static_closed_put {σ : Int → T} (a : T) (h : ∀ n, a.has n = true → (σ n).static = true) (ha : a.static = true) : (putS σ a).static = true := by rw [static_put h]; exact ha

/-! Values of variables are free of ?. -/
def StV (S : St) : Prop := ∀ v, v < S.length → S.kind v = 6 → (S.tT v).static = true
theorem Ext.wD {S S' : St} (hw : Wf S) (h : Ext S S') (hs : StV S') {n : Nat} (hn : n < S.length) : (S'.tT n).wD = (S.tT n).wD := by
  rw [h.tT hw n hn]
  refine wD_put _ fun z hz => ?_
  obtain ⟨m, rfl, h1, h2, _⟩ := hw.has_nat n hn z hz
  exact hs m (Nat.lt_of_lt_of_le h1 h.len) (by rw [h.kind m h1]; exact h2)
theorem Ext.static {S S' : St} (hw : Wf S) (h : Ext S S') (hs : StV S') {n : Nat} (hn : n < S.length) : (S'.tT n).static = (S.tT n).static := by
  rw [Bool.eq_iff_iff, ← wD_zero, ← wD_zero, h.wD hw hs hn]
theorem StV.lv {S S' : St} (h : StV S) (hl : Lv S S') : StV S' := fun v hv hk => by
  rw [hl.tT]; exact h v (by rw [← hl.len]; exact hv) (by rw [← hl.kind]; exact hk)
theorem Wf.tT_add {S : St} (h : Wf S) {x : Nd} (h' : Wf (S ++ [x])) (hl : x.link = none) {n : Nat} (hn : n < S.length) : St.tT (S ++ [x]) n = S.tT n :=
  T.ty_inj (by rw [← h'.tT_ty n (by simp; omega), h.tree_add h' hl n hn, h.tT_ty n hn])
theorem Wf.tT_newvar {S : St} {lv : Int} (h' : Wf (S ++ [⟨6, lv, none, []⟩])) : St.tT (S ++ [⟨6, lv, none, []⟩]) S.length = .var S.length := by
  have e := h'.shT (n := S.length) (by simp)
  rw [root_new rfl] at e
  have k : St.kind (S ++ [⟨6, lv, none, []⟩]) S.length = 6 := by rw [St.kind, St.nd_app0]
  generalize St.tT (S ++ [⟨6, lv, none, []⟩]) S.length = z at e ⊢
  cases e <;> first | rfl | omega
theorem StV.var {S : St} (hw : Wf S) (h : StV S) {lv : Int} (h' : Wf (S ++ [⟨6, lv, none, []⟩])) : StV (S ++ [⟨6, lv, none, []⟩]) := fun v hv hk => by
  simp only [List.length_append, List.length_cons, List.length_nil] at hv
  by_cases e : v = S.length
  · subst e; rw [h'.tT_newvar]; rfl
  · have hv' : v < S.length := by omega
    rw [hw.tT_add h' rfl hv']
    exact h v hv' (by rw [St.kind, St.nd_app hv'] at hk; exact hk)
theorem StV.node {S : St} (hw : Wf S) (h : StV S) {x : Nd} (h' : Wf (S ++ [x])) (hl : x.link = none) (hk6 : x.kind ≠ 6) : StV (S ++ [x]) := fun v hv hk => by
  simp only [List.length_append, List.length_cons, List.length_nil] at hv
  by_cases e : v = S.length
  · subst e; rw [St.kind, St.nd_app0] at hk; exact absurd hk hk6
  · have hv' : v < S.length := by omega
    rw [hw.tT_add h' hl hv']
    exact h v hv' (by rw [St.kind, St.nd_app hv'] at hk; exact hk)

/-! A link. -/
/-- A free variable stands for itself. -/
theorem Wf.tT_free {S : St} (h : Wf S) {v : Nat} (hv : v < S.length) (h6 : S.kind v = 6) (hl : S.link v = none) : S.tT v = .var v := by
  have e := h.shT hv
  have er : S.root v = v := root_none hl
  rw [er] at e
  generalize S.tT v = z at e ⊢
  cases e <;> first | rfl | omega
/-- A root that is a variable, linked to another root. -/
structure CanLk (S : St) (x y : Nat) : Prop where
  hx : x < S.length
  hy : y < S.length
  lx : S.link x = none
  ly : S.link y = none
  h6 : S.kind x = 6
  hn : x ∉ S.all y
theorem CanLk.ne {S : St} {x y : Nat} (hw : Wf S) (h : CanLk S x y) : y ≠ x := fun e => h.hn (by
  rw [hw.mem_all h.hy, rch_step]; left; rw [root_none h.ly]; exact e.symm)
theorem CanLk.wf {S : St} {x y : Nat} (hw : Wf S) (h : CanLk S x y) : Wf (S.lk x y) := hw.lk h.hx h.hy h.lx h.h6 h.ly h.hn
theorem CanLk.ext {S : St} {x y : Nat} (hw : Wf S) (h : CanLk S x y) : Ext S (S.lk x y) := Ext.lk (h.wf hw) h.hx h.lx
theorem CanLk.root {S : St} {x y : Nat} (hw : Wf S) (h : CanLk S x y) (n : Nat) : (S.lk x y).root n = if S.root n = x then y else S.root n :=
  hw.root_lk (h.wf hw) h.hx h.lx h.ly (h.ne hw) n
theorem CanLk.has {S : St} {x y : Nat} (hw : Wf S) (h : CanLk S x y) : (S.tT y).has x = false := by
  have := h.hn
  rw [hw.allx h.hy h.h6] at this; simpa using this
theorem CanLk.tT_other {S : St} {x y z : Nat} (hw : Wf S) (h : CanLk S x y) (hz : z < S.length) (h6 : S.kind z = 6) (er : S.root z = z) (hne : z ≠ x) : (S.lk x y).tT z = .var z := by
  have e : (S.lk x y).root z = z := by rw [h.root hw, er, if_neg hne]
  refine (h.wf hw).tT_free (by rw [St.lk_len]; exact hz) (by rw [(h.ext hw).kind z hz]; exact h6) ?_
  have := (h.wf hw).root_link z
  rwa [e] at this
theorem CanLk.tT_y {S : St} {x y : Nat} (hw : Wf S) (h : CanLk S x y) : (S.lk x y).tT y = S.tT y := by
  rw [(h.ext hw).tT hw y h.hy]
  conv => rhs; rw [← put_id (S.tT y)]
  refine put_congr _ fun z hz => ?_
  obtain ⟨m, rfl, h1, h2, h3⟩ := hw.has_nat y h.hy z hz
  rw [Int.toNat_natCast]
  refine h.tT_other hw h1 h2 h3 fun e => ?_
  subst e
  rw [h.has hw] at hz; cases hz
theorem CanLk.tT_x {S : St} {x y : Nat} (hw : Wf S) (h : CanLk S x y) : (S.lk x y).tT x = S.tT y := by
  rw [← h.tT_y hw]
  refine (h.wf hw).tT_root (by rw [St.lk_len]; exact h.hx) (by rw [St.lk_len]; exact h.hy) ?_
  rw [h.root hw, h.root hw, root_none h.lx, if_pos rfl, root_none h.ly, if_neg (h.ne hw)]
theorem CanLk.tT {S : St} {x y : Nat} (hw : Wf S) (h : CanLk S x y) {n : Nat} (hn : n < S.length) : (S.lk x y).tT n = putS (fun z => if z = x then S.tT y else .var z) (S.tT n) := by
  rw [(h.ext hw).tT hw n hn]
  refine put_congr _ fun z hz => ?_
  obtain ⟨m, rfl, h1, h2, h3⟩ := hw.has_nat n hn z hz
  rw [Int.toNat_natCast]
  by_cases e : m = x
  · subst e; rw [if_pos rfl, h.tT_x hw]
  · rw [if_neg (by omega), h.tT_other hw h1 h2 h3 e]
theorem CanLk.stV {S : St} {x y : Nat} (hw : Wf S) (h : CanLk S x y) (hs : StV S) (hy : (S.tT y).static = true) : StV (S.lk x y) := fun v hv hk => by
  rw [St.lk_len] at hv
  rw [(h.ext hw).kind v hv] at hk
  rw [h.tT hw hv]
  refine static_closed_put _ (fun z _ => ?_) (hs v hv hk)
  split
  · exact hy
  · rfl

/-! How many variables are free. -/
def St.isFree (S : St) (i : Nat) : Bool := (S.kind i == 6) && (S.link i).isNone
def St.free (S : St) : Nat := (List.range S.length).countP S.isFree
theorem Lv.free {S S' : St} (h : Lv S S') : S'.free = S.free := by
  unfold St.free
  rw [h.len]
  congr 1
  funext i
  simp only [St.isFree, h.kind, h.link]
theorem countP_same {α : Type} {p q : α → Bool} : ∀ {l : List α}, (∀ x ∈ l, p x = q x) → l.countP p = l.countP q
  | [], _ => rfl
  | a :: l, h => by
    rw [List.countP_cons, List.countP_cons, h a List.mem_cons_self, countP_same fun x hx => h x (List.mem_cons_of_mem _ hx)]
theorem countP_one {p q : Nat → Bool} {r : Nat} (hp : p r = true) (hq : q r = false) (h : ∀ i, i ≠ r → q i = p i) : ∀ l : List Nat, l.Nodup → r ∈ l → l.countP q + 1 = l.countP p
  | [], _, hr => by cases hr
  | a :: l, hd, hr => by
    rw [List.nodup_cons] at hd
    rw [List.countP_cons, List.countP_cons]
    by_cases e : a = r
    · subst e
      rw [hp, hq, countP_same (p := q) (q := p) fun x hx => h x fun e => hd.1 (e ▸ hx)]; simp
    · have := countP_one hp hq h l hd.2 ((List.mem_cons.1 hr).resolve_left fun e' => e e'.symm)
      rw [h a e]; omega
theorem free_add {S : St} {x : Nd} (hl : x.link = none) : St.free (S ++ [x]) = S.free + if x.kind = 6 then 1 else 0 := by
  unfold St.free
  rw [List.length_append, List.length_singleton, List.range_succ, List.countP_append, List.countP_singleton]
  congr 1
  · refine countP_same fun i hi => ?_
    have hi' : i < S.length := List.mem_range.1 hi
    simp only [St.isFree, St.kind, St.link, St.nd_app hi']
  · simp only [St.isFree, St.kind, St.link, St.nd_app0, hl]
    by_cases e : x.kind = 6 <;> simp [e]
theorem CanLk.free {S : St} {x y : Nat} (h : CanLk S x y) : (S.lk x y).free + 1 = S.free := by
  unfold St.free
  rw [St.lk_len]
  refine countP_one (r := x) ?_ ?_ (fun i hi => ?_) _ List.nodup_range (List.mem_range.2 h.hx)
  · simp [St.isFree, h.h6, h.lx]
  · simp only [St.isFree, St.link, St.nd_lk h.hx, if_pos]; simp
  · simp only [St.isFree, St.kind, St.link, St.nd_lk h.hx, if_neg hi]

/-! Levels: no variable within what a variable stands for has a greater one. -/
def LvOK (S : St) : Prop := ∀ v, v < S.length → S.kind v = 6 → ∀ w : Nat, (S.tT v).has w = true → (S.nd w).level ≤ (S.nd v).level
theorem LvOK.var {S : St} (hw : Wf S) (h : LvOK S) {lv : Int} (h' : Wf (S ++ [⟨6, lv, none, []⟩])) : LvOK (S ++ [⟨6, lv, none, []⟩]) := fun v hv hk w hh => by
  simp only [List.length_append, List.length_cons, List.length_nil] at hv
  by_cases e : v = S.length
  · subst e; rw [h'.tT_newvar] at hh
    simp only [T.has, decide_eq_true_eq] at hh
    have : w = S.length := by omega
    subst this; exact Int.le_refl _
  · have hv' : v < S.length := by omega
    rw [hw.tT_add h' rfl hv'] at hh
    obtain ⟨m, e1, h1, _⟩ := hw.has_nat v hv' w hh
    have : w = m := by omega
    subst this
    rw [St.nd_app hv', St.nd_app h1]
    exact h v hv' (by rw [St.kind, St.nd_app hv'] at hk; exact hk) w hh
theorem LvOK.node {S : St} (hw : Wf S) (h : LvOK S) {x : Nd} (h' : Wf (S ++ [x])) (hl : x.link = none) (hk6 : x.kind ≠ 6) : LvOK (S ++ [x]) := fun v hv hk w hh => by
  simp only [List.length_append, List.length_cons, List.length_nil] at hv
  by_cases e : v = S.length
  · subst e; rw [St.kind, St.nd_app0] at hk; exact absurd hk hk6
  · have hv' : v < S.length := by omega
    rw [hw.tT_add h' hl hv'] at hh
    obtain ⟨m, e1, h1, _⟩ := hw.has_nat v hv' w hh
    have : w = m := by omega
    subst this
    rw [St.nd_app hv', St.nd_app h1]
    exact h v hv' (by rw [St.kind, St.nd_app hv'] at hk; exact hk) w hh
/-- Levels were lowered of roots within a node. -/
structure LowAt (S S' : St) (n : Nat) (l : Int) : Prop where
  lv : Lv S S'
  level : ∀ i, (S'.nd i).level = if i ∈ S.vars n then min (S.nd i).level l else (S.nd i).level
theorem LowAt.le {S S' : St} {n : Nat} {l : Int} (h : LowAt S S' n l) (i : Nat) : (S'.nd i).level ≤ (S.nd i).level := by
  rw [h.level]; split <;> omega
theorem LowAt.linked {S S' : St} {n : Nat} {l : Int} (hw : Wf S) (hn : n < S.length) (h : LowAt S S' n l) {i : Nat} (hi : S.root i ≠ i) : (S'.nd i).level = (S.nd i).level := by
  rw [h.level, if_neg]
  intro hm
  exact hi (((hw.mem_vars hn).1 hm).1.root hw)
theorem LowAt.ok {S S' : St} {n : Nat} {l : Int} (hw : Wf S) (hn : n < S.length) (h : LowAt S S' n l) (hk : LvOK S) : LvOK S' := fun v hv h6 w hh => by
  rw [h.lv.len] at hv
  rw [h.lv.kind] at h6
  rw [h.lv.tT] at hh
  by_cases er : S.root v = v
  · have hf : S.tT v = .var v := hw.tT_free hv h6 (by have := hw.root_link v; rwa [er] at this)
    rw [hf] at hh
    simp only [T.has, decide_eq_true_eq] at hh
    have : w = v := by omega
    subst this; exact Int.le_refl _
  · rw [h.linked hw hn er]
    have := hk v hv h6 w hh
    have := h.le w
    omega
/-- The levels behind a link, and a lowering. -/
theorem LvOK.lk {S S' : St} {x y : Nat} (hw : Wf S) (h : CanLk S x y) (hl : LowAt (S.lk x y) S' y (S.nd x).level) (hk : LvOK S) : LvOK S' := by
  have hwl := h.wf hw
  have lev : ∀ i, ((S.lk x y).nd i).level = (S.nd i).level := fun i => by
    rw [St.nd_lk h.hx]; split
    · rename_i e; subst e; rfl
    · rfl
  intro v hv h6 w hh
  rw [hl.lv.len, St.lk_len] at hv
  rw [hl.lv.kind, (h.ext hw).kind v hv] at h6
  rw [hl.lv.tT] at hh
  have hyl : y < (S.lk x y).length := by rw [St.lk_len]; exact h.hy
  -- what is within y has no greater level
  have low : ∀ z : Nat, (S.tT y).has z = true → (S'.nd z).level ≤ (S.nd x).level := fun z hz => by
    obtain ⟨m, e1, h1, h2, h3⟩ := hw.has_nat y h.hy z hz
    have : z = m := by omega
    subst this
    rw [hl.level, if_pos, lev]
    · omega
    · rw [hwl.mem_vars hyl, ← hwl.has_iff y hyl, h.tT_y hw]; exact hz
  by_cases er : (S.lk x y).root v = v
  · have hf : (S.lk x y).tT v = .var v := hwl.tT_free (by rw [St.lk_len]; exact hv) (by rw [(h.ext hw).kind v hv]; exact h6) (by have := hwl.root_link v; rwa [er] at this)
    rw [hf] at hh
    simp only [T.has, decide_eq_true_eq] at hh
    have : w = v := by omega
    subst this; exact Int.le_refl _
  · rw [hl.linked hwl hyl er, lev]
    by_cases ev : S.root v = v
    · -- v is x
      have hvx : v = x := by
        rw [h.root hw, ev] at er
        split at er
        · assumption
        · exact absurd rfl er
      subst hvx
      rw [h.tT_x hw] at hh
      exact low w hh
    · rw [h.tT hw hv] at hh
      have key : ∀ a : T, (putS (fun z => if z = (x : Int) then S.tT y else .var z) a).has w = true → (a.has x = true ∧ (S.tT y).has w = true) ∨ a.has w = true := by
        intro a
        induction a with
        | var n =>
          simp only [putS, T.has]
          split
          · rename_i e; intro hz; left; exact ⟨by simp [e], hz⟩
          · intro hz; right; simpa [T.has] using hz
        | pair a b ih1 ih2 =>
          simp only [putS, T.has, Bool.or_eq_true]
          rintro (hz | hz)
          · rcases ih1 hz with ⟨a1, a2⟩ | a1
            · exact .inl ⟨.inl a1, a2⟩
            · exact .inr (.inl a1)
          · rcases ih2 hz with ⟨a1, a2⟩ | a1
            · exact .inl ⟨.inr a1, a2⟩
            · exact .inr (.inr a1)
        | fn a b ih1 ih2 =>
          simp only [putS, T.has, Bool.or_eq_true]
          rintro (hz | hz)
          · rcases ih1 hz with ⟨a1, a2⟩ | a1
            · exact .inl ⟨.inl a1, a2⟩
            · exact .inr (.inl a1)
          · rcases ih2 hz with ⟨a1, a2⟩ | a1
            · exact .inl ⟨.inr a1, a2⟩
            · exact .inr (.inr a1)
        | list a ih1 => exact ih1
        | _ => simp [putS, T.has]
      rcases key _ hh with ⟨a1, a2⟩ | a1
      · have := hk v hv h6 x a1
        have := low w a2
        omega
      · have := hk v hv h6 w a1
        have := hl.le w
        rw [lev] at this
        omega

end Go.Proofs.Ytdngjamjccjlmaa
