/- The executor's states: how objects are read and written. No condition. -/
import Derived.Test.YtcpfjabjonpdaaaAb2
set_option linter.unusedSimpArgs false
namespace Go.Ab
open Go.RowKit (Below)

theorem addr_add (b o j : Nat) : (⟨b, o, none⟩ : Addr).add j = ⟨b, o + j, none⟩ := by unfold Addr.add; split <;> simp_all

/-! Lists of values, place by place. -/

def RepL (V : View) (vs : List Value) (as : List AV) : Prop := vs.length = as.length ∧ ∀ i, i < as.length → Rep V (vs.getD i undef) (as.getD i .any)

theorem RepL.mono {V V' : View} (hV : V.Le V') {vs : List Value} {as : List AV} (h : RepL V vs as) : RepL V' vs as := ⟨h.1, fun i hi => (h.2 i hi).mono hV⟩
theorem RepL.nil (V : View) : RepL V [] [] := ⟨rfl, fun i hi => absurd hi (by simp)⟩
theorem RepL.cons {V : View} {v : Value} {a : AV} {vs : List Value} {as : List AV} (h : Rep V v a) (hs : RepL V vs as) : RepL V (v :: vs) (a :: as) := by
  refine ⟨by simp [hs.1], fun i hi => ?_⟩
  cases i with
  | zero => exact h
  | succ i => exact hs.2 i (by simpa using hi)
theorem RepL.append {V : View} {vs ws : List Value} {as bs : List AV} (h : RepL V vs as) (k : RepL V ws bs) : RepL V (vs ++ ws) (as ++ bs) := by
  refine ⟨by simp [h.1, k.1], fun i hi => ?_⟩
  by_cases hlt : i < as.length
  · rw [getD_app_l _ _ _ hlt, getD_app_l _ _ _ (by rw [h.1]; exact hlt)]
    exact h.2 i hlt
  · have hl := h.1
    rw [getD_app_r _ _ _ (by omega), getD_app_r as _ _ (by omega), h.1]
    exact k.2 _ (by simp at hi; omega)
theorem RepL.take {V : View} {vs : List Value} {as : List AV} (h : RepL V vs as) (n : Nat) : RepL V (vs.take n) (as.take n) := by
  refine ⟨by simp [h.1], fun i hi => ?_⟩
  simp only [List.length_take] at hi
  have h1 := h.2 i (by omega)
  simpa [List.getD_eq_getElem?_getD, List.getElem?_take, show i < n by omega] using h1
theorem RepL.drop {V : View} {vs : List Value} {as : List AV} (h : RepL V vs as) (n : Nat) : RepL V (vs.drop n) (as.drop n) := by
  refine ⟨by simp [h.1], fun i hi => ?_⟩
  simp only [List.length_drop] at hi
  have h1 := h.2 (n + i) (by omega)
  simpa [List.getD_eq_getElem?_getD, List.getElem?_drop] using h1
theorem RepL.of_get {V : View} {vs : List Value} {as : List AV} (hl : vs.length = as.length) (h : ∀ (i : Nat) (v : Value) (a : AV), vs[i]? = some v → as[i]? = some a → Rep V v a) : RepL V vs as := by
  refine ⟨hl, fun i hi => h i _ _ ?_ ?_⟩
  · simp [List.getD_eq_getElem?_getD, List.getElem?_eq_getElem (show i < vs.length by omega)]
  · simp [List.getD_eq_getElem?_getD, List.getElem?_eq_getElem hi]
theorem RepL.get {V : View} {vs : List Value} {as : List AV} (h : RepL V vs as) {i : Nat} {v : Value} {a : AV} (hv : vs[i]? = some v) (ha : as[i]? = some a) : Rep V v a := by
  have hi : i < as.length := (List.getElem?_eq_some_iff.1 ha).1
  have h1 := h.2 i hi
  simpa [List.getD_eq_getElem?_getD, hv, ha] using h1
theorem RepL.agg {V : View} {cs : Array Value} {as : List AV} (h : RepL V cs.toList as) : Rep V (.agg cs) (.agg as) :=
  .agg cs as (by simpa using h.1) (fun i hi => by have := h.2 i hi; simpa [List.getD_eq_getElem?_getD, Array.getD_eq_getD_getElem?] using this)
theorem RepL.of_agg {V : View} {v : Value} {as : List AV} (h : Rep V v (.agg as)) : ∃ cs, v = .agg cs ∧ RepL V cs.toList as := by
  cases h with
  | agg cs _ hl h => exact ⟨cs, rfl, by simpa using hl, fun i hi => by have := h i hi; simpa [List.getD_eq_getElem?_getD, Array.getD_eq_getD_getElem?] using this⟩
theorem RepL.of_tup {V : View} {v : Value} {as : List AV} (h : Rep V v (.tup as)) : ∃ cs, v = .tuple cs ∧ RepL V cs.toList as := by
  cases h with
  | tup cs _ hl h => exact ⟨cs, rfl, by simpa using hl, fun i hi => by have := h i hi; simpa [List.getD_eq_getElem?_getD, Array.getD_eq_getD_getElem?] using this⟩
theorem RepL.tup {V : View} {cs : Array Value} {as : List AV} (h : RepL V cs.toList as) : Rep V (.tuple cs) (.tup as) :=
  .tup cs as (by simpa using h.1) (fun i hi => by have := h.2 i hi; simpa [List.getD_eq_getElem?_getD, Array.getD_eq_getD_getElem?] using this)
theorem Rep.cellsL {V : View} {v : Value} {a : AV} (h : Rep V v a) (hs : a.solid = true) : RepL V v.cells.toList (cellsOf a) := by
  obtain ⟨h1, h2⟩ := h.cells hs
  exact ⟨by simpa using h1, fun i hi => by have := h2 i hi; simpa [List.getD_eq_getElem?_getD, Array.getD_eq_getD_getElem?] using this⟩

theorem RepL.oneCells {V : View} {v : Value} {a : AV} (h : Rep V v a) (hs : a.solid = true) : ∀ u ∈ v.cells.toList, u.oneCell' = true := by
  intro u hu
  obtain ⟨i, hi, rfl⟩ := List.mem_iff_getElem.1 hu
  have hl := h.cellsL hs
  have h1 : i < (cellsOf a).length := by rw [← hl.1]; exact hi
  have := hl.2 i h1
  rw [getD_lt _ hi] at this
  exact this.oneCell (AV.solid_one hs i h1)

theorem setRange_length (vs : List AV) : ∀ (cs : List AV) (o : Nat), (setRange cs o vs).length = cs.length := by
  induction vs with
  | nil => intro cs o; rfl
  | cons v vs ih => intro cs o; rw [setRange, ih]; simp

theorem setRange_get (vs : List AV) : ∀ (cs : List AV) (o i : Nat), o + vs.length ≤ cs.length →
    (setRange cs o vs)[i]? = if i < o then cs[i]? else if i < o + vs.length then vs[i - o]? else cs[i]? := by
  induction vs with
  | nil => intro cs o i _; simp only [setRange, List.length_nil, Nat.add_zero]; split <;> rfl
  | cons v vs ih =>
    intro cs o i h
    simp only [List.length_cons] at h
    rw [setRange, ih _ _ _ (by simp; omega)]
    simp only [List.length_cons, List.getElem?_set]
    by_cases h1 : i < o
    · rw [if_pos (show i < o + 1 by omega), if_pos h1, if_neg (show ¬ o = i by omega)]
    · by_cases h2 : i = o
      · subst h2
        rw [if_pos (show i < i + 1 by omega), if_pos rfl, if_pos (show i < cs.length by omega), if_neg h1, if_pos (show i < i + (vs.length + 1) by omega)]
        simp
      · rw [if_neg (show ¬ i < o + 1 by omega), if_neg h1, if_neg (show ¬ o = i by omega)]
        by_cases h3 : i < o + 1 + vs.length
        · rw [if_pos h3, if_pos (show i < o + (vs.length + 1) by omega), show i - o = (i - (o + 1)) + 1 by omega]
          simp
        · rw [if_neg h3, if_neg (show ¬ i < o + (vs.length + 1) by omega)]

theorem setRange_eq (vs cs : List AV) (o : Nat) (h : o + vs.length ≤ cs.length) : setRange cs o vs = cs.take o ++ vs ++ cs.drop (o + vs.length) := by
  apply List.ext_getElem?
  intro i
  rw [setRange_get vs cs o i h]
  simp only [List.getElem?_append, List.getElem?_take, List.getElem?_drop, List.length_append, List.length_take]
  rw [show min o cs.length = o by omega]
  by_cases h1 : i < o
  · rw [if_pos h1, if_pos (show i < o + vs.length by omega), if_pos h1, if_pos h1]
  · rw [if_neg h1]
    by_cases h2 : i < o + vs.length
    · rw [if_pos h2, if_pos h2, if_neg h1]
    · rw [if_neg h2, if_neg h2]
      congr 1
      omega


theorem belL_iff (m : Nat) : ∀ l : List AV, AV.belL m l = true ↔ ∀ x ∈ l, x.bel m = true
  | [] => by simp [AV.belL]
  | a :: as => by simp [AV.belL, belL_iff m as]

theorem mem_setRange {x : AV} : ∀ (vs cs : List AV) (o : Nat), x ∈ setRange cs o vs → x ∈ cs ∨ x ∈ vs
  | [], cs, o, h => .inl h
  | v :: vs, cs, o, h => by
    rcases mem_setRange vs _ _ h with h | h
    · rcases List.mem_or_eq_of_mem_set h with h | h
      · exact .inl h
      · exact .inr (by simp [h])
    · exact .inr (by simp [h])

theorem belL_setRange {m : Nat} {cs vs : List AV} (o : Nat) (h : AV.belL m cs = true) (k : AV.belL m vs = true) : AV.belL m (setRange cs o vs) = true := by
  rw [belL_iff] at *
  intro x hx
  rcases mem_setRange _ _ _ hx with h1 | h1
  · exact h x h1
  · exact k x h1

theorem cellsOf_bel {m : Nat} {a : AV} (h : a.bel m = true) : AV.belL m (cellsOf a) = true := by
  cases a <;> first | exact h | (simp only [cellsOf, AV.belL, Bool.and_true]; exact h)

/-! Objects of a state. -/

structure RelW (V : View) (w : World) (s : AState) : Prop where
  hb : s.b = s.H.length
  bel : ∀ x ∈ s.H, x.bel s.b = true
  inv : Inv V s.obj w

theorem Rel.toW {V : View} {a : Act} {w : World} {s : AState} (h : Rel V a w s) : RelW V w s := ⟨h.hb, h.bel, h.inv⟩

theorem RelW.drew {V : View} {w : World} {s : AState} (h : RelW V w s) : RelW V w.drew s := ⟨h.hb, h.bel, h.inv.drew⟩

theorem obj_setObj {s : AState} (hb : s.b = s.H.length) {r : Nat} {x x' : AObj} (hr : s.obj r = some x) :
    (s.setObj r x').obj = fun q => if q = r then some x' else s.obj q := by
  funext q
  unfold AState.setObj AState.obj at *
  by_cases h1 : r < s.b
  · simp only [h1, if_true] at hr ⊢
    have hlt : r < s.H.length := by omega
    by_cases hq : q = r
    · subst hq; simp [h1, hlt]
    · by_cases h2 : q < s.b
      · simp [h2, hq, List.getElem?_set, Ne.symm hq]
      · simp [h2, hq]
  · simp only [h1, if_false] at hr ⊢
    have hlt : r - s.b < s.L.length := (List.getElem?_eq_some_iff.1 hr).1
    by_cases hq : q = r
    · subst hq; simp [h1, hlt]
    · by_cases h2 : q < s.b
      · simp [h2, hq]
      · have : ¬ r - s.b = q - s.b := by omega
        simp [h2, hq, List.getElem?_set, this]

theorem setObj_b (s : AState) (r : Nat) (x : AObj) : (s.setObj r x).b = s.b := by unfold AState.setObj; split <;> rfl
theorem setObj_env (s : AState) (r : Nat) (x : AObj) : (s.setObj r x).env = s.env := by unfold AState.setObj; split <;> rfl
theorem setObj_n (s : AState) (r : Nat) (x : AObj) : (s.setObj r x).n = s.n := by unfold AState.setObj; split <;> rfl

theorem RelW.setObj {V V' : View} {w w' : World} {s : AState} (h : RelW V w s) {r : Nat} {x x' : AObj} (hr : s.obj r = some x)
    (hi : Inv V' (fun q => if q = r then some x' else s.obj q) w') (hx : r < s.b → x'.bel s.b = true) : RelW V' w' (s.setObj r x') := by
  refine ⟨?_, ?_, by rw [obj_setObj h.hb hr]; exact hi⟩
  · unfold AState.setObj; split
    · simp [h.hb]
    · exact h.hb
  · rw [setObj_b]
    unfold AState.setObj
    split
    · rename_i hlt
      intro y hy
      simp only at hy
      rcases List.mem_or_eq_of_mem_set hy with hy | hy
      · exact h.bel y hy
      · subst hy; exact hx hlt
    · exact h.bel

theorem obj_next (s : AState) : s.obj (s.b + s.L.length) = none := by
  unfold AState.obj; rw [if_neg (by omega)]; simp

theorem obj_new (s : AState) (x : AObj) : (s.new x).obj = fun q => if q = s.b + s.L.length then some x else s.obj q := by
  funext q
  unfold AState.new AState.obj
  by_cases hq : q = s.b + s.L.length
  · subst hq; simp only [if_true]; rw [if_neg (by omega)]; simp
  · by_cases h1 : q < s.b
    · simp [h1, hq]
    · have : ¬ q - s.b = s.L.length := by omega
      simp only [h1, if_false, hq]
      rw [List.getElem?_append]
      by_cases h2 : q - s.b < s.L.length
      · simp [h2]
      · have h3 : q - s.b - s.L.length ≠ 0 := by omega
        simp [h2]
        omega

theorem RelW.new {V V' : View} {w w' : World} {s : AState} (h : RelW V w s) (x : AObj)
    (hi : Inv V' (fun q => if q = s.b + s.L.length then some x else s.obj q) w') : RelW V' w' (s.new x) :=
  ⟨h.hb, h.bel, by rw [obj_new]; exact hi⟩

theorem below_alloc {B : Nat} (w : World) (o : Obj) (h : B ≤ w.heap.size) : Below B w (w.alloc o) := (Below.refl B w).alloc h o

theorem below_setRow {B : Nat} (w : World) (g : Nat) (c : Array Value) (h : B ≤ g) : Below B w (w.setRow g c) :=
  ⟨rfl, rfl, rfl, by simp [World.setRow], fun k hk => setRow_other w g k c (by omega)⟩

end Go.Ab
