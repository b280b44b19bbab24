/- Lemmas: how a law of values is said. No condition. -/
import Derived.Test.YtofogicgnldfhaaPLa
import Derived.Test.YtofogicgnldfhaaPMa
import Derived.Test.YtofogicgnldfhaaPYa

section
/- Arguments of laws as trees: coercions, rows. No condition. -/
set_option linter.unusedSimpArgs false
set_option maxRecDepth 100000
namespace Go.Proofs.Ytofogicgnldfhaa
open Go Go.Ab

def coSet : List Nat := [3, 4, 24, 22, 30, 28]
theorem shp_co : ∀ (n : Nat) {cs : List AV}, Shp C n 24 cs → ∃ t : Co, cs = cellsOf (embC t) := by
  intro n
  induction n using Nat.strongRecOn with
  | _ n ih =>
    intro cs h
    cases n with
    | zero => exact h.elim
    | succ n =>
      have h' : cs.length = 5 ∧ ∀ p ∈ [(0, 3), (1, 3), (2, 3), (3, 4), (4, 22)], Shp C n p.2 ((cs.drop p.1).take (sizeT C p.2)) := h
      obtain ⟨hl, hf⟩ := h'
      obtain ⟨x, y, z, u, v, rfl⟩ : ∃ x y z u v, cs = [x, y, z, u, v] := by
        match cs, hl with
        | [x, y, z, u, v], _ => exact ⟨x, y, z, u, v, rfl⟩
      obtain ⟨k, hk⟩ := shp_int (hf (0, 3) (by simp))
      obtain ⟨hd, hh⟩ := shp_int (hf (1, 3) (by simp))
      obtain ⟨lb, hb⟩ := shp_int (hf (2, 3) (by simp))
      obtain ⟨ng, hn⟩ := shp_bool (hf (3, 4) (by simp))
      have h3 := hf (4, 22) (by simp)
      have e1 : x = .int .i64 k := by have : [x] = [AV.int .i64 k] := hk; simpa using this
      have e2 : y = .int .i64 hd := by have : [y] = [AV.int .i64 hd] := hh; simpa using this
      have e3 : z = .int .i64 lb := by have : [z] = [AV.int .i64 lb] := hb; simpa using this
      have e4 : u = .bool ng := by have : [u] = [AV.bool ng] := hn; simpa using this
      cases n with
      | zero => exact h3.elim
      | succ n =>
        have h4 : ∃ es, [v] = [AV.sl es .no] ∧ ∀ x ∈ es, Shp C n 24 (cellsOf x) ∧ if aggT C 24 then ∃ ys, x = .agg ys else ∃ y, x = y ∧ y.one = true := h3
        obtain ⟨es, h5, h6⟩ := h4
        have e5 : v = .sl es .no := by simpa using h5
        have key : ∀ es : List AV, (∀ x ∈ es, Shp C n 24 (cellsOf x) ∧ if aggT C 24 then ∃ ys, x = .agg ys else ∃ y, x = y ∧ y.one = true) → ∃ l : List Co, es = l.map embC := by
          intro es
          induction es with
          | nil => intro _; exact ⟨[], rfl⟩
          | cons a es ih2 =>
            intro h
            obtain ⟨l, rfl⟩ := ih2 fun x hx => h x (List.mem_cons_of_mem _ hx)
            obtain ⟨h7, h8⟩ := h a List.mem_cons_self
            obtain ⟨t, ht⟩ := ih n (by omega) h7
            rw [if_pos (by decide)] at h8
            obtain ⟨ys, rfl⟩ := h8
            refine ⟨t :: l, ?_⟩
            rw [List.map_cons, embC_eq]
            have : ys = cellsOf (embC t) := ht
            rw [this, embC_cells]
        obtain ⟨l, rfl⟩ := key es h6
        exact ⟨.mk k hd lb ng l, by rw [e1, e2, e3, e4, e5, embC_cells]; rfl⟩

section
variable {H : Type} {enc : TypeId × Value → H} {W : World} {r : Reach} {b0 : Nat} {spare : Nat → Bool} {held : Bool} {v : Value} {d : DataW H} {ps : List MemPlace}
end

end Go.Proofs.Ytofogicgnldfhaa
end

section
/- Arguments of laws as trees: values, patterns. No condition. -/
set_option linter.unusedSimpArgs false
set_option maxRecDepth 100000
namespace Go.Proofs.Ytofogicgnldfhaa
open Go Go.Ab

theorem shp_i64 {n : Nat} {cs : List AV} (h : Shp C n 2 cs) : ∃ m, cs = [.int .i64 m] := by
  cases n with
  | zero => exact h.elim
  | succ n => exact h
theorem shp_span {n : Nat} {x y : AV} (h : Shp C n 42 [x, y]) : ∃ a b, x = .int .i64 a ∧ y = .int .i64 b := by
  cases n with
  | zero => exact h.elim
  | succ n =>
    have h' : [x, y].length = 2 ∧ ∀ p ∈ [(0, 3), (1, 3)], Shp C n p.2 (([x, y].drop p.1).take (sizeT C p.2)) := h
    obtain ⟨a, ha⟩ := shp_int (h'.2 (0, 3) (by simp))
    obtain ⟨b, hb⟩ := shp_int (h'.2 (1, 3) (by simp))
    refine ⟨a, b, ?_, ?_⟩
    · have : [x] = [AV.int .i64 a] := ha
      simpa using this
    · have : [y] = [AV.int .i64 b] := hb
      simpa using this
theorem shp_str {n : Nat} {cs : List AV} (h : Shp C n 9 cs) : ∃ s, cs = [.str s] := by
  cases n with
  | zero => exact h.elim
  | succ n => exact h
/-- A slice of trees. -/
theorem shp_list {α : Type} {emb : α → AV} {t n : Nat} (he : ∀ x, emb x = .agg (cellsOf (emb x))) (ha : aggT C t = true) (ih : ∀ {cs : List AV}, Shp C n t cs → ∃ x : α, cs = cellsOf (emb x)) :
    ∀ es : List AV, (∀ x ∈ es, Shp C n t (cellsOf x) ∧ if aggT C t then ∃ ys, x = .agg ys else ∃ y, x = y ∧ y.one = true) → ∃ l : List α, es = l.map emb := by
  intro es
  induction es with
  | nil => intro _; exact ⟨[], rfl⟩
  | cons a es ih2 =>
    intro h
    obtain ⟨l, rfl⟩ := ih2 fun x hx => h x (List.mem_cons_of_mem _ hx)
    obtain ⟨h7, h8⟩ := h a List.mem_cons_self
    obtain ⟨t, ht⟩ := ih h7
    rw [if_pos ha] at h8
    obtain ⟨ys, rfl⟩ := h8
    refine ⟨t :: l, ?_⟩
    rw [List.map_cons, he]
    have : ys = cellsOf (emb t) := ht
    rw [this]
theorem cells_agg {x : AV} {l : List AV} (h : x = .agg l) : x = .agg (cellsOf x) := by subst h; rfl
def vlSet : List Nat := [3, 2, 4, 9, 24, 22, 27, 25]
theorem vlSet_ok : goodSet C vlSet = true := by decide
theorem shp_vl : ∀ (n : Nat) {cs : List AV}, Shp C n 27 cs → ∃ t : Vl, cs = cellsOf (embV t) := by
  intro n
  induction n using Nat.strongRecOn with
  | _ n ih =>
    intro cs h
    cases n with
    | zero => exact h.elim
    | succ n =>
      have h' : cs.length = 9 ∧ ∀ p ∈ [(0, 3), (1, 2), (2, 9), (3, 24), (8, 25)], Shp C n p.2 ((cs.drop p.1).take (sizeT C p.2)) := h
      obtain ⟨hl, hf⟩ := h'
      obtain ⟨x0, x1, x2, x3, x4, x5, x6, x7, x8, rfl⟩ : ∃ x0 x1 x2 x3 x4 x5 x6 x7 x8, cs = [x0, x1, x2, x3, x4, x5, x6, x7, x8] := by
        match cs, hl with
        | [x0, x1, x2, x3, x4, x5, x6, x7, x8], _ => exact ⟨x0, x1, x2, x3, x4, x5, x6, x7, x8, rfl⟩
      obtain ⟨k, hk⟩ := shp_int (hf (0, 3) (by simp))
      obtain ⟨m, hm⟩ := shp_i64 (hf (1, 2) (by simp))
      obtain ⟨s, hs⟩ := shp_str (hf (2, 9) (by simp))
      obtain ⟨c, hc⟩ := shp_co n (hf (3, 24) (by simp))
      have h3 := hf (8, 25) (by simp)
      have e1 : x0 = .int .i64 k := by have : [x0] = [AV.int .i64 k] := hk; simpa using this
      have e2 : x1 = .int .i64 m := by have : [x1] = [AV.int .i64 m] := hm; simpa using this
      have e3 : x2 = .str s := by have : [x2] = [AV.str s] := hs; simpa using this
      have e4 : [x3, x4, x5, x6, x7] = cellsOf (embC c) := hc
      rw [embC_cells] at e4
      cases n with
      | zero => exact h3.elim
      | succ n =>
        have h4 : ∃ es, [x8] = [AV.sl es .no] ∧ ∀ x ∈ es, Shp C n 27 (cellsOf x) ∧ if aggT C 27 then ∃ ys, x = .agg ys else ∃ y, x = y ∧ y.one = true := h3
        obtain ⟨es, h5, h6⟩ := h4
        obtain ⟨l, rfl⟩ := shp_list (emb := embV) (fun x => cells_agg (embV_eq x)) (by decide) (ih n (by omega)) es h6
        have e5 : x8 = .sl (l.map embV) .no := by simpa using h5
        simp only [List.cons.injEq, and_true] at e4
        obtain ⟨f3, f4, f5, f6, f7⟩ := e4
        exact ⟨.mk k m s c l, by rw [e1, e2, e3, f3, f4, f5, f6, f7, e5, embV_cells]; rfl⟩
def ptSet : List Nat := [3, 2, 42, 9, 45, 43]
theorem ptSet_ok : goodSet C ptSet = true := by decide
theorem shp_pt : ∀ (n : Nat) {cs : List AV}, Shp C n 45 cs → ∃ t : Pt, cs = cellsOf (embP t) := by
  intro n
  induction n using Nat.strongRecOn with
  | _ n ih =>
    intro cs h
    cases n with
    | zero => exact h.elim
    | succ n =>
      have h' : cs.length = 7 ∧ ∀ p ∈ [(0, 3), (1, 42), (3, 9), (4, 2), (5, 9), (6, 43)], Shp C n p.2 ((cs.drop p.1).take (sizeT C p.2)) := h
      obtain ⟨hl, hf⟩ := h'
      obtain ⟨x0, x1, x2, x3, x4, x5, x6, rfl⟩ : ∃ x0 x1 x2 x3 x4 x5 x6, cs = [x0, x1, x2, x3, x4, x5, x6] := by
        match cs, hl with
        | [x0, x1, x2, x3, x4, x5, x6], _ => exact ⟨x0, x1, x2, x3, x4, x5, x6, rfl⟩
      obtain ⟨k, hk⟩ := shp_int (hf (0, 3) (by simp))
      obtain ⟨a, b, e1, e2⟩ := shp_span (hf (1, 42) (by simp))
      obtain ⟨m, hm⟩ := shp_str (hf (3, 9) (by simp))
      obtain ⟨i, hi⟩ := shp_i64 (hf (4, 2) (by simp))
      obtain ⟨s, hs⟩ := shp_str (hf (5, 9) (by simp))
      have h3 := hf (6, 43) (by simp)
      have e0 : x0 = .int .i64 k := by have : [x0] = [AV.int .i64 k] := hk; simpa using this
      have e3 : x3 = .str m := by have : [x3] = [AV.str m] := hm; simpa using this
      have e4 : x4 = .int .i64 i := by have : [x4] = [AV.int .i64 i] := hi; simpa using this
      have e5 : x5 = .str s := by have : [x5] = [AV.str s] := hs; simpa using this
      cases n with
      | zero => exact h3.elim
      | succ n =>
        have h4 : ∃ es, [x6] = [AV.sl es .no] ∧ ∀ x ∈ es, Shp C n 45 (cellsOf x) ∧ if aggT C 45 then ∃ ys, x = .agg ys else ∃ y, x = y ∧ y.one = true := h3
        obtain ⟨es, h5, h6⟩ := h4
        obtain ⟨l, rfl⟩ := shp_list (emb := embP) (fun x => cells_agg (embP_eq x)) (by decide) (ih n (by omega)) es h6
        have e6 : x6 = .sl (l.map embP) .no := by simpa using h5
        exact ⟨.mk k a b m i s l, by rw [e0, e1, e2, e3, e4, e5, e6, embP_cells]; rfl⟩
section
variable {H : Type} {enc : TypeId × Value → H} {W : World} {r : Reach} {b0 : Nat} {spare : Nat → Bool} {held : Bool} {v : Value} {d : DataW H} {ps : List MemPlace}
theorem arg_vl (hval : Value.okWide Try.prog W r b0 27 v) (hd : DataW.Trod enc Try.prog W 0 spare held 27 v d ps) : ∃ t : Vl, Rep (viewOf W) v (embV t) := by
  obtain ⟨a, n, h1, h2, h3⟩ := arg_rep C_ok vlSet_ok (by decide) ty_27 hval hd
  rw [if_pos (by decide)] at h3
  obtain ⟨ys, rfl⟩ := h3
  obtain ⟨t, ht⟩ := shp_vl n h2
  refine ⟨t, ?_⟩
  rw [cells_agg (embV_eq t), ← ht]; exact h1
theorem arg_pt (hval : Value.okWide Try.prog W r b0 45 v) (hd : DataW.Trod enc Try.prog W 0 spare held 45 v d ps) : ∃ t : Pt, Rep (viewOf W) v (embP t) := by
  obtain ⟨a, n, h1, h2, h3⟩ := arg_rep C_ok ptSet_ok (by decide) ty_45 hval hd
  rw [if_pos (by decide)] at h3
  obtain ⟨ys, rfl⟩ := h3
  obtain ⟨t, ht⟩ := shp_pt n h2
  refine ⟨t, ?_⟩
  rw [cells_agg (embP_eq t), ← ht]; exact h1
end

end Go.Proofs.Ytofogicgnldfhaa
end

