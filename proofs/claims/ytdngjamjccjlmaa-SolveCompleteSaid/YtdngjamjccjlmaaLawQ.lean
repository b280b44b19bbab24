/- Arguments of laws that are rows of types and of pairs of types. No condition. -/
import Derived.Test.YtdngjamjccjlmaaPLa
import Derived.Test.YtdngjamjccjlmaaPBc
set_option linter.unusedSimpArgs false
set_option maxRecDepth 100000
namespace Go.Proofs.Ytdngjamjccjlmaa
open Go Go.Ab

def tySetQ : List Nat := [3, 4, 9, 24, 22, 57, 58]
theorem tySetQ_ok : goodSet C tySetQ = true := by decide

theorem shp_pr {n : Nat} {cs : List AV} (h : Shp C n 57 cs) : ∃ p : Pr, cs = cellsOf (embQ p) := by
  cases n with
  | zero => exact h.elim
  | succ n =>
    have h' : cs.length = 6 ∧ ∀ p ∈ [(0, 24), (3, 24)], Shp C n p.2 ((cs.drop p.1).take (sizeT C p.2)) := h
    obtain ⟨hl, hf⟩ := h'
    obtain ⟨x1, x2, x3, x4, x5, x6, rfl⟩ : ∃ x1 x2 x3 x4 x5 x6, cs = [x1, x2, x3, x4, x5, x6] := by
      match cs, hl with
      | [x1, x2, x3, x4, x5, x6], _ => exact ⟨x1, x2, x3, x4, x5, x6, rfl⟩
    obtain ⟨a, ha⟩ := shp_ty n (hf (0, 24) (by simp))
    obtain ⟨b, hb⟩ := shp_ty n (hf (3, 24) (by simp))
    have e1 : [x1, x2, x3] = [.int .i64 a.kind, .int .i64 a.num, .sl (a.kids.map emb) .no] := by rw [← emb_cells]; exact ha
    have e2 : [x4, x5, x6] = [.int .i64 b.kind, .int .i64 b.num, .sl (b.kids.map emb) .no] := by rw [← emb_cells]; exact hb
    simp only [List.cons.injEq, and_true] at e1 e2
    obtain ⟨rfl, rfl, rfl⟩ := e1
    obtain ⟨rfl, rfl, rfl⟩ := e2
    exact ⟨(a, b), rfl⟩

section
variable {H : Type} {enc : TypeId × Value → H} {W : World} {r : Reach} {b0 : Nat} {spare : Nat → Bool} {held : Bool} {v : Value} {d : DataW H} {ps : List MemPlace}
theorem arg_prs (hval : Value.okWide Try.prog W r b0 58 v) (hd : DataW.Trod enc Try.prog W 0 spare held 58 v d ps) : ∃ l : List Pr, Rep (viewOf W) v (.sl (l.map embQ) .no) := by
  obtain ⟨a, n, h1, h2, h3⟩ := arg_rep C_ok tySetQ_ok (by decide) ty_58 hval hd
  rw [if_neg (by decide)] at h3
  obtain ⟨y, rfl, hy⟩ := h3
  cases n with
  | zero => exact h2.elim
  | succ n =>
    have h4 : ∃ es, cellsOf a = [AV.sl es .no] ∧ ∀ x ∈ es, Shp C n 57 (cellsOf x) ∧ if aggT C 57 then ∃ ys, x = .agg ys else ∃ y, x = y ∧ y.one = true := h2
    obtain ⟨es, h5, h6⟩ := h4
    have key : ∀ es : List AV, (∀ x ∈ es, Shp C n 57 (cellsOf x) ∧ if aggT C 57 then ∃ ys, x = .agg ys else ∃ y, x = y ∧ y.one = true) → ∃ l : List Pr, es = l.map embQ := by
      intro es
      induction es with
      | nil => intro _; exact ⟨[], rfl⟩
      | cons a es ih2 =>
        intro h
        obtain ⟨l, rfl⟩ := ih2 fun x hx => h x (List.mem_cons_of_mem _ hx)
        obtain ⟨h7, h8⟩ := h a List.mem_cons_self
        obtain ⟨p, hp⟩ := shp_pr h7
        rw [if_pos (by decide)] at h8
        obtain ⟨ys, rfl⟩ := h8
        refine ⟨p :: l, ?_⟩
        rw [List.map_cons, embQ_eq]
        have : ys = cellsOf (embQ p) := hp
        rw [this, embQ_cells]
    obtain ⟨l, rfl⟩ := key es h6
    refine ⟨l, ?_⟩
    have : a = .sl (l.map embQ) .no := one_cells hy h5
    rw [← this]; exact h1
theorem arg_tys (hval : Value.okWide Try.prog W r b0 22 v) (hd : DataW.Trod enc Try.prog W 0 spare held 22 v d ps) : ∃ l : List Ty, Rep (viewOf W) v (.sl (l.map emb) .no) := by
  obtain ⟨a, n, h1, h2, h3⟩ := arg_rep C_ok tySetQ_ok (by decide) ty_22 hval hd
  rw [if_neg (by decide)] at h3
  obtain ⟨y, rfl, hy⟩ := h3
  cases n with
  | zero => exact h2.elim
  | succ n =>
    have h4 : ∃ es, cellsOf a = [AV.sl es .no] ∧ ∀ x ∈ es, Shp C n 24 (cellsOf x) ∧ if aggT C 24 then ∃ ys, x = .agg ys else ∃ y, x = y ∧ y.one = true := h2
    obtain ⟨es, h5, h6⟩ := h4
    have key : ∀ es : List AV, (∀ x ∈ es, Shp C n 24 (cellsOf x) ∧ if aggT C 24 then ∃ ys, x = .agg ys else ∃ y, x = y ∧ y.one = true) → ∃ l : List Ty, es = l.map emb := by
      intro es
      induction es with
      | nil => intro _; exact ⟨[], rfl⟩
      | cons a es ih2 =>
        intro h
        obtain ⟨l, rfl⟩ := ih2 fun x hx => h x (List.mem_cons_of_mem _ hx)
        obtain ⟨h7, h8⟩ := h a List.mem_cons_self
        obtain ⟨t, ht⟩ := shp_ty n h7
        rw [if_pos (by decide)] at h8
        obtain ⟨ys, rfl⟩ := h8
        refine ⟨t :: l, ?_⟩
        rw [List.map_cons, emb_eq]
        have : ys = cellsOf (emb t) := ht
        rw [this, emb_cells]
    obtain ⟨l, rfl⟩ := key es h6
    refine ⟨l, ?_⟩
    have : a = .sl (l.map emb) .no := one_cells hy h5
    rw [← this]; exact h1
end

end Go.Proofs.Ytdngjamjccjlmaa
