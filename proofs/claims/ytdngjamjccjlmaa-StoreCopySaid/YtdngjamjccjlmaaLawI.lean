/- Arguments of laws: rows of numbers. No condition. -/
import Derived.Test.YtdngjamjccjlmaaPLa
import Derived.Test.YtdngjamjccjlmaaPVa
set_option linter.unusedSimpArgs false
set_option maxRecDepth 100000
namespace Go.Proofs.Ytdngjamjccjlmaa
open Go Go.Ab

def intSet : List Nat := [3, 33]
theorem intSet_ok : goodSet C intSet = true := by decide
section
variable {H : Type} {enc : TypeId × Value → H} {W : World} {r : Reach} {b0 : Nat} {spare : Nat → Bool} {held : Bool} {v : Value} {d : DataW H} {ps : List MemPlace}
theorem arg_ints (hval : Value.okWide Try.prog W r b0 33 v) (hd : DataW.Trod enc Try.prog W 0 spare held 33 v d ps) : ∃ l : List Int, Rep (viewOf W) v (.sl (l.map I64) .no) := by
  obtain ⟨a, n, h1, h2, h3⟩ := arg_rep C_ok intSet_ok (by decide) ty_33 hval hd
  rw [if_neg (by decide)] at h3
  obtain ⟨y, rfl, hy⟩ := h3
  cases n with
  | zero => exact h2.elim
  | succ n =>
    have h4 : ∃ es, cellsOf a = [AV.sl es .no] ∧ ∀ x ∈ es, Shp C n 3 (cellsOf x) ∧ if aggT C 3 then ∃ ys, x = .agg ys else ∃ y, x = y ∧ y.one = true := h2
    obtain ⟨es, h5, h6⟩ := h4
    have key : ∀ es : List AV, (∀ x ∈ es, Shp C n 3 (cellsOf x) ∧ if aggT C 3 then ∃ ys, x = .agg ys else ∃ y, x = y ∧ y.one = true) → ∃ l : List Int, es = l.map I64 := by
      intro es
      induction es with
      | nil => intro _; exact ⟨[], rfl⟩
      | cons a es ih2 =>
        intro h
        obtain ⟨l, rfl⟩ := ih2 fun x hx => h x (List.mem_cons_of_mem _ hx)
        obtain ⟨h7, h8⟩ := h a List.mem_cons_self
        obtain ⟨b, hb⟩ := shp_int h7
        rw [if_neg (by decide)] at h8
        obtain ⟨y, rfl, hy⟩ := h8
        refine ⟨b :: l, ?_⟩
        have : a = .int .i64 b := one_cells hy hb
        rw [List.map_cons, this]; rfl
    obtain ⟨l, rfl⟩ := key es h6
    refine ⟨l, ?_⟩
    have : a = .sl (l.map I64) .no := one_cells hy h5
    rw [← this]; exact h1
end

end Go.Proofs.Ytdngjamjccjlmaa
