/- Lemmas: what a value made one of ? and back needs beside the rest. No condition. -/
import Derived.Test.YtofogicgnldfhaaPYi
import Derived.Test.YtofogicgnldfhaaPYf
import Derived.Test.YtofogicgnldfhaaPLa
import Derived.Test.YtofogicgnldfhaaPLc
set_option linter.unusedSimpArgs false
set_option linter.unusedVariables false
set_option maxRecDepth 100000
namespace Go.Ab
theorem one_cells {a y : AV} (h : a.one = true) (hc : cellsOf a = [y]) : a = y := by
  cases a <;> first | (simp [AV.one] at h; done) | (simp [cellsOf] at hc; exact hc)

end Go.Ab
namespace Go.Proofs.Ytofogicgnldfhaa
open Go Go.Ab
theorem sameC_true {a b : Co} : sameC a b = true ↔ a = b := by
  induction a using Co.ind generalizing b with
  | h a ih =>
    rw [sameC_eq]
    simp only [Bool.and_eq_true, decide_eq_true_eq, beq_iff_eq, allN_iff]
    constructor
    · rintro ⟨⟨⟨⟨⟨h1, h2⟩, h3⟩, h4⟩, h5⟩, h6⟩
      obtain ⟨k, h, l, n, ks⟩ := a
      obtain ⟨k', h', l', n', ks'⟩ := b
      simp only [Co.kind, Co.head, Co.label, Co.neg, Co.kids] at h1 h2 h3 h4 h5
      subst h1 h2 h3 h4
      congr 1
      refine List.ext_getElem h5 fun i hi hi' => ?_
      have := h6 i hi
      rw [ih _ (cokid_mem hi)] at this
      simpa [Co.kid, Co.kids, hi, hi'] using this
    · rintro rfl
      exact ⟨⟨⟨⟨⟨rfl, rfl⟩, rfl⟩, rfl⟩, rfl⟩, fun i hi => (ih _ (cokid_mem hi)).2 rfl⟩

/-- What a former, or CId, joined with a CInj is. -/
theorem joinK_x_inj {x : K} (hx : x.isForm = true ∨ x = .id) (h : Int) (k : K) : joinK x (.inj h k) = (joinK x k).map (.inj h) := by
  rcases hx with hx | rfl
  · exact joinK_form_inj hx h k
  · rw [joinK_id, joinK_id]; rfl

theorem bytes_ext {a b : ByteArray} (h : a.data.toList = b.data.toList) : a = b := by
  cases a; cases b; simp only [ByteArray.mk.injEq]; exact Array.toList_inj.1 h

theorem sameV_true {a b : Vl} : sameV a b = true ↔ a = b := by
  induction a using Vl.ind generalizing b with
  | h a ih =>
    rw [sameV_eq]
    simp only [sameN, Bool.and_eq_true, decide_eq_true_eq, allN_iff, sameC_true]
    constructor
    · rintro ⟨⟨⟨⟨h1, h2⟩, h3⟩, h4⟩, h5, h6⟩
      obtain ⟨k, n, s, c, l⟩ := a
      obtain ⟨k', n', s', c', l'⟩ := b
      simp only [Vl.kind, Vl.num, Vl.str, Vl.co, Vl.kids] at h1 h2 h3 h4 h5
      have := bytes_ext h3
      subst h1 h2 this h4
      congr 1
      refine List.ext_getElem h5 fun i hi hi' => ?_
      have := h6 i hi
      rw [ih _ (vlkid_mem hi)] at this
      simpa [Vl.kid, Vl.kids, hi, hi'] using this
    · rintro rfl
      exact ⟨⟨⟨⟨rfl, rfl⟩, rfl⟩, rfl⟩, rfl, fun i hi => (ih _ (vlkid_mem hi)).2 rfl⟩


theorem heavyV1_ok (a : Vl) : PCalls Try.prog 10 [.sl [embV a] .no] (.bool (heavyV [a])) := heavyV_ok [a] (by simp)

section
variable {H : Type} {enc : TypeId × Value → H} {W : World} {r : Reach} {b0 : Nat} {spare : Nat → Bool} {held : Bool} {v : Value} {d : DataW H} {ps : List MemPlace}
theorem arg_int (hval : Value.okWide Try.prog W r b0 3 v) (hd : DataW.Trod enc Try.prog W 0 spare held 3 v d ps) : ∃ n : Int, Rep (viewOf W) v (.int .i64 n) := by
  obtain ⟨a, n, h1, h2, h3⟩ := arg_rep C_ok tySet_ok (by decide) ty_3 hval hd
  obtain ⟨m, hm⟩ := shp_int h2
  rw [if_neg (by decide)] at h3
  obtain ⟨y, rfl, hy⟩ := h3
  refine ⟨m, ?_⟩
  have : a = .int .i64 m := one_cells hy hm
  rw [← this]; exact h1
end
theorem coSet_ok : goodSet C coSet = true := by decide

section
variable {H : Type} {enc : TypeId × Value → H} {W : World} {r : Reach} {b0 : Nat} {spare : Nat → Bool} {held : Bool} {v : Value} {d : DataW H} {ps : List MemPlace}
theorem arg_bool (hval : Value.okWide Try.prog W r b0 4 v) (hd : DataW.Trod enc Try.prog W 0 spare held 4 v d ps) : ∃ n : Bool, Rep (viewOf W) v (.bool n) := by
  obtain ⟨a, n, h1, h2, h3⟩ := arg_rep C_ok coSet_ok (by decide) ty_4 hval hd
  obtain ⟨m, hm⟩ := shp_bool h2
  rw [if_neg (by decide)] at h3
  obtain ⟨y, rfl, hy⟩ := h3
  refine ⟨m, ?_⟩
  have : a = .bool m := one_cells hy hm
  rw [← this]; exact h1
end
end Go.Proofs.Ytofogicgnldfhaa
