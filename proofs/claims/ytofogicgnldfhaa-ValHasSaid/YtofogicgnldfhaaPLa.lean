/- Lemmas: how a law is said. No condition. -/
import Derived.Test.YtofogicgnldfhaaRows
import Derived.Test.YtofogicgnldfhaaEmb
import Derived.Test.YtofogicgnldfhaaPAb
import Derived.ProofKit

section
/- Arguments of laws as trees. No condition. -/
set_option linter.unusedSimpArgs false
set_option maxRecDepth 100000
namespace Go.Proofs.Ytofogicgnldfhaa
open Go Go.Ab

theorem law_own : ownKnob Try.prog.godebug = none := by kernel_rfl
theorem law_laid : laidOutB Try.prog = true := by kernel_rfl

def tySet : List Nat := [3, 4, 9, 30, 28, 69]
theorem tySet_ok : goodSet C tySet = true := by decide

theorem shp_int {n : Nat} {cs : List AV} (h : Shp C n 3 cs) : ∃ m, cs = [.int .i64 m] := by
  cases n with
  | zero => exact h.elim
  | succ n => exact h
theorem shp_bool {n : Nat} {cs : List AV} (h : Shp C n 4 cs) : ∃ b, cs = [.bool b] := by
  cases n with
  | zero => exact h.elim
  | succ n => exact h

theorem shp_ty : ∀ (n : Nat) {cs : List AV}, Shp C n 30 cs → ∃ t : Ty, cs = cellsOf (emb t) := by
  intro n
  induction n using Nat.strongRecOn with
  | _ n ih =>
    intro cs h
    cases n with
    | zero => exact h.elim
    | succ n =>
      have h' : cs.length = 3 ∧ ∀ p ∈ [(0, 3), (1, 3), (2, 28)], Shp C n p.2 ((cs.drop p.1).take (sizeT C p.2)) := h
      obtain ⟨hl, hf⟩ := h'
      obtain ⟨x, y, z, rfl⟩ : ∃ x y z, cs = [x, y, z] := by
        match cs, hl with
        | [x, y, z], _ => exact ⟨x, y, z, rfl⟩
      obtain ⟨k, hk⟩ := shp_int (hf (0, 3) (by simp))
      obtain ⟨m, hm⟩ := shp_int (hf (1, 3) (by simp))
      have h3 := hf (2, 28) (by simp)
      have e1 : x = .int .i64 k := by have : [x] = [AV.int .i64 k] := hk; simpa using this
      have e2 : y = .int .i64 m := by have : [y] = [AV.int .i64 m] := hm; simpa using this
      cases n with
      | zero => exact h3.elim
      | succ n =>
        have h4 : ∃ es, [z] = [AV.sl es .no] ∧ ∀ x ∈ es, Shp C n 30 (cellsOf x) ∧ if aggT C 30 then ∃ ys, x = .agg ys else ∃ y, x = y ∧ y.one = true := h3
        obtain ⟨es, h5, h6⟩ := h4
        have e3 : z = .sl es .no := by simpa using h5
        have key : ∀ es : List AV, (∀ x ∈ es, Shp C n 30 (cellsOf x) ∧ if aggT C 30 then ∃ ys, x = .agg ys else ∃ y, x = y ∧ y.one = true) → ∃ l : List Ty, es = l.map emb := by
          intro es
          induction es with
          | nil => intro _; exact ⟨[], rfl⟩
          | cons a es ih2 =>
            intro h
            obtain ⟨l, rfl⟩ := ih2 fun x hx => h x (List.mem_cons_of_mem _ hx)
            obtain ⟨h7, h8⟩ := h a List.mem_cons_self
            obtain ⟨t, ht⟩ := ih n (by omega) h7
            rw [if_pos (by decide)] at h8
            obtain ⟨ys, rfl⟩ := h8
            refine ⟨t :: l, ?_⟩
            rw [List.map_cons, emb_eq]
            have : ys = cellsOf (emb t) := ht
            rw [this, emb_cells]
        obtain ⟨l, rfl⟩ := key es h6
        exact ⟨.mk k m l, by rw [e1, e2, e3, emb_cells]; rfl⟩

section
variable {H : Type} {enc : TypeId × Value → H} {W : World} {r : Reach} {b0 : Nat} {spare : Nat → Bool} {held : Bool} {v : Value} {d : DataW H} {ps : List MemPlace}
theorem arg_ty (hval : Value.okWide Try.prog W r b0 30 v) (hd : DataW.Trod enc Try.prog W 0 spare held 30 v d ps) : ∃ t : Ty, Rep (viewOf W) v (emb t) := by
  obtain ⟨a, n, h1, h2, h3⟩ := arg_rep C_ok tySet_ok (by decide) ty_30 hval hd
  rw [if_pos (by decide)] at h3
  obtain ⟨ys, rfl⟩ := h3
  obtain ⟨t, ht⟩ := shp_ty n h2
  refine ⟨t, ?_⟩
  rw [emb_eq, ← emb_cells, ← ht]; exact h1
theorem arg_bools (hval : Value.okWide Try.prog W r b0 69 v) (hd : DataW.Trod enc Try.prog W 0 spare held 69 v d ps) : ∃ l : List Bool, Rep (viewOf W) v (.sl (l.map .bool) .no) := by
  obtain ⟨a, n, h1, h2, h3⟩ := arg_rep C_ok tySet_ok (by decide) ty_69 hval hd
  rw [if_neg (by decide)] at h3
  obtain ⟨y, rfl, hy⟩ := h3
  cases n with
  | zero => exact h2.elim
  | succ n =>
    have h4 : ∃ es, cellsOf a = [AV.sl es .no] ∧ ∀ x ∈ es, Shp C n 4 (cellsOf x) ∧ if aggT C 4 then ∃ ys, x = .agg ys else ∃ y, x = y ∧ y.one = true := h2
    obtain ⟨es, h5, h6⟩ := h4
    have key : ∀ es : List AV, (∀ x ∈ es, Shp C n 4 (cellsOf x) ∧ if aggT C 4 then ∃ ys, x = .agg ys else ∃ y, x = y ∧ y.one = true) → ∃ l : List Bool, es = l.map .bool := by
      intro es
      induction es with
      | nil => intro _; exact ⟨[], rfl⟩
      | cons a es ih2 =>
        intro h
        obtain ⟨l, rfl⟩ := ih2 fun x hx => h x (List.mem_cons_of_mem _ hx)
        obtain ⟨h7, h8⟩ := h a List.mem_cons_self
        obtain ⟨b, hb⟩ := shp_bool h7
        rw [if_neg (by decide)] at h8
        obtain ⟨y, rfl, hy⟩ := h8
        refine ⟨b :: l, ?_⟩
        have : a = .bool b := one_cells hy hb
        rw [List.map_cons, this]
    obtain ⟨l, rfl⟩ := key es h6
    refine ⟨l, ?_⟩
    have : a = .sl (l.map .bool) .no := one_cells hy h5
    rw [← this]; exact h1
end

end Go.Proofs.Ytofogicgnldfhaa
end

section
/- The three facts of the program's head that outgrow the kernel's memory when the head's text is laid open sign by sign. No condition. -/
set_option maxRecDepth 100000
namespace Go.Proofs.Ytofogicgnldfhaa
open Go

def ioL : List Char := ['h', 'a', 'r', 'n', 'e', 's', 's', ' ', '1', '3', '9', '2', '0', '7', '6', '2', 'd', '3', 'b', 'a', 'a', 'e', '5', '8', 'c', '1', 'a', '2', '6', '4', '7', '0', 'a', '8', '4', 'e', 'c', '5', 'f', 'a', '9', '3', 'd', '4', '4', '1', '6', '2', 'b', 'd', '0', '2', '8', '1', 'd', 'd', 'a', '8', 'a', '7', '1', '5', 'e', 'c', '5', 'a', 'a', 'a', 'd', '0', '1', '1', ' ', 'c', 'u', 't', ' ', 'a', 't', ' ', 's', 'u', 'r', 'e', 't', 'y', '/', 's', 'u', 'r', 'e', 't', 'y', 'l', 'a', 'w', '2', '3', '.', 'V', 'a', 'l', 'E', 'x', 'a', 'c', 't', ' ', 's', 'u', 'r', 'e', 't', 'y', '/', 's', 'u', 'r', 'e', 't', 'y', 'l', 'a', 'w', '2', '3', '.', 'V', 'a', 'l', 'M', 'a', 't', 'c', 'h', ' ', 's', 'u', 'r', 'e', 't', 'y', '/', 's', 'u', 'r', 'e', 't', 'y', 'l', 'a', 'w', '2', '3', '.', 'V', 'a', 'l', 'T', 'w', 'i', 'c', 'e', ' ', 's', 'u', 'r', 'e', 't', 'y', '/', 's', 'u', 'r', 'e', 't', 'y', 'l', 'a', 'w', '2', '3', '.', 'V', 'a', 'l', 'U', 'p', ' ', 's', 'u', 'r', 'e', 't', 'y', '/', 's', 'u', 'r', 'e', 't', 'y', 'l', 'a', 'w', '2', '3', '.', 'V', 'a', 'l', 'H', 'a', 's', ' ', 's', 'u', 'r', 'e', 't', 'y', '/', 's', 'u', 'r', 'e', 't', 'y', 'l', 'a', 'w', '2', '3', '.', 'V', 'a', 'l', 'W', 'r', 'a', 'p', ' ', 's', 'u', 'r', 'e', 't', 'y', '/', 's', 'u', 'r', 'e', 't', 'y', 'l', 'a', 'w', '2', '3', '.', 'V', 'a', 'l', 'P', 'a', 'r', 't', 's']
theorem io_eq : Try.prog.initOrder = String.ofList ioL := by kernel_rfl
theorem io_list : Try.prog.initOrder.toList = ioL := by rw [io_eq, String.toList_ofList]
theorem io_may : Try.prog.mayEnter = true := by
  unfold Program.mayEnter
  rw [io_list]
  kernel_rfl
theorem io_make : Try.prog.make = some .cut := by
  unfold Program.make
  rw [io_list]
  kernel_rfl
theorem io_lifts : Try.prog.liftsFinal = false := by
  unfold Program.liftsFinal Program.headLifts
  rw [io_list]
  kernel_rfl

end Go.Proofs.Ytofogicgnldfhaa
end

