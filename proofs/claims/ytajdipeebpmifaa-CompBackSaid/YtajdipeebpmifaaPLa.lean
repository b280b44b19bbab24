/- Lemmas: how a law is said. No condition. -/
import Derived.Test.YtajdipeebpmifaaRows
import Derived.Test.YtajdipeebpmifaaEmb
import Derived.Test.YtajdipeebpmifaaPAb
import Derived.ProofKit
import Derived.Test.YtajdipeebpmifaaPMa

section
/- Arguments of laws as trees. No condition. -/
set_option linter.unusedSimpArgs false
set_option maxRecDepth 100000
namespace Go.Proofs.Ytajdipeebpmifaa
open Go Go.Ab

theorem law_own : ownKnob Try.prog.godebug = none := by kernel_rfl
theorem law_laid : laidOutB Try.prog = true := by kernel_rfl

def tySet : List Nat := [3, 4, 9, 44, 42, 64]
theorem tySet_ok : goodSet C tySet = true := by decide

theorem shp_int {n : Nat} {cs : List AV} (h : Shp C n 3 cs) : ∃ m, cs = [.int .i64 m] := by
  cases n with
  | zero => exact h.elim
  | succ n => exact h
theorem shp_bool {n : Nat} {cs : List AV} (h : Shp C n 4 cs) : ∃ b, cs = [.bool b] := by
  cases n with
  | zero => exact h.elim
  | succ n => exact h

theorem shp_ty : ∀ (n : Nat) {cs : List AV}, Shp C n 44 cs → ∃ t : Ty, cs = cellsOf (emb t) := by
  intro n
  induction n using Nat.strongRecOn with
  | _ n ih =>
    intro cs h
    cases n with
    | zero => exact h.elim
    | succ n =>
      have h' : cs.length = 3 ∧ ∀ p ∈ [(0, 3), (1, 3), (2, 42)], Shp C n p.2 ((cs.drop p.1).take (sizeT C p.2)) := h
      obtain ⟨hl, hf⟩ := h'
      obtain ⟨x, y, z, rfl⟩ : ∃ x y z, cs = [x, y, z] := by
        match cs, hl with
        | [x, y, z], _ => exact ⟨x, y, z, rfl⟩
      obtain ⟨k, hk⟩ := shp_int (hf (0, 3) (by simp))
      obtain ⟨m, hm⟩ := shp_int (hf (1, 3) (by simp))
      have h3 := hf (2, 42) (by simp)
      have e1 : x = .int .i64 k := by have : [x] = [AV.int .i64 k] := hk; simpa using this
      have e2 : y = .int .i64 m := by have : [y] = [AV.int .i64 m] := hm; simpa using this
      cases n with
      | zero => exact h3.elim
      | succ n =>
        have h4 : ∃ es, [z] = [AV.sl es .no] ∧ ∀ x ∈ es, Shp C n 44 (cellsOf x) ∧ if aggT C 44 then ∃ ys, x = .agg ys else ∃ y, x = y ∧ y.one = true := h3
        obtain ⟨es, h5, h6⟩ := h4
        have e3 : z = .sl es .no := by simpa using h5
        have key : ∀ es : List AV, (∀ x ∈ es, Shp C n 44 (cellsOf x) ∧ if aggT C 44 then ∃ ys, x = .agg ys else ∃ y, x = y ∧ y.one = true) → ∃ l : List Ty, es = l.map emb := by
          intro es
          induction es with
          | nil => intro _; exact ⟨[], rfl⟩
          | cons a es ih2 =>
            intro h
            obtain ⟨l, rfl⟩ := ih2 fun x hx => h x (List.mem_cons_of_mem _ hx)
            obtain ⟨h7, h8⟩ := h a List.mem_cons_self
            obtain ⟨t, ht⟩ := ih n (by omega) h7
            rw [if_pos (by decide)] at h8
            obtain ⟨ys, rfl⟩ := h8
            refine ⟨t :: l, ?_⟩
            rw [List.map_cons, emb_eq]
            have : ys = cellsOf (emb t) := ht
            rw [this, emb_cells]
        obtain ⟨l, rfl⟩ := key es h6
        exact ⟨.mk k m l, by rw [e1, e2, e3, emb_cells]; rfl⟩

section
variable {H : Type} {enc : TypeId × Value → H} {W : World} {r : Reach} {b0 : Nat} {spare : Nat → Bool} {held : Bool} {v : Value} {d : DataW H} {ps : List MemPlace}
theorem arg_ty (hval : Value.okWide Try.prog W r b0 44 v) (hd : DataW.Trod enc Try.prog W 0 spare held 44 v d ps) : ∃ t : Ty, Rep (viewOf W) v (emb t) := by
  obtain ⟨a, n, h1, h2, h3⟩ := arg_rep C_ok tySet_ok (by decide) ty_44 hval hd
  rw [if_pos (by decide)] at h3
  obtain ⟨ys, rfl⟩ := h3
  obtain ⟨t, ht⟩ := shp_ty n h2
  refine ⟨t, ?_⟩
  rw [emb_eq, ← emb_cells, ← ht]; exact h1
theorem arg_int (hval : Value.okWide Try.prog W r b0 3 v) (hd : DataW.Trod enc Try.prog W 0 spare held 3 v d ps) : ∃ n : Int, Rep (viewOf W) v (.int .i64 n) := by
  obtain ⟨a, n, h1, h2, h3⟩ := arg_rep C_ok tySet_ok (by decide) ty_3 hval hd
  obtain ⟨m, hm⟩ := shp_int h2
  rw [if_neg (by decide)] at h3
  obtain ⟨y, rfl, hy⟩ := h3
  refine ⟨m, ?_⟩
  have : a = .int .i64 m := one_cells hy hm
  rw [← this]; exact h1
theorem arg_bools (hval : Value.okWide Try.prog W r b0 64 v) (hd : DataW.Trod enc Try.prog W 0 spare held 64 v d ps) : ∃ l : List Bool, Rep (viewOf W) v (.sl (l.map .bool) .no) := by
  obtain ⟨a, n, h1, h2, h3⟩ := arg_rep C_ok tySet_ok (by decide) ty_64 hval hd
  rw [if_neg (by decide)] at h3
  obtain ⟨y, rfl, hy⟩ := h3
  cases n with
  | zero => exact h2.elim
  | succ n =>
    have h4 : ∃ es, cellsOf a = [AV.sl es .no] ∧ ∀ x ∈ es, Shp C n 4 (cellsOf x) ∧ if aggT C 4 then ∃ ys, x = .agg ys else ∃ y, x = y ∧ y.one = true := h2
    obtain ⟨es, h5, h6⟩ := h4
    have key : ∀ es : List AV, (∀ x ∈ es, Shp C n 4 (cellsOf x) ∧ if aggT C 4 then ∃ ys, x = .agg ys else ∃ y, x = y ∧ y.one = true) → ∃ l : List Bool, es = l.map .bool := by
      intro es
      induction es with
      | nil => intro _; exact ⟨[], rfl⟩
      | cons a es ih2 =>
        intro h
        obtain ⟨l, rfl⟩ := ih2 fun x hx => h x (List.mem_cons_of_mem _ hx)
        obtain ⟨h7, h8⟩ := h a List.mem_cons_self
        obtain ⟨b, hb⟩ := shp_bool h7
        rw [if_neg (by decide)] at h8
        obtain ⟨y, rfl, hy⟩ := h8
        refine ⟨b :: l, ?_⟩
        have : a = .bool b := one_cells hy hb
        rw [List.map_cons, this]
    obtain ⟨l, rfl⟩ := key es h6
    refine ⟨l, ?_⟩
    have : a = .sl (l.map .bool) .no := one_cells hy h5
    rw [← this]; exact h1
end

end Go.Proofs.Ytajdipeebpmifaa
end

section
/- The three facts of the program's head that outgrow the kernel's memory when the head's text is laid open sign by sign. No condition. -/
set_option maxRecDepth 100000
namespace Go.Proofs.Ytajdipeebpmifaa
open Go

def ioL : List Char := ['h', 'a', 'r', 'n', 'e', 's', 's', ' ', 'b', 'd', 'a', '6', '4', 'd', '4', 'e', '6', '0', '0', '5', 'c', '9', '7', '5', '0', '4', '8', 'b', '1', 'c', '5', 'c', '0', 'a', 'e', '3', '2', '8', '9', 'f', '2', 'f', '4', 'd', '6', 'd', 'e', '1', 'd', 'd', 'c', '2', '8', 'b', 'e', '0', '0', 'd', 'f', '5', '3', 'e', '6', '1', 'e', '3', 'a', 'c', 'e', '6', 'b', '4', ' ', 'c', 'u', 't', ' ', 'a', 't', ' ', 's', 'u', 'r', 'e', 't', 'y', '/', 's', 'u', 'r', 'e', 't', 'y', 'l', 'a', 'w', '2', '2', '.', 'C', 'o', 'm', 'p', 'E', 'x', 'a', 'c', 't', ' ', 's', 'u', 'r', 'e', 't', 'y', '/', 's', 'u', 'r', 'e', 't', 'y', 'l', 'a', 'w', '2', '2', '.', 'C', 'o', 'm', 'p', 'A', 'l', 'l', ' ', 's', 'u', 'r', 'e', 't', 'y', '/', 's', 'u', 'r', 'e', 't', 'y', 'l', 'a', 'w', '2', '2', '.', 'C', 'o', 'm', 'p', 'H', 'e', 'i', 'g', 'h', 't', ' ', 's', 'u', 'r', 'e', 't', 'y', '/', 's', 'u', 'r', 'e', 't', 'y', 'l', 'a', 'w', '2', '0', '.', 'C', 'o', 'e', 'r', 'E', 'x', 'a', 'c', 't', ' ', 's', 'u', 'r', 'e', 't', 'y', '/', 's', 'u', 'r', 'e', 't', 'y', 'l', 'a', 'w', '2', '0', '.', 'C', 'o', 'e', 'r', 'P', 'a', 'r', 't', 's', ' ', 's', 'u', 'r', 'e', 't', 'y', '/', 's', 'u', 'r', 'e', 't', 'y', 'l', 'a', 'w', '2', '0', '.', 'C', 'o', 'e', 'r', 'W', 'a', 'y', 's', ' ', 's', 'u', 'r', 'e', 't', 'y', '/', 's', 'u', 'r', 'e', 't', 'y', 'l', 'a', 'w', '2', '0', '.', 'C', 'o', 'e', 'r', 'E', 'n', 'd', 's', ' ', 's', 'u', 'r', 'e', 't', 'y', '/', 's', 'u', 'r', 'e', 't', 'y', 'l', 'a', 'w', '2', '1', '.', 'T', 'r', 'a', 'n', 's', 'E', 'x', 'a', 'c', 't', ' ', 's', 'u', 'r', 'e', 't', 'y', '/', 's', 'u', 'r', 'e', 't', 'y', 'l', 'a', 'w', '2', '1', '.', 'T', 'r', 'a', 'n', 's', 'S', 'u', 'b', 's', 't', ' ', 's', 'u', 'r', 'e', 't', 'y', '/', 's', 'u', 'r', 'e', 't', 'y', 'l', 'a', 'w', '2', '1', '.', 'T', 'r', 'a', 'n', 's', 'P', 'a', 'r', 't', 's', ' ', 's', 'u', 'r', 'e', 't', 'y', '/', 's', 'u', 'r', 'e', 't', 'y', 'l', 'a', 'w', '2', '1', '.', 'T', 'r', 'a', 'n', 's', 'L', 'e', 's', 's', ' ', 's', 'u', 'r', 'e', 't', 'y', '/', 's', 'u', 'r', 'e', 't', 'y', 'l', 'a', 'w', '2', '1', '.', 'T', 'r', 'a', 'n', 's', 'F', 'i', 't', 's', ' ', 's', 'u', 'r', 'e', 't', 'y', '/', 's', 'u', 'r', 'e', 't', 'y', 'l', 'a', 'w', '2', '1', '.', 'T', 'r', 'a', 'n', 's', 'S', 'i', 'd', 'e', 's', ' ', 's', 'u', 'r', 'e', 't', 'y', '/', 's', 'u', 'r', 'e', 't', 'y', 'l', 'a', 'w', '2', '2', '.', 'C', 'o', 'm', 'p', 'O', 'r', 'd', 'e', 'r', ' ', 's', 'u', 'r', 'e', 't', 'y', '/', 's', 'u', 'r', 'e', 't', 'y', 'l', 'a', 'w', '2', '2', '.', 'C', 'o', 'm', 'p', 'M', 'e', 'e', 't', ' ', 's', 'u', 'r', 'e', 't', 'y', '/', 's', 'u', 'r', 'e', 't', 'y', 'l', 'a', 'w', '2', '2', '.', 'C', 'o', 'm', 'p', 'F', 'i', 't', 's', ' ', 's', 'u', 'r', 'e', 't', 'y', '/', 's', 'u', 'r', 'e', 't', 'y', 'l', 'a', 'w', '2', '2', '.', 'C', 'o', 'm', 'p', 'B', 'a', 'c', 'k', ' ', 's', 'u', 'r', 'e', 't', 'y', '/', 's', 'u', 'r', 'e', 't', 'y', 'l', 'a', 'w', '2', '3', '.', 'V', 'a', 'l', 'E', 'x', 'a', 'c', 't', ' ', 's', 'u', 'r', 'e', 't', 'y', '/', 's', 'u', 'r', 'e', 't', 'y', 'l', 'a', 'w', '2', '3', '.', 'V', 'a', 'l', 'M', 'a', 't', 'c', 'h', ' ', 's', 'u', 'r', 'e', 't', 'y', '/', 's', 'u', 'r', 'e', 't', 'y', 'l', 'a', 'w', '2', '3', '.', 'V', 'a', 'l', 'T', 'w', 'i', 'c', 'e', ' ', 's', 'u', 'r', 'e', 't', 'y', '/', 's', 'u', 'r', 'e', 't', 'y', 'l', 'a', 'w', '2', '3', '.', 'V', 'a', 'l', 'U', 'p', ' ', 's', 'u', 'r', 'e', 't', 'y', '/', 's', 'u', 'r', 'e', 't', 'y', 'l', 'a', 'w', '2', '3', '.', 'V', 'a', 'l', 'H', 'a', 's', ' ', 's', 'u', 'r', 'e', 't', 'y', '/', 's', 'u', 'r', 'e', 't', 'y', 'l', 'a', 'w', '2', '3', '.', 'V', 'a', 'l', 'W', 'r', 'a', 'p', ' ', 's', 'u', 'r', 'e', 't', 'y', '/', 's', 'u', 'r', 'e', 't', 'y', 'l', 'a', 'w', '2', '3', '.', 'V', 'a', 'l', 'P', 'a', 'r', 't', 's']
theorem io_eq : Try.prog.initOrder = String.ofList ioL := by kernel_rfl
theorem io_list : Try.prog.initOrder.toList = ioL := by rw [io_eq, String.toList_ofList]
theorem io_may : Try.prog.mayEnter = true := by
  unfold Program.mayEnter
  rw [io_list]
  kernel_rfl
theorem io_make : Try.prog.make = some .cut := by
  unfold Program.make
  rw [io_list]
  kernel_rfl
theorem io_lifts : Try.prog.liftsFinal = false := by
  unfold Program.liftsFinal Program.headLifts
  rw [io_list]
  kernel_rfl

end Go.Proofs.Ytajdipeebpmifaa
end

section
/- Arguments of laws as trees: coercions, rows. No condition. -/
set_option linter.unusedSimpArgs false
set_option maxRecDepth 100000
namespace Go.Proofs.Ytajdipeebpmifaa
open Go Go.Ab

def coSet : List Nat := [3, 4, 24, 22, 44, 42]
theorem coSet_ok : goodSet C coSet = true := by decide

theorem shp_co : ∀ (n : Nat) {cs : List AV}, Shp C n 24 cs → ∃ t : Co, cs = cellsOf (embC t) := by
  intro n
  induction n using Nat.strongRecOn with
  | _ n ih =>
    intro cs h
    cases n with
    | zero => exact h.elim
    | succ n =>
      have h' : cs.length = 5 ∧ ∀ p ∈ [(0, 3), (1, 3), (2, 3), (3, 4), (4, 22)], Shp C n p.2 ((cs.drop p.1).take (sizeT C p.2)) := h
      obtain ⟨hl, hf⟩ := h'
      obtain ⟨x, y, z, u, v, rfl⟩ : ∃ x y z u v, cs = [x, y, z, u, v] := by
        match cs, hl with
        | [x, y, z, u, v], _ => exact ⟨x, y, z, u, v, rfl⟩
      obtain ⟨k, hk⟩ := shp_int (hf (0, 3) (by simp))
      obtain ⟨hd, hh⟩ := shp_int (hf (1, 3) (by simp))
      obtain ⟨lb, hb⟩ := shp_int (hf (2, 3) (by simp))
      obtain ⟨ng, hn⟩ := shp_bool (hf (3, 4) (by simp))
      have h3 := hf (4, 22) (by simp)
      have e1 : x = .int .i64 k := by have : [x] = [AV.int .i64 k] := hk; simpa using this
      have e2 : y = .int .i64 hd := by have : [y] = [AV.int .i64 hd] := hh; simpa using this
      have e3 : z = .int .i64 lb := by have : [z] = [AV.int .i64 lb] := hb; simpa using this
      have e4 : u = .bool ng := by have : [u] = [AV.bool ng] := hn; simpa using this
      cases n with
      | zero => exact h3.elim
      | succ n =>
        have h4 : ∃ es, [v] = [AV.sl es .no] ∧ ∀ x ∈ es, Shp C n 24 (cellsOf x) ∧ if aggT C 24 then ∃ ys, x = .agg ys else ∃ y, x = y ∧ y.one = true := h3
        obtain ⟨es, h5, h6⟩ := h4
        have e5 : v = .sl es .no := by simpa using h5
        have key : ∀ es : List AV, (∀ x ∈ es, Shp C n 24 (cellsOf x) ∧ if aggT C 24 then ∃ ys, x = .agg ys else ∃ y, x = y ∧ y.one = true) → ∃ l : List Co, es = l.map embC := by
          intro es
          induction es with
          | nil => intro _; exact ⟨[], rfl⟩
          | cons a es ih2 =>
            intro h
            obtain ⟨l, rfl⟩ := ih2 fun x hx => h x (List.mem_cons_of_mem _ hx)
            obtain ⟨h7, h8⟩ := h a List.mem_cons_self
            obtain ⟨t, ht⟩ := ih n (by omega) h7
            rw [if_pos (by decide)] at h8
            obtain ⟨ys, rfl⟩ := h8
            refine ⟨t :: l, ?_⟩
            rw [List.map_cons, embC_eq]
            have : ys = cellsOf (embC t) := ht
            rw [this, embC_cells]
        obtain ⟨l, rfl⟩ := key es h6
        exact ⟨.mk k hd lb ng l, by rw [e1, e2, e3, e4, e5, embC_cells]; rfl⟩

section
variable {H : Type} {enc : TypeId × Value → H} {W : World} {r : Reach} {b0 : Nat} {spare : Nat → Bool} {held : Bool} {v : Value} {d : DataW H} {ps : List MemPlace}
theorem arg_co (hval : Value.okWide Try.prog W r b0 24 v) (hd : DataW.Trod enc Try.prog W 0 spare held 24 v d ps) : ∃ t : Co, Rep (viewOf W) v (embC t) := by
  obtain ⟨a, n, h1, h2, h3⟩ := arg_rep C_ok coSet_ok (by decide) ty_24 hval hd
  rw [if_pos (by decide)] at h3
  obtain ⟨ys, rfl⟩ := h3
  obtain ⟨t, ht⟩ := shp_co n h2
  refine ⟨t, ?_⟩
  rw [embC_eq, ← embC_cells, ← ht]; exact h1
theorem arg_bool (hval : Value.okWide Try.prog W r b0 4 v) (hd : DataW.Trod enc Try.prog W 0 spare held 4 v d ps) : ∃ n : Bool, Rep (viewOf W) v (.bool n) := by
  obtain ⟨a, n, h1, h2, h3⟩ := arg_rep C_ok coSet_ok (by decide) ty_4 hval hd
  obtain ⟨m, hm⟩ := shp_bool h2
  rw [if_neg (by decide)] at h3
  obtain ⟨y, rfl, hy⟩ := h3
  refine ⟨m, ?_⟩
  have : a = .bool m := one_cells hy hm
  rw [← this]; exact h1
theorem arg_cos (hval : Value.okWide Try.prog W r b0 22 v) (hd : DataW.Trod enc Try.prog W 0 spare held 22 v d ps) : ∃ l : List Co, Rep (viewOf W) v (.sl (l.map embC) .no) := by
  obtain ⟨a, n, h1, h2, h3⟩ := arg_rep C_ok coSet_ok (by decide) ty_22 hval hd
  rw [if_neg (by decide)] at h3
  obtain ⟨y, rfl, hy⟩ := h3
  cases n with
  | zero => exact h2.elim
  | succ n =>
    have h4 : ∃ es, cellsOf a = [AV.sl es .no] ∧ ∀ x ∈ es, Shp C n 24 (cellsOf x) ∧ if aggT C 24 then ∃ ys, x = .agg ys else ∃ y, x = y ∧ y.one = true := h2
    obtain ⟨es, h5, h6⟩ := h4
    have key : ∀ es : List AV, (∀ x ∈ es, Shp C n 24 (cellsOf x) ∧ if aggT C 24 then ∃ ys, x = .agg ys else ∃ y, x = y ∧ y.one = true) → ∃ l : List Co, es = l.map embC := by
      intro es
      induction es with
      | nil => intro _; exact ⟨[], rfl⟩
      | cons a es ih2 =>
        intro h
        obtain ⟨l, rfl⟩ := ih2 fun x hx => h x (List.mem_cons_of_mem _ hx)
        obtain ⟨h7, h8⟩ := h a List.mem_cons_self
        obtain ⟨t, ht⟩ := shp_co n h7
        rw [if_pos (by decide)] at h8
        obtain ⟨ys, rfl⟩ := h8
        refine ⟨t :: l, ?_⟩
        rw [List.map_cons, embC_eq]
        have : ys = cellsOf (embC t) := ht
        rw [this, embC_cells]
    obtain ⟨l, rfl⟩ := key es h6
    refine ⟨l, ?_⟩
    have : a = .sl (l.map embC) .no := one_cells hy h5
    rw [← this]; exact h1
theorem arg_tys (hval : Value.okWide Try.prog W r b0 42 v) (hd : DataW.Trod enc Try.prog W 0 spare held 42 v d ps) : ∃ l : List Ty, Rep (viewOf W) v (.sl (l.map emb) .no) := by
  obtain ⟨a, n, h1, h2, h3⟩ := arg_rep C_ok coSet_ok (by decide) ty_42 hval hd
  rw [if_neg (by decide)] at h3
  obtain ⟨y, rfl, hy⟩ := h3
  cases n with
  | zero => exact h2.elim
  | succ n =>
    have h4 : ∃ es, cellsOf a = [AV.sl es .no] ∧ ∀ x ∈ es, Shp C n 44 (cellsOf x) ∧ if aggT C 44 then ∃ ys, x = .agg ys else ∃ y, x = y ∧ y.one = true := h2
    obtain ⟨es, h5, h6⟩ := h4
    have key : ∀ es : List AV, (∀ x ∈ es, Shp C n 44 (cellsOf x) ∧ if aggT C 44 then ∃ ys, x = .agg ys else ∃ y, x = y ∧ y.one = true) → ∃ l : List Ty, es = l.map emb := by
      intro es
      induction es with
      | nil => intro _; exact ⟨[], rfl⟩
      | cons a es ih2 =>
        intro h
        obtain ⟨l, rfl⟩ := ih2 fun x hx => h x (List.mem_cons_of_mem _ hx)
        obtain ⟨h7, h8⟩ := h a List.mem_cons_self
        obtain ⟨t, ht⟩ := shp_ty n h7
        rw [if_pos (by decide)] at h8
        obtain ⟨ys, rfl⟩ := h8
        refine ⟨t :: l, ?_⟩
        rw [List.map_cons, emb_eq]
        have : ys = cellsOf (emb t) := ht
        rw [this, emb_cells]
    obtain ⟨l, rfl⟩ := key es h6
    refine ⟨l, ?_⟩
    have : a = .sl (l.map emb) .no := one_cells hy h5
    rw [← this]; exact h1
end

end Go.Proofs.Ytajdipeebpmifaa
end

