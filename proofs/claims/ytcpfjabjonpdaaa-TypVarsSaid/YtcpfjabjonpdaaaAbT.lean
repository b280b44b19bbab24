/- Guards without a case split: a slot then holds a value that the guard decides. No condition. -/
import Derived.Test.YtcpfjabjonpdaaaAbR
set_option linter.unusedSimpArgs false
namespace Go.Ab
open Go.RowKit (Below)

section
variable {P : Program} {C : Cfg} {K : Exit → AState → Prop} {k : List KI} {s : AState}

/-- A guarded operation, without a case split: its slot holds a value that the guard decides. -/
theorem goGb_op {b want : Bool} {ops : Array Oper} {o : Oper} {todo : List Oper} {c : Prop} {v : AV} (hop : ∀ (K : AState → Prop) (s : AState), xop P C o K s = match eff C o s with
    | some ⟨c, v, s'⟩ => c ∧ K (s'.put o.dst v)
    | none => False) (hx : b = want → eff C o s = some ⟨c, v, s⟩ ∧ c) (hK : GoO P C K ops todo k (s.put o.dst (if b = want then v else .tup []))) : GoGb P C K b want ops o todo k s := by
  unfold GoGb
  split
  · rename_i hb
    obtain ⟨h1, h2⟩ := hx hb
    unfold GoX
    rw [hop, h1]
    rw [if_pos hb] at hK
    exact ⟨h2, hK⟩
  · rename_i hb
    rw [if_neg hb] at hK
    exact hK
theorem goGb_call {b want : Bool} {ops : Array Oper} {d : Option Tmp} {f : Nat} {args : Array Operand} {ts : Array Nat} {ty : Nat} {ps : String} {af : Array Edge} {g : Option (Nat × Bool)} {todo : List Oper} {args' : List AV} {r : AV} (h : PCalls P f args' r)
    (ha : b = want → args' = AV.normL (args.toList.map s.ev)) (hK : GoO P C K ops todo k (s.put d (if b = want then r else .tup []))) : GoGb P C K b want ops ⟨d, .call ⟨.value (.func f), args, ts⟩, ty, ps, af, g⟩ todo k s := by
  unfold GoGb
  split
  · rename_i hb
    rw [if_pos hb] at hK
    exact callK_p h (.inr (ha hb)) hK
  · rename_i hb
    rw [if_neg hb] at hK
    exact hK
theorem goDGb_op {b want : Bool} {ops : Array Oper} {j : Nat} {o : Oper} {todo : List Oper} {c : Prop} {v : AV} (hop : ∀ (K : AState → Prop) (s : AState), xopD P C j o K s = match eff C o s with
    | some ⟨c, v, s'⟩ => c ∧ K (s'.put o.dst v)
    | none => False) (hx : b = want → eff C o s = some ⟨c, v, s⟩ ∧ c) (hK : GoD P C K ops (nxt j o) todo k (s.put o.dst (if b = want then v else .tup []))) : GoDGb P C K b want ops j o todo k s := by
  unfold GoDGb
  split
  · rename_i hb
    obtain ⟨h1, h2⟩ := hx hb
    unfold GoDX
    rw [hop, h1]
    rw [if_pos hb] at hK
    exact ⟨h2, hK⟩
  · rename_i hb
    rw [if_neg hb] at hK
    exact hK
theorem goDGb_call {b want : Bool} {ops : Array Oper} {j : Nat} {d : Option Tmp} {f : Nat} {args : Array Operand} {ts : Array Nat} {ty : Nat} {ps : String} {af : Array Edge} {g : Option (Nat × Bool)} {todo : List Oper} {args' : List AV} {r : AV} (h : PCalls P f args' r)
    (ha : b = want → args' = AV.normL (args.toList.map s.ev)) (hK : GoD P C K ops j todo k (s.put d (if b = want then r else .tup []))) : GoDGb P C K b want ops j ⟨d, .call ⟨.value (.func f), args, ts⟩, ty, ps, af, g⟩ todo k s := by
  unfold GoDGb
  split
  · rename_i hb
    rw [if_pos hb] at hK
    exact ⟨r, args', h, .inr (ha hb), hK⟩
  · rename_i hb
    rw [if_neg hb] at hK
    exact hK

theorem ite_tt {b : Bool} {x y z : AV} : (if b = true then (if b = true then x else y) else z) = if b = true then x else z := by cases b <;> rfl
theorem ite_tf {b : Bool} {x y z : AV} : (if b = true then x else (if b = false then y else z)) = if b = true then x else y := by cases b <;> rfl
theorem ite_and {b p : Bool} : (if b = true then AV.bool p else AV.bool false) = .bool (b && p) := by cases b <;> rfl
theorem ite_or {b p : Bool} : (if b = true then AV.bool true else AV.bool p) = .bool (b || p) := by cases b <;> rfl

theorem ite_norm {b : Bool} {x y : AV} : (if b = true then x else y).norm = if b = true then x.norm else y.norm := by cases b <;> rfl

end
end Go.Ab
