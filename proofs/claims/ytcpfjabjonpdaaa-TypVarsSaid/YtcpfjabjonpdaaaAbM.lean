/- Operations that look at their operands and turn their slot alone: what else turns does not matter. No condition. -/
import Derived.Test.YtcpfjabjonpdaaaAbL
set_option linter.unusedSimpArgs false
namespace Go.Ab
open Go.RowKit (Below)

def simpleOp (C : Cfg) (o : Oper) : Bool := match o.op with
  | .move _ | .assign _ | .pick _ _ _ | .load _ _ | .nilCheck _ | .binOp _ _ _ _ _ | .unOp _ _ _ | .convert _ _ _ | .fieldAddr _ _ _ | .field _ _ _ | .indexAddr _ _ _ | .index _ _ _
  | .build _ _ | .slice _ _ _ _ _ | .extract _ _ => true
  | .buildSlice _ _ _ => !inplOf C o
  | .call { callee := .builtin .len, .. } | .call { callee := .builtin .max, .. } | .call { callee := .builtin .min, .. } => true
  | _ => false

structure Agree (o : Oper) (s s1 : AState) : Prop where
  ev : ∀ x ∈ o.op.operands.toList, s1.ev x = s.ev x
  obj : ∀ r x, s.obj r = some x → x ≠ .dead → s1.obj r = some x

section
variable {C : Cfg} {s s1 : AState}

theorem cellsAt_agree (ho : ∀ r x, s.obj r = some x → x ≠ .dead → s1.obj r = some x) {a : AV} {y : List AV × Nat × Prop} (h : cellsAt s a = some y) : cellsAt s1 a = some y := by
  unfold cellsAt at h ⊢
  split at h
  · exact h
  · split at h
    case h_2 => cases h
    rename_i hobj
    rw [ho _ _ hobj (by simp)]
    exact h
  · split at h
    case h_2 => cases h
    rename_i hobj
    rw [ho _ _ hobj (by simp)]
    exact h
  · cases h

theorem effBuiltin_agree (ho : ∀ r x, s.obj r = some x → x ≠ .dead → s1.obj r = some x) {inpl : Bool} {b : Builtin} (hb : b = .len ∨ b = .max ∨ b = .min) {ts : List Nat} {args : List AV} {out : Out}
    (h : effBuiltin C inpl s b ts args = some out) : out.s = s ∧ effBuiltin C inpl s1 b ts args = some ⟨out.c, out.v, s1⟩ := by
  rcases hb with rfl | rfl | rfl
  · unfold effBuiltin at h ⊢
    split at h <;> first | contradiction | skip
    · split at h
      case h_2 => cases h
      simp only [Option.some.injEq] at h; subst h; exact ⟨rfl, rfl⟩
    · split at h
      case h_2 => cases h
      simp only [Option.some.injEq] at h; subst h; exact ⟨rfl, rfl⟩
    · split at h
      case h_2 => cases h
      simp only [Option.some.injEq] at h; subst h; exact ⟨rfl, rfl⟩
    · split at h
      case h_2 => cases h
      rename_i heq hobj; simp only [Option.some.injEq] at h; subst h; exact ⟨rfl, by rw [heq, ho _ _ hobj (by simp)]⟩
  · unfold effBuiltin at h ⊢
    split at h <;> first | contradiction | skip
    split at h
    case isFalse => cases h
    rename_i hk; simp only [Option.some.injEq] at h; subst h; exact ⟨rfl, by simp [hk]⟩
  · unfold effBuiltin at h ⊢
    split at h <;> first | contradiction | skip
    split at h
    case isFalse => cases h
    rename_i hk; simp only [Option.some.injEq] at h; subst h; exact ⟨rfl, by simp [hk]⟩

theorem effSlice_agree {size : Nat} {x : AV} {lo hi mx : Option AV} {out : Out} (h : effSlice size x lo hi mx s = some out) : out.s = s ∧ effSlice size x lo hi mx s1 = some ⟨out.c, out.v, s1⟩ := by
  unfold effSlice at h ⊢
  split at h
  · split at h
    · split at h
      case h_2 => cases h
      rename_i h1 h2; simp only [Option.some.injEq] at h; subst h; exact ⟨rfl, by simp only [h1, h2]⟩
    · split at h
      case h_2 => cases h
      rename_i h1 h2; simp only [Option.some.injEq] at h; subst h; exact ⟨rfl, by simp only [h1, h2]⟩
    · cases h
  · split at h
    case h_2 => cases h
    simp only [Option.some.injEq] at h; subst h; exact ⟨rfl, rfl⟩
  · cases h

theorem eff_agree {o : Oper} (hs : simpleOp C o = true) (hA : Agree o s s1) {out : Out} (h : eff C o s = some out) : out.s = s ∧ eff C o s1 = some ⟨out.c, out.v, s1⟩ := by
  obtain ⟨hev, ho⟩ := hA
  unfold simpleOp at hs
  split at hs <;> first | contradiction | skip
  case h_1 x hop => 
    simp only [hop, Op.operands, List.forall_mem_cons] at hev
    simp only [eff, hop, hev.1] at h ⊢; simp only [Option.some.injEq] at h; subst h; exact ⟨rfl, rfl⟩
  case h_2 x hop => 
    simp only [hop, Op.operands, List.forall_mem_cons] at hev
    simp only [eff, hop, hev.1] at h ⊢; simp only [Option.some.injEq] at h; subst h; exact ⟨rfl, rfl⟩
  case h_3 hop => 
    simp only [hop, Op.operands, List.forall_mem_cons] at hev
    simp only [eff, hop, hev.1, hev.2.1, hev.2.2.1] at h ⊢
    split at h
    case h_2 => cases h
    simp only [Option.some.injEq] at h; subst h; exact ⟨rfl, rfl⟩
  case h_4 hop => 
    simp only [hop, Op.operands, List.forall_mem_cons] at hev
    simp only [eff, hop, hev.1] at h ⊢
    split at h
    case h_2 => cases h
    rename_i h1 h2
    simp only [Option.some.injEq] at h; subst h
    rw [h1, cellsAt_agree ho h2]; exact ⟨rfl, rfl⟩
  case h_5 hop => 
    simp only [hop, Op.operands, List.forall_mem_cons] at hev
    simp only [eff, hop, hev.1] at h ⊢
    split at h <;> first | contradiction | skip
    all_goals (simp only [Option.some.injEq] at h; subst h; exact ⟨rfl, rfl⟩)
  case h_6 hop => 
    simp only [hop, Op.operands, List.forall_mem_cons] at hev
    simp only [eff, hop, hev.1, hev.2.1] at h ⊢
    split at h
    case h_2 => cases h
    split at h
    case h_2 => cases h
    simp only [Option.some.injEq] at h; subst h; exact ⟨rfl, rfl⟩
  case h_7 hop => 
    simp only [hop, Op.operands, List.forall_mem_cons] at hev
    simp only [eff, hop, hev.1] at h ⊢
    split at h <;> first | contradiction | skip
    all_goals (simp only [Option.some.injEq] at h; subst h; exact ⟨rfl, rfl⟩)
  case h_8 hop => 
    simp only [hop, Op.operands, List.forall_mem_cons] at hev
    simp only [eff, hop, hev.1] at h ⊢
    split at h <;> first | contradiction | skip
    rename_i h1 h2 h3
    simp only [Option.some.injEq] at h; subst h; exact ⟨rfl, by simp only [h1, h2, h3]⟩
  case h_9 hop => 
    simp only [hop, Op.operands, List.forall_mem_cons] at hev
    simp only [eff, hop, hev.1] at h ⊢
    split at h <;> first | contradiction | skip
    split at h <;> first | contradiction | skip
    split at h <;> first | contradiction | skip
    rename_i h1 h2 h3 h4
    simp only [Option.some.injEq] at h; subst h; exact ⟨rfl, by first | rfl | simp only [h1, h2, h3, h4] | simp only [h3, h4]⟩
  case h_10 hop => 
    simp only [hop, Op.operands, List.forall_mem_cons] at hev
    simp only [eff, hop, hev.1] at h ⊢
    split at h <;> first | contradiction | skip
    split at h <;> first | contradiction | skip
    split at h <;> first | contradiction | skip
    simp only [Option.some.injEq] at h; subst h; exact ⟨rfl, by first | rfl | simp only [*]⟩
  case h_11 hop => 
    simp only [hop, Op.operands, List.forall_mem_cons] at hev
    simp only [eff, hop, hev.1, hev.2.1] at h ⊢
    split at h <;> first | contradiction | skip
    · split at h <;> first | contradiction | skip
      all_goals (simp only [Option.some.injEq] at h; subst h; exact ⟨rfl, by first | rfl | simp only [*]⟩)
    · split at h <;> first | contradiction | skip
      split at h <;> first | contradiction | skip
      all_goals (simp only [Option.some.injEq] at h; subst h; exact ⟨rfl, by first | rfl | simp only [*]⟩)
  case h_12 hop => 
    simp only [hop, Op.operands, List.forall_mem_cons] at hev
    simp only [eff, hop, hev.1, hev.2.1] at h ⊢
    split at h <;> first | contradiction | skip
    split at h <;> first | contradiction | skip
    all_goals (simp only [Option.some.injEq] at h; subst h; exact ⟨rfl, by first | rfl | simp only [*]⟩)
  case h_13 t ps hop => 
    have hm : (ps.toList.map fun p => (p.1, s1.ev p.2)) = ps.toList.map fun p => (p.1, s.ev p.2) := List.map_congr_left fun p hp => by
      rw [hev p.2 (by simp only [hop, Op.operands]; simp only [List.mem_map]; exact ⟨p, hp, rfl⟩)]
    simp only [eff, hop, hm] at h ⊢
    split at h <;> first | contradiction | skip
    · split at h <;> first | contradiction | skip
      all_goals (simp only [Option.some.injEq] at h; subst h; exact ⟨rfl, by first | rfl | simp only [*]⟩)
    · split at h <;> first | contradiction | skip
      split at h <;> first | contradiction | skip
      all_goals (simp only [Option.some.injEq] at h; subst h; exact ⟨rfl, by first | rfl | simp only [*]⟩)
  case h_14 t x lo hi mx hop => 
    have h0 : s1.ev x = s.ev x := hev x (by simp [hop, Op.operands])
    have h1 : lo.map s1.ev = lo.map s.ev := by cases lo with | none => rfl | some y => simp [hev y (by simp [hop, Op.operands])]
    have h2 : hi.map s1.ev = hi.map s.ev := by cases hi with | none => rfl | some y => simp [hev y (by simp [hop, Op.operands])]
    have h3 : mx.map s1.ev = mx.map s.ev := by cases mx with | none => rfl | some y => simp [hev y (by simp [hop, Op.operands])]
    simp only [eff, hop, h0, h1, h2, h3] at h ⊢
    split at h <;> first | contradiction | skip
    split at h <;> first | contradiction | skip
    have := effSlice_agree (s1 := s1) h
    exact this
  case h_15 hop => 
    simp only [hop, Op.operands, List.forall_mem_cons] at hev
    simp only [eff, hop, hev.1] at h ⊢
    split at h <;> first | contradiction | skip
    simp only [Option.some.injEq] at h; subst h; exact ⟨rfl, rfl⟩
  case h_16 t n ps hop => 
    have hm : (ps.toList.map fun p => (p.1, s1.ev p.2)) = ps.toList.map fun p => (p.1, s.ev p.2) := List.map_congr_left fun p hp => by
      rw [hev p.2 (by simp only [hop, Op.operands]; simp only [List.mem_map]; exact ⟨p, hp, rfl⟩)]
    simp only [eff, hop, hm] at h ⊢
    split at h <;> first | contradiction | skip
    split at h <;> first | contradiction | skip
    have hi : inplOf C o = false := by simpa using hs
    simp only [hi, Bool.false_eq_true, if_false] at h ⊢
    simp only [Option.some.injEq] at h; subst h; exact ⟨rfl, by first | rfl | simp only [*]⟩
  all_goals
    rename_i args ts hop
    have hm : args.toList.map s1.ev = args.toList.map s.ev := List.map_congr_left fun p hp => hev p (by simp only [hop, Op.operands, Call.operands]; simpa using hp)
    simp only [eff, hop, hm] at h ⊢
    exact effBuiltin_agree ho (by simp) h

end
end Go.Ab
