/- The executor on abstract values: drawn regions, rules for walks. Conditions stand ahead of each part. -/
import Derived.Test.YtcpfjabjonpdaaaA4
import Derived.Orders

/- Operations that look at their operands and turn their slot alone: what else turns does not matter. No condition. -/
set_option linter.unusedSimpArgs false
namespace Go.Ab
open Go.RowKit (Below)

def simpleOp (C : Cfg) (o : Oper) : Bool := match o.op with
  | .move _ | .assign _ | .pick _ _ _ | .load _ _ | .nilCheck _ | .binOp _ _ _ _ _ | .unOp _ _ _ | .convert _ _ _ | .fieldAddr _ _ _ | .field _ _ _ | .indexAddr _ _ _ | .index _ _ _
  | .build _ _ | .slice _ _ _ _ _ | .extract _ _ => true
  | .buildSlice _ _ _ => !inplOf C o
  | .call { callee := .builtin .len, .. } | .call { callee := .builtin .max, .. } | .call { callee := .builtin .min, .. } => true
  | _ => false

structure Agree (o : Oper) (s s1 : AState) : Prop where
  ev : ∀ x ∈ o.op.operands.toList, s1.ev x = s.ev x
  obj : ∀ r x, s.obj r = some x → x ≠ .dead → s1.obj r = some x

section
variable {C : Cfg} {s s1 : AState}

theorem cellsAt_agree (ho : ∀ r x, s.obj r = some x → x ≠ .dead → s1.obj r = some x) {a : AV} {y : List AV × Nat × Prop} (h : cellsAt s a = some y) : cellsAt s1 a = some y := by
  unfold cellsAt at h ⊢
  split at h
  · exact h
  · split at h
    case h_2 => cases h
    rename_i hobj
    rw [ho _ _ hobj (by simp)]
    exact h
  · split at h
    case h_2 => cases h
    rename_i hobj
    rw [ho _ _ hobj (by simp)]
    exact h
  · cases h

theorem effBuiltin_agree (ho : ∀ r x, s.obj r = some x → x ≠ .dead → s1.obj r = some x) {inpl : Bool} {b : Builtin} (hb : b = .len ∨ b = .max ∨ b = .min) {ts : List Nat} {args : List AV} {out : Out}
    (h : effBuiltin C inpl s b ts args = some out) : out.s = s ∧ effBuiltin C inpl s1 b ts args = some ⟨out.c, out.v, s1⟩ := by
  rcases hb with rfl | rfl | rfl
  · unfold effBuiltin at h ⊢
    split at h <;> first | contradiction | skip
    · split at h
      case h_2 => cases h
      simp only [Option.some.injEq] at h; subst h; exact ⟨rfl, rfl⟩
    · split at h
      case h_2 => cases h
      simp only [Option.some.injEq] at h; subst h; exact ⟨rfl, rfl⟩
    · split at h
      case h_2 => cases h
      simp only [Option.some.injEq] at h; subst h; exact ⟨rfl, rfl⟩
    · split at h
      case h_2 => cases h
      rename_i heq hobj; simp only [Option.some.injEq] at h; subst h; exact ⟨rfl, by rw [heq, ho _ _ hobj (by simp)]⟩
  · unfold effBuiltin at h ⊢
    split at h <;> first | contradiction | skip
    split at h
    case isFalse => cases h
    rename_i hk; simp only [Option.some.injEq] at h; subst h; exact ⟨rfl, by simp [hk]⟩
  · unfold effBuiltin at h ⊢
    split at h <;> first | contradiction | skip
    split at h
    case isFalse => cases h
    rename_i hk; simp only [Option.some.injEq] at h; subst h; exact ⟨rfl, by simp [hk]⟩

theorem effSlice_agree {size : Nat} {x : AV} {lo hi mx : Option AV} {out : Out} (h : effSlice size x lo hi mx s = some out) : out.s = s ∧ effSlice size x lo hi mx s1 = some ⟨out.c, out.v, s1⟩ := by
  unfold effSlice at h ⊢
  split at h
  · split at h
    · split at h
      case h_2 => cases h
      rename_i h1 h2; simp only [Option.some.injEq] at h; subst h; exact ⟨rfl, by simp only [h1, h2]⟩
    · split at h
      case h_2 => cases h
      rename_i h1 h2; simp only [Option.some.injEq] at h; subst h; exact ⟨rfl, by simp only [h1, h2]⟩
    · cases h
  · split at h
    case h_2 => cases h
    simp only [Option.some.injEq] at h; subst h; exact ⟨rfl, rfl⟩
  · cases h

theorem eff_agree {o : Oper} (hs : simpleOp C o = true) (hA : Agree o s s1) {out : Out} (h : eff C o s = some out) : out.s = s ∧ eff C o s1 = some ⟨out.c, out.v, s1⟩ := by
  obtain ⟨hev, ho⟩ := hA
  unfold simpleOp at hs
  split at hs <;> first | contradiction | skip
  case h_1 x hop => 
    simp only [hop, Op.operands, List.forall_mem_cons] at hev
    simp only [eff, hop, hev.1] at h ⊢; simp only [Option.some.injEq] at h; subst h; exact ⟨rfl, rfl⟩
  case h_2 x hop => 
    simp only [hop, Op.operands, List.forall_mem_cons] at hev
    simp only [eff, hop, hev.1] at h ⊢; simp only [Option.some.injEq] at h; subst h; exact ⟨rfl, rfl⟩
  case h_3 hop => 
    simp only [hop, Op.operands, List.forall_mem_cons] at hev
    simp only [eff, hop, hev.1, hev.2.1, hev.2.2.1] at h ⊢
    split at h
    case h_2 => cases h
    simp only [Option.some.injEq] at h; subst h; exact ⟨rfl, rfl⟩
  case h_4 hop => 
    simp only [hop, Op.operands, List.forall_mem_cons] at hev
    simp only [eff, hop, hev.1] at h ⊢
    split at h
    case h_2 => cases h
    rename_i h1 h2
    simp only [Option.some.injEq] at h; subst h
    rw [h1, cellsAt_agree ho h2]; exact ⟨rfl, rfl⟩
  case h_5 hop => 
    simp only [hop, Op.operands, List.forall_mem_cons] at hev
    simp only [eff, hop, hev.1] at h ⊢
    split at h <;> first | contradiction | skip
    all_goals (simp only [Option.some.injEq] at h; subst h; exact ⟨rfl, rfl⟩)
  case h_6 hop => 
    simp only [hop, Op.operands, List.forall_mem_cons] at hev
    simp only [eff, hop, hev.1, hev.2.1] at h ⊢
    split at h
    case h_2 => cases h
    split at h
    case h_2 => cases h
    simp only [Option.some.injEq] at h; subst h; exact ⟨rfl, rfl⟩
  case h_7 hop => 
    simp only [hop, Op.operands, List.forall_mem_cons] at hev
    simp only [eff, hop, hev.1] at h ⊢
    split at h <;> first | contradiction | skip
    all_goals (simp only [Option.some.injEq] at h; subst h; exact ⟨rfl, rfl⟩)
  case h_8 hop => 
    simp only [hop, Op.operands, List.forall_mem_cons] at hev
    simp only [eff, hop, hev.1] at h ⊢
    split at h <;> first | contradiction | skip
    rename_i h1 h2 h3
    simp only [Option.some.injEq] at h; subst h; exact ⟨rfl, by simp only [h1, h2, h3]⟩
  case h_9 hop => 
    simp only [hop, Op.operands, List.forall_mem_cons] at hev
    simp only [eff, hop, hev.1] at h ⊢
    split at h <;> first | contradiction | skip
    split at h <;> first | contradiction | skip
    split at h <;> first | contradiction | skip
    rename_i h1 h2 h3 h4
    simp only [Option.some.injEq] at h; subst h; exact ⟨rfl, by first | rfl | simp only [h1, h2, h3, h4] | simp only [h3, h4]⟩
  case h_10 hop => 
    simp only [hop, Op.operands, List.forall_mem_cons] at hev
    simp only [eff, hop, hev.1] at h ⊢
    split at h <;> first | contradiction | skip
    split at h <;> first | contradiction | skip
    split at h <;> first | contradiction | skip
    simp only [Option.some.injEq] at h; subst h; exact ⟨rfl, by first | rfl | simp only [*]⟩
  case h_11 hop => 
    simp only [hop, Op.operands, List.forall_mem_cons] at hev
    simp only [eff, hop, hev.1, hev.2.1] at h ⊢
    split at h <;> first | contradiction | skip
    · split at h <;> first | contradiction | skip
      all_goals (simp only [Option.some.injEq] at h; subst h; exact ⟨rfl, by first | rfl | simp only [*]⟩)
    · split at h <;> first | contradiction | skip
      split at h <;> first | contradiction | skip
      all_goals (simp only [Option.some.injEq] at h; subst h; exact ⟨rfl, by first | rfl | simp only [*]⟩)
  case h_12 hop => 
    simp only [hop, Op.operands, List.forall_mem_cons] at hev
    simp only [eff, hop, hev.1, hev.2.1] at h ⊢
    split at h <;> first | contradiction | skip
    split at h <;> first | contradiction | skip
    all_goals (simp only [Option.some.injEq] at h; subst h; exact ⟨rfl, by first | rfl | simp only [*]⟩)
  case h_13 t ps hop => 
    have hm : (ps.toList.map fun p => (p.1, s1.ev p.2)) = ps.toList.map fun p => (p.1, s.ev p.2) := List.map_congr_left fun p hp => by
      rw [hev p.2 (by simp only [hop, Op.operands]; simp only [List.mem_map]; exact ⟨p, hp, rfl⟩)]
    simp only [eff, hop, hm] at h ⊢
    split at h <;> first | contradiction | skip
    · split at h <;> first | contradiction | skip
      all_goals (simp only [Option.some.injEq] at h; subst h; exact ⟨rfl, by first | rfl | simp only [*]⟩)
    · split at h <;> first | contradiction | skip
      split at h <;> first | contradiction | skip
      all_goals (simp only [Option.some.injEq] at h; subst h; exact ⟨rfl, by first | rfl | simp only [*]⟩)
  case h_14 t x lo hi mx hop => 
    have h0 : s1.ev x = s.ev x := hev x (by simp [hop, Op.operands])
    have h1 : lo.map s1.ev = lo.map s.ev := by cases lo with | none => rfl | some y => simp [hev y (by simp [hop, Op.operands])]
    have h2 : hi.map s1.ev = hi.map s.ev := by cases hi with | none => rfl | some y => simp [hev y (by simp [hop, Op.operands])]
    have h3 : mx.map s1.ev = mx.map s.ev := by cases mx with | none => rfl | some y => simp [hev y (by simp [hop, Op.operands])]
    simp only [eff, hop, h0, h1, h2, h3] at h ⊢
    split at h <;> first | contradiction | skip
    split at h <;> first | contradiction | skip
    have := effSlice_agree (s1 := s1) h
    exact this
  case h_15 hop => 
    simp only [hop, Op.operands, List.forall_mem_cons] at hev
    simp only [eff, hop, hev.1] at h ⊢
    split at h <;> first | contradiction | skip
    simp only [Option.some.injEq] at h; subst h; exact ⟨rfl, rfl⟩
  case h_16 t n ps hop => 
    have hm : (ps.toList.map fun p => (p.1, s1.ev p.2)) = ps.toList.map fun p => (p.1, s.ev p.2) := List.map_congr_left fun p hp => by
      rw [hev p.2 (by simp only [hop, Op.operands]; simp only [List.mem_map]; exact ⟨p, hp, rfl⟩)]
    simp only [eff, hop, hm] at h ⊢
    split at h <;> first | contradiction | skip
    split at h <;> first | contradiction | skip
    have hi : inplOf C o = false := by simpa using hs
    simp only [hi, Bool.false_eq_true, if_false] at h ⊢
    simp only [Option.some.injEq] at h; subst h; exact ⟨rfl, by first | rfl | simp only [*]⟩
  all_goals
    rename_i args ts hop
    have hm : args.toList.map s1.ev = args.toList.map s.ev := List.map_congr_left fun p hp => hev p (by simp only [hop, Op.operands, Call.operands]; simpa using hp)
    simp only [eff, hop, hm] at h ⊢
    exact effBuiltin_agree ho (by simp) h

end
end Go.Ab

/- Regions whose order the world draws: whatever the order, the end is that of the text's order. Condition: the executor's table of types is the program's; operations that the edges leave open do not meet. -/
set_option linter.unusedSimpArgs false
namespace Go.Ab
open Go.RowKit (Below)

/-- As 'eff', a new variable in a place that is reserved. -/
def effD (C : Cfg) (k : Nat) (o : Oper) (s : AState) : Option Out :=
  match o.op with
  | .alloc t => match C.ty t, s.obj k with
    | some l, some .dead => some ⟨s.b ≤ k, .bptr k 0, s.setObj k (.box (cellsOf l.zero))⟩
    | _, _ => none
  | .box _ x => match s.obj k with
    | some .dead => some ⟨s.b ≤ k ∧ (s.ev x).solid = true, .bptr k 0, s.setObj k (.box (cellsOf (s.ev x)))⟩
    | _ => none
  | _ => eff C o s

def isAl (o : Oper) : Bool := match o.op with | .alloc _ | .box _ _ => true | _ => false
def nxt (k : Nat) (o : Oper) : Nat := if isAl o then k + 1 else k

def xopD (P : Program) (C : Cfg) (k : Nat) (o : Oper) (K : AState → Prop) (s : AState) : Prop :=
  match o.op with
  | .call { callee := .value f, args := args, .. } => match s.ev f with
    | .fn g => ∃ r args', PCalls P g args' r ∧ (args' = args.toList.map s.ev ∨ args' = AV.normL (args.toList.map s.ev)) ∧ K (s.put o.dst r)
    | _ => False
  | _ => match effD C k o s with
    | some ⟨c, v, s'⟩ => c ∧ K (s'.put o.dst v)
    | none => False

def xguardD (P : Program) (C : Cfg) (ops : Array Oper) (k : Nat) (o : Oper) (K : AState → Prop) (s : AState) : Prop :=
  match guardOf ops o with
  | none => xopD P C k o K s
  | some (some t, want) => match s.env t with
    | .bool b => if b = want then xopD P C k o K s else K (s.put o.dst (.tup []))
    | .tup [] => K (s.put o.dst (.tup []))
    | _ => False
  | some (none, _) => False

def xopsD (P : Program) (C : Cfg) (ops : Array Oper) : Nat → List Oper → (AState → Prop) → AState → Prop
  | _, [], K, s => K s
  | k, o :: rest, K, s => xguardD P C ops k o (xopsD P C ops (nxt k o) rest K) s

/-- One step. -/
def St (P : Program) (C : Cfg) (ops : Array Oper) (k : Nat) (o : Oper) (s s' : AState) : Prop := xguardD P C ops k o (· = s') s

section
variable {P : Program} {C : Cfg} {ops : Array Oper}

theorem xopD_ex {k : Nat} {o : Oper} {K : AState → Prop} {s : AState} (h : xopD P C k o K s) : ∃ s', xopD P C k o (· = s') s ∧ K s' := by
  unfold xopD at h ⊢
  split at h
  · split at h
    case h_2 => cases h
    obtain ⟨r, as, h1, h2, h3⟩ := h
    exact ⟨_, ⟨r, as, h1, h2, rfl⟩, h3⟩
  · split at h
    case h_2 => cases h
    exact ⟨_, ⟨h.1, rfl⟩, h.2⟩

theorem xguardD_ex {k : Nat} {o : Oper} {K : AState → Prop} {s : AState} (h : xguardD P C ops k o K s) : ∃ s', St P C ops k o s s' ∧ K s' := by
  unfold St
  unfold xguardD at h ⊢
  split at h
  · exact xopD_ex h
  · split at h
    case h_3 => cases h
    · rename_i hb
      split at h
      · rename_i hw; simp only [hb, if_pos hw]; exact xopD_ex h
      · rename_i hw; simp only [hb, if_neg hw]; exact ⟨_, rfl, h⟩
    · rename_i hb
      simp only [hb]; exact ⟨_, rfl, h⟩
  · cases h

inductive Cls where
  | t | q | a | w | z
  deriving DecidableEq

/-- It looks at its operands alone. -/
def tOp (C : Cfg) (o : Oper) : Bool := match o.op with
  | .move _ | .assign _ | .pick _ _ _ | .nilCheck _ | .binOp _ _ _ _ _ | .unOp _ _ _ | .convert _ _ _ | .fieldAddr _ _ _ | .field _ _ _ | .indexAddr _ _ _ | .index _ _ _
  | .build _ _ | .slice _ _ _ _ _ | .extract _ _ => true
  | .buildSlice _ _ _ => !inplOf C o
  | .call { callee := .value (.func _), .. } => true
  | _ => false

def cls (C : Cfg) (o : Oper) : Cls := match o.op with
  | .alloc _ | .box _ _ => .a
  | .store _ _ _ => .w
  | _ => if tOp C o then .t else if simpleOp C o then .q else .z

def freeC : Cls → Cls → Bool
  | .t, .t | .t, .q | .q, .t | .q, .q | .t, .a | .q, .a | .a, .a | .a, .t | .t, .w | .w, .t => true
  | _, _ => false

def act (od : Option (Nat × AObj × AObj)) (dst : Option Tmp) (v : AV) (s : AState) : AState :=
  match od with
  | none => s.put dst v
  | some (r, _, y) => (s.setObj r y).put dst v

def EnvAg (ops : Array Oper) (o : Oper) (s s1 : AState) : Prop := ∀ t ∈ o.looksAt ops, s1.env t = s.env t
def ObjAg (s s1 : AState) : Prop := ∀ r x, s.obj r = some x → x ≠ .dead → s1.obj r = some x

structure Yl (P : Program) (C : Cfg) (ops : Array Oper) (k : Nat) (o : Oper) (s s' : AState) (od : Option (Nat × AObj × AObj)) (v : AV) : Prop where
  at_ : ∀ r X y, od = some (r, X, y) → s.obj r = some X
  to : s' = act od o.dst v s
  stab : ∀ s1, s1.b = s.b → EnvAg ops o s s1 → (∀ r X y, od = some (r, X, y) → s1.obj r = some X) → (cls C o = .q → ObjAg s s1) → St P C ops k o s1 (act od o.dst v s1)
  none_ : cls C o = .t ∨ cls C o = .q → od = none
  new_ : cls C o = .a → ∀ r X y, od = some (r, X, y) → X = .dead ∧ y ≠ .dead

theorem ev_of_env {o : Oper} {s s1 : AState} (h : EnvAg ops o s s1) : ∀ x ∈ o.op.operands.toList, s1.ev x = s.ev x := by
  intro x hx
  cases x with
  | tmp t => exact h t (List.mem_append_left _ (List.mem_filterMap.2 ⟨.tmp t, hx, rfl⟩))
  | _ => rfl

theorem guard_env {o : Oper} {s s1 : AState} (h : EnvAg ops o s s1) {t : Nat} {want : Bool} (hg : guardOf ops o = some (some t, want)) : s1.env t = s.env t := by
  refine h t (List.mem_append_right _ ?_)
  unfold guardOf at hg
  cases hgd : o.guard with
  | none => rw [hgd] at hg; simp at hg
  | some gw =>
    obtain ⟨j, wt⟩ := gw
    rw [hgd] at hg
    simp only [Option.map_some, Option.some.injEq, Prod.mk.injEq] at hg
    simp [hg.1]

/-- What an operation of the first kinds gives. -/
theorem eff_t {o : Oper} (ht : tOp C o = true) (hc : ∀ c, o.op ≠ .call c) {s s1 : AState} (hev : ∀ x ∈ o.op.operands.toList, s1.ev x = s.ev x) {out : Out} (h : eff C o s = some out) :
    out.s = s ∧ eff C o s1 = some ⟨out.c, out.v, s1⟩ := by
  have hs : simpleOp C o = true := by
    unfold tOp at ht
    unfold simpleOp
    split at ht <;> simp_all
  by_cases hl : (match o.op with | .call _ => true | .load _ _ => true | _ => false) = true
  · unfold tOp at ht
    split at ht <;> simp_all
  · -- objects are not looked at: a state with the same objects as 's' serves
    have key : ∀ s2 : AState, (∀ x ∈ o.op.operands.toList, s2.ev x = s.ev x) → eff C o s2 = (eff C o s).map fun out => ⟨out.c, out.v, s2⟩ := by
      intro s2 hev
      unfold tOp at ht
      split at ht <;> first | contradiction | skip
      case h_1 hop => simp only [hop, Op.operands, List.forall_mem_cons] at hev; simp only [eff, hop, hev.1]; rfl
      case h_2 hop => simp only [hop, Op.operands, List.forall_mem_cons] at hev; simp only [eff, hop, hev.1]; rfl
      case h_3 hop =>
        simp only [hop, Op.operands, List.forall_mem_cons] at hev; simp only [eff, hop, hev.1, hev.2.1, hev.2.2.1]
        split <;> rfl
      case h_4 hop =>
        simp only [hop, Op.operands, List.forall_mem_cons] at hev; simp only [eff, hop, hev.1]
        split <;> rfl
      case h_5 hop =>
        simp only [hop, Op.operands, List.forall_mem_cons] at hev; simp only [eff, hop, hev.1, hev.2.1]
        split
        · split <;> rfl
        · rfl
      case h_6 hop =>
        simp only [hop, Op.operands, List.forall_mem_cons] at hev; simp only [eff, hop, hev.1]
        split <;> rfl
      case h_7 hop =>
        simp only [hop, Op.operands, List.forall_mem_cons] at hev; simp only [eff, hop, hev.1]
        split <;> rfl
      case h_8 hop =>
        simp only [hop, Op.operands, List.forall_mem_cons] at hev; simp only [eff, hop, hev.1]
        repeat' (first | rfl | split)
      case h_9 hop =>
        simp only [hop, Op.operands, List.forall_mem_cons] at hev; simp only [eff, hop, hev.1]
        repeat' (first | rfl | split)
      case h_10 hop =>
        simp only [hop, Op.operands, List.forall_mem_cons] at hev; simp only [eff, hop, hev.1, hev.2.1]
        repeat' (first | rfl | split)
      case h_11 hop =>
        simp only [hop, Op.operands, List.forall_mem_cons] at hev; simp only [eff, hop, hev.1, hev.2.1]
        repeat' (first | rfl | split)
      case h_12 t ps hop =>
        have hm : (ps.toList.map fun p => (p.1, s2.ev p.2)) = ps.toList.map fun p => (p.1, s.ev p.2) := List.map_congr_left fun p hp => by
          rw [hev p.2 (by simp only [hop, Op.operands]; simp only [List.mem_map]; exact ⟨p, hp, rfl⟩)]
        simp only [eff, hop, hm]
        repeat' (first | rfl | split)
      case h_13 t x lo hi mx hop =>
        have h0 : s2.ev x = s.ev x := hev x (by simp [hop, Op.operands])
        have h1 : lo.map s2.ev = lo.map s.ev := by cases lo with | none => rfl | some y => simp [hev y (by simp [hop, Op.operands])]
        have h2 : hi.map s2.ev = hi.map s.ev := by cases hi with | none => rfl | some y => simp [hev y (by simp [hop, Op.operands])]
        have h3 : mx.map s2.ev = mx.map s.ev := by cases mx with | none => rfl | some y => simp [hev y (by simp [hop, Op.operands])]
        simp only [eff, hop, h0, h1, h2, h3, effSlice]
        repeat' (first | rfl | split)
      case h_14 hop =>
        simp only [hop, Op.operands, List.forall_mem_cons] at hev; simp only [eff, hop, hev.1]
        split <;> rfl
      case h_15 t n ps hop =>
        have hm : (ps.toList.map fun p => (p.1, s2.ev p.2)) = ps.toList.map fun p => (p.1, s.ev p.2) := List.map_congr_left fun p hp => by
          rw [hev p.2 (by simp only [hop, Op.operands]; simp only [List.mem_map]; exact ⟨p, hp, rfl⟩)]
        have hi : inplOf C o = false := by simpa using ht
        simp only [eff, hop, hm, hi, Bool.false_eq_true, if_false]
        repeat' (first | rfl | split)
      case h_16 hop => exact absurd hop (hc _)
    refine ⟨(eff_agree hs (s1 := s) ⟨fun _ _ => rfl, fun _ _ h _ => h⟩ h).1, ?_⟩
    rw [key s1 hev, h]; rfl

end
end Go.Ab

/- Regions whose order the world draws, second part: two steps that do not meet change places. No condition. -/
set_option linter.unusedSimpArgs false
namespace Go.Ab
open Go.RowKit (Below)

section
variable {P : Program} {C : Cfg} {ops : Array Oper}

theorem cls_cases (o : Oper) : (cls C o = .a ∧ ((∃ t, o.op = .alloc t) ∨ ∃ t x, o.op = .box t x)) ∨ (cls C o = .w ∧ ∃ t a x, o.op = .store t a x) ∨
    ((∀ t, o.op ≠ .alloc t) ∧ (∀ t x, o.op ≠ .box t x) ∧ (cls C o = .t ∧ tOp C o = true ∨ cls C o = .q ∧ simpleOp C o = true ∧ tOp C o = false ∨ cls C o = .z)) := by
  unfold cls
  split
  · rename_i t hop; exact .inl ⟨rfl, .inl ⟨t, hop⟩⟩
  · rename_i t x hop; exact .inl ⟨rfl, .inr ⟨t, x, hop⟩⟩
  · rename_i t a x hop; exact .inr (.inl ⟨rfl, t, a, x, hop⟩)
  · rename_i h1 h2 h3
    refine .inr (.inr ⟨h1, h2, ?_⟩)
    split
    · rename_i h; exact .inl ⟨rfl, h⟩
    · split
      · rename_i h h'; exact .inr (.inl ⟨rfl, h', by simpa using h⟩)
      · exact .inr (.inr rfl)

theorem effD_eff {k : Nat} {o : Oper} {s : AState} (h1 : ∀ t, o.op ≠ .alloc t) (h2 : ∀ t x, o.op ≠ .box t x) : effD C k o s = eff C o s := by
  unfold effD
  split
  · rename_i t hop; exact absurd hop (h1 t)
  · rename_i t x hop; exact absurd hop (h2 t x)
  · rfl

theorem setObj_n' (s : AState) (r : Nat) (x : AObj) (dst : Option Tmp) (v : AV) : ((s.setObj r x).put dst v).n = s.n := by
  rw [← setObj_n s r x]; cases dst <;> rfl

/-- The step without its guard. -/
def YlX (P : Program) (C : Cfg) (k : Nat) (o : Oper) (s s' : AState) (od : Option (Nat × AObj × AObj)) (v : AV) : Prop :=
  (∀ r X y, od = some (r, X, y) → s.obj r = some X) ∧ s' = act od o.dst v s ∧
  (∀ s1 : AState, s1.b = s.b → (∀ x ∈ o.op.operands.toList, s1.ev x = s.ev x) → (∀ r X y, od = some (r, X, y) → s1.obj r = some X) → (cls C o = .q → ObjAg s s1) → xopD P C k o (· = act od o.dst v s1) s1) ∧
  (cls C o = .t ∨ cls C o = .q → od = none) ∧ (cls C o = .a → ∀ r X y, od = some (r, X, y) → X = .dead ∧ y ≠ .dead)

theorem xopD_yl {k : Nat} {o : Oper} {s s' : AState} (hz : cls C o ≠ .z) (h : xopD P C k o (· = s') s) : ∃ od v, YlX P C k o s s' od v := by
  by_cases hcall : ∃ f args ts, o.op = .call { callee := .value f, args := args, argTypes := ts }
  · obtain ⟨f, args, ts, hop⟩ := hcall
    unfold xopD at h
    simp only [hop] at h
    split at h
    case h_2 => cases h
    rename_i g hg
    obtain ⟨r, as, h1, h2, h3⟩ := h
    have hcl : cls C o = .t := by
      rcases cls_cases (C := C) o with ⟨_, hh | hh⟩ | ⟨_, hh⟩ | ⟨_, _, hh | hh | hh⟩
      · obtain ⟨t, ht⟩ := hh; rw [hop] at ht; cases ht
      · obtain ⟨t, x, ht⟩ := hh; rw [hop] at ht; cases ht
      · obtain ⟨t, a, x, ht⟩ := hh; rw [hop] at ht; cases ht
      · exact hh.1
      · have := hh.2.1; simp [simpleOp, hop] at this
      · exact absurd hh hz
    refine ⟨none, r, ⟨by simp, h3.symm, ?_, fun _ => rfl, by simp⟩⟩
    intro s1 _ hev _ _
    have hevf := hev f (by simp [hop, Op.operands, Call.operands])
    have hm : args.toList.map s1.ev = args.toList.map s.ev := List.map_congr_left fun p hp => hev p (by simp only [hop, Op.operands, Call.operands]; simp at hp ⊢; exact .inr hp)
    unfold xopD
    simp only [hop]
    rw [hevf, hg]
    exact ⟨r, as, h1, by rw [hm]; exact h2, rfl⟩
  · have hx : ∀ (k : Nat) (K : AState → Prop) (s : AState), xopD P C k o K s = match effD C k o s with
        | some ⟨c, v, s'⟩ => c ∧ K (s'.put o.dst v)
        | none => False := by
      intro k K s
      unfold xopD
      split
      · rename_i f args ts hop; exact absurd ⟨f, args, ts, hop⟩ hcall
      · rfl
    rw [hx] at h
    split at h
    case h_2 => cases h
    rename_i c v s0 heff
    obtain ⟨hc, rfl⟩ := h
    rcases cls_cases (C := C) o with ⟨hcl, hh | hh⟩ | ⟨hcl, hh⟩ | ⟨hna, hnb, hh⟩
    · obtain ⟨t, hop⟩ := hh
      simp only [effD, hop] at heff
      split at heff
      case h_2 => cases heff
      rename_i l hT ho
      simp only [Option.some.injEq, Out.mk.injEq] at heff
      obtain ⟨rfl, rfl, rfl⟩ := heff
      refine ⟨some (k, .dead, .box (cellsOf l.zero)), _, ⟨?_, rfl, ?_, by simp [hcl], ?_⟩⟩
      · intro r X y hr; simp only [Option.some.injEq, Prod.mk.injEq] at hr; obtain ⟨rfl, rfl, rfl⟩ := hr; exact ho
      · intro s1 hb _ hobj _
        rw [hx]
        simp only [effD, hop, hT, hobj _ _ _ rfl]
        exact ⟨by rw [hb]; exact hc, rfl⟩
      · intro _ r X y hr; simp only [Option.some.injEq, Prod.mk.injEq] at hr; obtain ⟨rfl, rfl, rfl⟩ := hr; exact ⟨rfl, by simp⟩
    · obtain ⟨t, x, hop⟩ := hh
      simp only [effD, hop] at heff
      split at heff
      case h_2 => cases heff
      rename_i ho
      simp only [Option.some.injEq, Out.mk.injEq] at heff
      obtain ⟨rfl, rfl, rfl⟩ := heff
      refine ⟨some (k, .dead, .box (cellsOf (s.ev x))), _, ⟨?_, rfl, ?_, by simp [hcl], ?_⟩⟩
      · intro r X y hr; simp only [Option.some.injEq, Prod.mk.injEq] at hr; obtain ⟨rfl, rfl, rfl⟩ := hr; exact ho
      · intro s1 hb hev hobj _
        rw [hx]
        have := hev x (by simp [hop, Op.operands])
        simp only [effD, hop, hobj _ _ _ rfl, this]
        exact ⟨by rw [hb]; exact hc, rfl⟩
      · intro _ r X y hr; simp only [Option.some.injEq, Prod.mk.injEq] at hr; obtain ⟨rfl, rfl, rfl⟩ := hr; exact ⟨rfl, by simp⟩
    · obtain ⟨t, p, x, hop⟩ := hh
      rw [effD_eff (by simp [hop]) (by simp [hop])] at heff
      have hx1 : ∀ (K : AState → Prop) (s : AState), xopD P C k o K s = match eff C o s with
        | some ⟨c, v, s'⟩ => c ∧ K (s'.put o.dst v)
        | none => False := fun K s => by rw [hx, effD_eff (by simp [hop]) (by simp [hop])]
      simp only [eff, hop] at heff
      split at heff
      case h_2 => cases heff
      rename_i l hT
      split at heff
      case h_3 => cases heff
      · rename_i r off hev
        split at heff
        case h_2 => cases heff
        rename_i cs ho
        simp only [Option.some.injEq, Out.mk.injEq] at heff
        obtain ⟨rfl, rfl, rfl⟩ := heff
        refine ⟨some (r, .box cs, .box (setRange cs off (cellsOf (s.ev x)))), _, ⟨?_, rfl, ?_, by simp [hcl], by simp [hcl]⟩⟩
        · intro r X y hr; simp only [Option.some.injEq, Prod.mk.injEq] at hr; obtain ⟨rfl, rfl, rfl⟩ := hr; exact ho
        · intro s1 hb hev1 hobj _
          have e1 := hev1 p (by simp [hop, Op.operands])
          have e2 := hev1 x (by simp [hop, Op.operands])
          rw [hx1]
          simp only [eff, hop, hT, e1, e2, hev, hobj _ _ _ rfl]
          exact ⟨by rw [hb]; exact hc, rfl⟩
      · rename_i r ver size i off hev
        split at heff
        case h_2 => cases heff
        rename_i v' sz es ho
        simp only [Option.some.injEq, Out.mk.injEq] at heff
        obtain ⟨rfl, rfl, rfl⟩ := heff
        refine ⟨some (r, .arr v' sz es, .arr v' sz (es.set i (reCells (es.getD i .any) (setRange (cellsOf (es.getD i .any)) off (cellsOf (s.ev x)))))), _, ⟨?_, rfl, ?_, by simp [hcl], by simp [hcl]⟩⟩
        · intro r X y hr; simp only [Option.some.injEq, Prod.mk.injEq] at hr; obtain ⟨rfl, rfl, rfl⟩ := hr; exact ho
        · intro s1 hb hev1 hobj _
          have e1 := hev1 p (by simp [hop, Op.operands])
          have e2 := hev1 x (by simp [hop, Op.operands])
          rw [hx1]
          simp only [eff, hop, hT, e1, e2, hev, hobj _ _ _ rfl]
          exact ⟨by rw [hb]; exact hc, rfl⟩
    · rw [effD_eff hna hnb] at heff
      have hx1 : ∀ (K : AState → Prop) (s : AState), xopD P C k o K s = match eff C o s with
        | some ⟨c, v, s'⟩ => c ∧ K (s'.put o.dst v)
        | none => False := fun K s => by rw [hx, effD_eff hna hnb]
      rcases hh with ⟨hcl, ht⟩ | ⟨hcl, hs, _⟩ | hh
      · have hnc : ∀ c, o.op ≠ .call c := by
          intro c hop
          unfold tOp at ht
          rw [hop] at ht
          split at ht <;> simp_all
        have h0 := eff_t ht hnc (s := s) (s1 := s) (fun _ _ => rfl) heff
        obtain ⟨h0, _⟩ := h0
        simp only at h0; subst h0
        refine ⟨none, v, ⟨by simp, rfl, ?_, fun _ => rfl, by simp⟩⟩
        intro s1 _ hev _ _
        rw [hx1, (eff_t ht hnc (s := s0) (s1 := s1) hev heff).2]
        exact ⟨hc, rfl⟩
      · have h0 := eff_agree hs (s := s) (s1 := s) ⟨fun _ _ => rfl, fun _ _ h _ => h⟩ heff
        obtain ⟨h0, _⟩ := h0
        simp only at h0; subst h0
        refine ⟨none, v, ⟨by simp, rfl, ?_, fun _ => rfl, by simp⟩⟩
        intro s1 _ hev _ hob
        rw [hx1, (eff_agree hs (s := s0) (s1 := s1) ⟨hev, hob hcl⟩ heff).2]
        exact ⟨hc, rfl⟩
      · exact absurd hh hz

theorem st_yl {k : Nat} {o : Oper} {s s' : AState} (hz : cls C o ≠ .z) (h : St P C ops k o s s') : ∃ od v, Yl P C ops k o s s' od v := by
  have lift : ∀ {od v}, YlX P C k o s s' od v → (∀ s1, EnvAg ops o s s1 → xopD P C k o (· = act od o.dst v s1) s1 → St P C ops k o s1 (act od o.dst v s1)) → Yl P C ops k o s s' od v :=
    fun hy hg => ⟨hy.1, hy.2.1, fun s1 hb he ho hq => hg s1 he (hy.2.2.1 s1 hb (ev_of_env he) ho hq), hy.2.2.2.1, hy.2.2.2.2⟩
  unfold St xguardD at h
  split at h
  · rename_i hg
    obtain ⟨od, v, hy⟩ := xopD_yl hz h
    exact ⟨od, v, lift hy fun s1 he hx => by unfold St xguardD; rw [hg]; exact hx⟩
  · rename_i t want hg
    split at h
    case h_3 => cases h
    · rename_i b hb
      split at h
      · rename_i hw
        obtain ⟨od, v, hy⟩ := xopD_yl hz h
        exact ⟨od, v, lift hy fun s1 he hx => by unfold St xguardD; rw [hg]; simp only [guard_env he hg, hb, if_pos hw]; exact hx⟩
      · rename_i hw
        refine ⟨none, .tup [], ⟨by simp, h.symm, fun s1 hb1 he _ _ => ?_, fun _ => rfl, by simp⟩⟩
        unfold St xguardD
        rw [hg]
        simp only [guard_env he hg, hb, if_neg hw]
        rfl
    · rename_i hb
      refine ⟨none, .tup [], ⟨by simp, h.symm, fun s1 hb1 he _ _ => ?_, fun _ => rfl, by simp⟩⟩
      unfold St xguardD
      rw [hg]
      simp only [guard_env he hg, hb]
      rfl
  · cases h

theorem put_b (s : AState) (d : Option Tmp) (v : AV) : (s.put d v).b = s.b := by cases d <;> rfl
theorem put_n (s : AState) (d : Option Tmp) (v : AV) : (s.put d v).n = s.n := by cases d <;> rfl
theorem put_H (s : AState) (d : Option Tmp) (v : AV) : (s.put d v).H = s.H := by cases d <;> rfl
theorem put_obj (s : AState) (d : Option Tmp) (v : AV) : (s.put d v).obj = s.obj := by cases d <;> rfl
theorem put_env_ne (s : AState) {d : Option Tmp} (v : AV) {t : Nat} (h : ∀ e, d = some e → e ≠ t) : (s.put d v).env t = s.env t := by
  cases d with
  | none => rfl
  | some e => simp [AState.put, upd, Ne.symm (h e rfl)]
theorem act_b (od : Option (Nat × AObj × AObj)) (d : Option Tmp) (v : AV) (s : AState) : (act od d v s).b = s.b := by
  unfold act; split <;> simp [put_b, setObj_b]
theorem act_n (od : Option (Nat × AObj × AObj)) (d : Option Tmp) (v : AV) (s : AState) : (act od d v s).n = s.n := by
  unfold act; split <;> simp [put_n, setObj_n]
theorem act_env_ne (od : Option (Nat × AObj × AObj)) {d : Option Tmp} (v : AV) (s : AState) {t : Nat} (h : ∀ e, d = some e → e ≠ t) : (act od d v s).env t = s.env t := by
  unfold act; split
  · exact put_env_ne s v h
  · rw [put_env_ne _ v h, setObj_env]
theorem setObj_hlen (s : AState) (r : Nat) (x : AObj) : (s.setObj r x).H.length = s.H.length := by unfold AState.setObj; split <;> simp
theorem act_hlen (od : Option (Nat × AObj × AObj)) (d : Option Tmp) (v : AV) (s : AState) : (act od d v s).H.length = s.H.length := by
  unfold act; split <;> simp [put_H, setObj_hlen]

theorem setObj_comm (s : AState) {r q : Nat} (x y : AObj) (h : r ≠ q) : (s.setObj r x).setObj q y = (s.setObj q y).setObj r x := by
  unfold AState.setObj
  by_cases h1 : r < s.b <;> by_cases h2 : q < s.b <;> simp [h1, h2]
  · exact List.set_comm _ _ h
  · exact List.set_comm _ _ (by omega)

theorem put_put_comm (s : AState) {d e : Option Tmp} (v u : AV) (h : ∀ t, d = some t → e ≠ some t) : (s.put d v).put e u = (s.put e u).put d v := by
  cases d with
  | none => rfl
  | some d => cases e with
    | none => rfl
    | some e =>
      have hne : d ≠ e := fun hh => h d rfl (by rw [hh])
      simp only [AState.put, AState.mk.injEq, and_true]
      funext t
      simp only [upd]
      by_cases h1 : t = d <;> by_cases h2 : t = e <;> simp_all

theorem put_setObj (s : AState) (d : Option Tmp) (v : AV) (r : Nat) (x : AObj) : (s.put d v).setObj r x = (s.setObj r x).put d v := by
  cases d with
  | none => rfl
  | some d => by_cases h : r < s.b <;> simp [AState.put, AState.setObj, h]

theorem act_comm {od oe : Option (Nat × AObj × AObj)} {d e : Option Tmp} (v u : AV) (s : AState) (h : ∀ t, d = some t → e ≠ some t) (ho : ∀ r X y q Z z, od = some (r, X, y) → oe = some (q, Z, z) → r ≠ q) :
    act oe e u (act od d v s) = act od d v (act oe e u s) := by
  cases od with
  | none => cases oe with
    | none => exact put_put_comm s v u h
    | some q =>
      obtain ⟨q, Z, z⟩ := q
      simp only [act, put_setObj]
      exact put_put_comm _ v u h
  | some r =>
    obtain ⟨r, X, y⟩ := r
    cases oe with
    | none =>
      simp only [act, put_setObj]
      exact put_put_comm _ v u h
    | some q =>
      obtain ⟨q, Z, z⟩ := q
      simp only [act, put_setObj]
      rw [setObj_comm s y z (ho _ _ _ _ _ _ rfl rfl)]
      exact put_put_comm _ v u h

/-- TWO STEPS CHANGE PLACES. -/
theorem swap {kx ky : Nat} {x y : Oper} {s s1 s2 : AState} (hb : s.b = s.H.length) (hap : x.apart ops y = true) (hf : freeC (cls C x) (cls C y) = true) (h1 : St P C ops kx x s s1) (h2 : St P C ops ky y s1 s2) :
    ∃ s1', St P C ops ky y s s1' ∧ St P C ops kx x s1' s2 := by
  have hxz : cls C x ≠ .z := fun h => by rw [h] at hf; simp [freeC] at hf
  have hyz : cls C y ≠ .z := fun h => by rw [h] at hf; revert hf; cases cls C x <;> simp [freeC]
  obtain ⟨ox, vx, hx⟩ := st_yl hxz h1
  obtain ⟨oy, vy, hy⟩ := st_yl hyz h2
  obtain ⟨a1, a2, a3⟩ := Oper.apart_spec hap
  have hd1 : ∀ (t : Nat), t ∈ y.looksAt ops → ∀ e, x.dst = some e → e ≠ t := fun t ht e he hh => a1 e he (hh ▸ ht)
  have hd2 : ∀ (t : Nat), t ∈ x.looksAt ops → ∀ e, y.dst = some e → e ≠ t := fun t ht e he hh => a3 e he (hh ▸ ht)
  have hs1obj : ∀ r X y', ox = some (r, X, y') → s1.obj = fun q => if q = r then some y' else s.obj q := by
    intro r X y' hr
    rw [hx.to, hr]
    simp only [act, put_obj]
    exact obj_setObj hb (hx.at_ r X y' hr)
  have hs1none : ox = none → s1.obj = s.obj := fun hn => by rw [hx.to, hn]; simp only [act, put_obj]
  -- the two objects are not one
  have hne : ∀ r X y' q Z z, ox = some (r, X, y') → oy = some (q, Z, z) → r ≠ q := by
    intro r X y' q Z z hr hq hrq
    subst hrq
    have e1 := hy.at_ _ _ _ hq
    rw [hs1obj _ _ _ hr] at e1
    simp only [if_true, Option.some.injEq] at e1
    cases hcx : cls C x with
    | t => rw [hx.none_ (.inl hcx)] at hr; cases hr
    | q => rw [hx.none_ (.inr hcx)] at hr; cases hr
    | z => exact hxz hcx
    | a =>
      cases hcy : cls C y with
      | t => rw [hy.none_ (.inl hcy)] at hq; cases hq
      | a =>
        have h3 := (hx.new_ hcx _ _ _ hr).2
        have h4 := (hy.new_ hcy _ _ _ hq).1
        exact h3 (e1.trans h4)
      | _ => rw [hcx, hcy] at hf; simp [freeC] at hf
    | w =>
      cases hcy : cls C y with
      | t => rw [hy.none_ (.inl hcy)] at hq; cases hq
      | _ => rw [hcx, hcy] at hf; simp [freeC] at hf
  have hy1 : ∀ r X y', oy = some (r, X, y') → s.obj r = some X := by
    intro r X y' hr
    have e1 := hy.at_ _ _ _ hr
    cases hox : ox with
    | none => rw [hs1none hox] at e1; exact e1
    | some q =>
      obtain ⟨q, Z, z⟩ := q
      rw [hs1obj _ _ _ hox] at e1
      simpa [Ne.symm (hne _ _ _ _ _ _ hox hr)] using e1
  have hstep1 : St P C ops ky y s (act oy y.dst vy s) := by
    refine hy.stab s ?_ ?_ hy1 ?_
    · rw [hx.to, act_b]
    · intro t ht; rw [hx.to, act_env_ne _ _ _ (hd1 t ht)]
    · intro hcy
      have hox : ox = none := by
        cases hcx : cls C x with
        | t => exact hx.none_ (.inl hcx)
        | q => exact hx.none_ (.inr hcx)
        | _ => rw [hcx, hcy] at hf; simp [freeC] at hf
      intro r X hr _
      rw [hs1none hox] at hr; exact hr
  have hs1'obj : ∀ r X y', oy = some (r, X, y') → (act oy y.dst vy s).obj = fun q => if q = r then some y' else s.obj q := by
    intro r X y' hr
    rw [hr]
    simp only [act, put_obj]
    exact obj_setObj hb (hy1 r X y' hr)
  have hstep2 := hx.stab (act oy y.dst vy s) (act_b _ _ _ _) (fun t ht => act_env_ne _ _ _ (hd2 t ht)) (by
    intro r X y' hr
    cases hoy : oy with
    | none => simp only [act, put_obj]; exact hx.at_ _ _ _ hr
    | some q =>
      obtain ⟨q, Z, z⟩ := q
      rw [← hoy, hs1'obj _ _ _ hoy]
      simp only [hne _ _ _ _ _ _ hr hoy, if_false]
      exact hx.at_ _ _ _ hr) (by
    intro hcx
    cases hoy : oy with
    | none => intro r X hr _; simp only [act, put_obj]; exact hr
    | some q =>
      obtain ⟨q, Z, z⟩ := q
      intro r X hr hnd
      rw [← hoy, hs1'obj _ _ _ hoy]
      have hZ : Z = .dead := by
        cases hcy : cls C y with
        | t => rw [hy.none_ (.inl hcy)] at hoy; cases hoy
        | q => rw [hy.none_ (.inr hcy)] at hoy; cases hoy
        | a => exact (hy.new_ hcy _ _ _ hoy).1
        | w => rw [hcx, hcy] at hf; simp [freeC] at hf
        | z => exact absurd hcy hyz
      have : r ≠ q := by
        intro hh; subst hh
        have := hy1 _ _ _ hoy
        rw [hr, hZ] at this
        exact hnd (Option.some.inj this)
      simp only [this, if_false]; exact hr)
  refine ⟨_, hstep1, ?_⟩
  have := act_comm vx vy s a2 hne
  rw [← hx.to, ← hy.to] at this
  rw [this]
  exact hstep2

end
end Go.Ab

/- Regions whose order the world draws, third part: every order ends where the text's does. Condition: the executor's table of types is the program's. -/
set_option linter.unusedSimpArgs false
namespace Go.Ab
open Go.RowKit (Below)

section
variable {P : Program} {C : Cfg} {ops : Array Oper} {V : View} {w : World} {s : AState} {a : Act} {o : Oper}

theorem new_box_at (hr : RelW V w s) {k : Nat} (ho : s.obj k = some .dead) (hk : s.b ≤ k) {cells : Array Value} {cs : List AV} (hc : RepL V cells.toList cs) (ty : TypeId) :
    ∃ V', V.Le V' ∧ V'.loc k 0 = some (some w.heap.size, 0) ∧ RelW V' (w.alloc (.cells cells ty)) (s.setObj k (.box cs)) := by
  obtain ⟨V', h1, h2, h3⟩ := hr.inv.newObj k (.inr ho) (.box cs) (.cells cells ty) 0 0 (by
    intro V' hV hb hl _ hi
    refine ⟨⟨w.heap.size, 0, cells, ty, hl, heap_alloc_new w _, by rw [hb]; exact hr.inv.base, by simpa using hc.1, fun i hi => ?_, hi⟩, by simp [own, hl]⟩
    have := (hc.mono hV).2 i hi
    simpa [List.getD_eq_getElem?_getD] using this)
  exact ⟨V', h1, h2, hr.setObj ho h3 (fun h => by omega)⟩

theorem effD_sound (hC : CfgOK P C) (hr : Rel V a w s) {k : Nat} {out : Out} (h : effD C k o s = some out) (hc : out.c) (hok : operOK o = true) : OpSound P V a w s o out := by
  have hk : ∀ x ∈ o.op.operands.toList, opndOK x = true := List.all_eq_true.1 hok
  unfold effD at h
  split at h
  · rename_i t hop
    split at h
    case h_2 => cases h
    rename_i l hT ho
    simp only [Option.some.injEq] at h; subst h
    obtain ⟨z, hz, hzr⟩ := (hC _ _ hT).run_zero w
    obtain ⟨V', h1, h2, h3⟩ := new_box_at hr.toW ho hc ((hzr V).cellsL (hC _ _ hT).solid) t
    refine ⟨_, _, V', ?_, h1, below_alloc w _ hr.inv.base, h3, setObj_env _ _ _, setObj_n _ _ _, setObj_b _ _ _, .inl ⟨_, rfl, .bptr _ 0 _ _ h2⟩⟩
    simp only [execOp, hop, Instr.alloc, newVar, Go.newRow, Sem.run_bind, hz, Result.andThen_ok, run_newObj, Sem.run_pure, World.alloc_eq]
  · rename_i t x hop
    split at h
    case h_2 => cases h
    rename_i ho
    simp only [Option.some.injEq] at h; subst h
    obtain ⟨V', h1, h2, h3⟩ := new_box_at hr.toW ho hc.1 ((ev_rep hr x (hk x (by simp [hop, Op.operands]))).cellsL hc.2) t
    refine ⟨_, _, V', ?_, h1, below_alloc w _ hr.inv.base, h3, setObj_env _ _ _, setObj_n _ _ _, setObj_b _ _ _, .inl ⟨_, rfl, .bptr _ 0 _ _ h2⟩⟩
    simp only [execOp, hop, Instr.box, newVar, Go.newRow, Sem.run_bind, Result.andThen_ok, run_newObj, Sem.run_pure, World.alloc_eq]
  · exact eff_sound hC hr h hc hok

theorem xopD_sound (hC : CfgOK P C) (hr : Rel V a w s) (hok : operOK o = true) (hd : dstOK s.n o = true) {k : Nat} {K : AState → Prop} {K' : Act → World → Prop} {Q : Exit → Act → World → Prop}
    (h : xopD P C k o K s) (hK : ∀ V' a' w' s', V.Le V' → Below V.base w w' → Rel V' a' w' s' → s'.n = s.n → s'.b = s.b → K s' → K' a' w') : o.wp P a w K' Q := by
  by_cases hcall : ∃ f args ts, o.op = .call { callee := .value f, args := args, argTypes := ts }
  · obtain ⟨f, args, ts, hop⟩ := hcall
    have hx : xop P C o K s := by
      unfold xopD at h
      unfold xop
      simp only [hop] at h ⊢
      split at h
      case h_2 => cases h
      rename_i g hg
      obtain ⟨r, as, h1, h2, h3⟩ := h
      simp only [hg]
      exact callK_p h1 h2 h3
    exact xop_sound hC hr hok hd callK_fn hx hK
  · have h1 : match effD C k o s with
        | some ⟨c, v, s'⟩ => c ∧ K (s'.put o.dst v)
        | none => False := by
      unfold xopD at h
      split at h
      · rename_i f args ts hop; exact absurd ⟨f, args, ts, hop⟩ hcall
      · exact h
    split at h1
    case h_2 => cases h1
    rename_i c v s' heff
    obtain ⟨hc, hKs⟩ := h1
    obtain ⟨nx, w', V', g1, g2, g3, g4, g5, g6, g7, g8⟩ := effD_sound hC hr heff hc hok
    have hrel : Rel V' a w' s' := hr.of_w g2 g4 g5 g6
    unfold Oper.wp
    rw [g1]
    have hn : ∀ x, (s'.put o.dst x).n = s.n := fun x => by rw [← g6]; cases o.dst <;> rfl
    have hbb : ∀ x, (s'.put o.dst x).b = s.b := fun x => by rw [← g7]; cases o.dst <;> rfl
    rcases g8 with ⟨u, rfl, hu⟩ | ⟨rfl, hv⟩
    · rw [Oper.upon_value]
      exact hK V' _ w' _ g2 g3 (hrel.put hu (fun d hd' => by rw [g6]; exact dst_lt hd d hd')) (hn _) (hbb _) hKs
    · rw [Oper.upon_skip]
      simp only at hv
      subst hv
      exact hK V' _ w' _ g2 g3 (hrel.put (.any _) (fun d hd' => by rw [g6]; exact dst_lt hd d hd')) (hn _) (hbb _) hKs

theorem st_sound (hC : CfgOK P C) (hr : Rel V a w s) {i : Nat} (hi : ops[i]? = some o) (hok : operOK o = true) (hd : dstOK s.n o = true) {k : Nat} {s' : AState} {K' : Act → World → Prop} {Q : Exit → Act → World → Prop}
    (h : St P C ops k o s s') (hK : ∀ V' a' w', V.Le V' → Below V.base w w' → Rel V' a' w' s' → s'.n = s.n → s'.b = s.b → K' a' w') : wpOp P ops Q i K' a w := by
  have hwant : ∀ t want b, guardOf ops o = some (some t, want) → s.env t = .bool b → Region.wanted o (yielded ops a.tmps) = (b == want) := by
    intro t want b h1 h2
    unfold guardOf at h1
    cases hgd : o.guard with
    | none => rw [hgd] at h1; simp at h1
    | some gw =>
      obtain ⟨j, wt⟩ := gw
      rw [hgd] at h1
      simp only [Option.map_some, Option.some.injEq, Prod.mk.injEq] at h1
      obtain ⟨h3, rfl⟩ := h1
      have h4 := hr.env t
      rw [h2] at h4
      generalize hv : a.tmps.getD t undef = v at h4
      cases h4
      have h5 : a.tmps[t]? = some (.bool b) := by
        rw [Array.getD_eq_getD_getElem?] at hv
        cases ht : a.tmps[t]? with
        | none => rw [ht] at hv; simp [undef] at hv
        | some y => rw [ht] at hv; simp at hv; rw [hv]
      simp only [Region.wanted, hgd, yielded, h3, Option.bind_some, h5]
      cases b <;> cases wt <;> rfl
  have hskip : ∀ t want, guardOf ops o = some (some t, want) → s.env t = .tup [] → Region.wanted o (yielded ops a.tmps) = false := by
    intro t want h1 h2
    unfold guardOf at h1
    cases hgd : o.guard with
    | none => rw [hgd] at h1; simp at h1
    | some gw =>
      obtain ⟨j, wt⟩ := gw
      rw [hgd] at h1
      simp only [Option.map_some, Option.some.injEq, Prod.mk.injEq] at h1
      obtain ⟨h3, rfl⟩ := h1
      have h4 := hr.env t
      rw [h2] at h4
      generalize hv : a.tmps.getD t undef = v at h4
      cases h4
      rename_i cs hl hh
      have h5 : a.tmps[t]? = some (.tuple cs) ∨ a.tmps[t]? = none := by
        rw [Array.getD_eq_getD_getElem?] at hv
        cases ht : a.tmps[t]? with
        | none => exact .inr rfl
        | some y => rw [ht] at hv; simp at hv; rw [hv]; exact .inl rfl
      simp only [Region.wanted, hgd, yielded, h3, Option.bind_some]
      rcases h5 with h5 | h5 <;> simp [h5]
  unfold wpOp
  simp only [hi]
  unfold St xguardD at h
  split at h
  · rename_i hgd
    have hno : o.guard = none := by
      unfold guardOf at hgd
      simpa using hgd
    rw [if_pos (by simp [Region.wanted, hno])]
    exact .inl (xopD_sound hC hr hok hd h fun V' a' w' s1 h1 h2 h3 h4 h5 h6 => hK V' a' w' h1 h2 (h6 ▸ h3) (h6 ▸ h4) (h6 ▸ h5))
  · rename_i t want hgd
    split at h
    case h_3 => cases h
    · rename_i b hev
      have hw := hwant t want b hgd hev
      split at h
      · rename_i hbw
        rw [if_pos (by rw [hw]; simp [hbw])]
        exact .inl (xopD_sound hC hr hok hd h fun V' a' w' s1 h1 h2 h3 h4 h5 h6 => hK V' a' w' h1 h2 (h6 ▸ h3) (h6 ▸ h4) (h6 ▸ h5))
      · rename_i hbw
        rw [if_neg (by rw [hw]; simp [hbw])]
        subst h
        exact hK V _ w (.refl V) (.refl _ _) (hr.put (rep_undef V) (fun d hd' => dst_lt hd d hd')) (put_n _ _ _) (put_b _ _ _)
    · rename_i hev
      rw [if_neg (by rw [hskip t want hgd hev]; simp)]
      subst h
      exact hK V _ w (.refl V) (.refl _ _) (hr.put (rep_undef V) (fun d hd' => dst_lt hd d hd')) (put_n _ _ _) (put_b _ _ _)
  · cases h

/-- A run along a list of operations. -/
def Run (P : Program) (C : Cfg) (ops : Array Oper) (num : Nat → Nat) : List Nat → AState → AState → Prop
  | [], s, s' => s = s'
  | i :: l, s, s' => ∃ o s1, ops[i]? = some o ∧ St P C ops (num i) o s s1 ∧ Run P C ops num l s1 s'

def freeOps (C : Cfg) (ops : Array Oper) (x y : Oper) : Bool := freeC (cls C x) (cls C y) && x.apart ops y

theorem bubble {num : Nat → Nat} {i : Nat} {o : Oper} (hi : ops[i]? = some o) : ∀ (pre : List Nat) {post : List Nat} {s s' : AState}, s.b = s.H.length → (∀ j ∈ pre, ∀ oj, ops[j]? = some oj → freeOps C ops oj o = true) →
    Run P C ops num (pre ++ i :: post) s s' → ∃ s1, St P C ops (num i) o s s1 ∧ Run P C ops num (pre ++ post) s1 s'
  | [], post, s, s', hb, hf, ⟨o', s1, h1, h2, h3⟩ => by
    rw [hi] at h1; cases h1
    exact ⟨s1, h2, h3⟩
  | j :: pre, post, s, s', hb, hf, ⟨oj, s1, h1, h2, h3⟩ => by
    have hfj := hf j (List.mem_cons_self) oj h1
    simp only [freeOps, Bool.and_eq_true] at hfj
    have hz : cls C oj ≠ .z := fun h => by rw [h] at hfj; simp [freeC] at hfj
    obtain ⟨od, v, hy⟩ := st_yl hz h2
    have hb1 : s1.b = s1.H.length := by rw [hy.to, act_b, act_hlen]; exact hb
    obtain ⟨s2, g1, g2⟩ := bubble hi pre hb1 (fun j' hj' => hf j' (List.mem_cons_of_mem _ hj')) h3
    obtain ⟨s1', k1, k2⟩ := swap hb hfj.2 hfj.1 h2 g1
    exact ⟨s1', k1, oj, s2, h1, k2, g2⟩

/-- Whom an operation stands behind, as a number's bits. -/
def mask (o : Oper) (acc : List Nat) : Nat := o.after.toList.foldr (fun e m => if Region.binds .any e then (2 ^ e.on ||| acc.getD e.on 0) ||| m else m) 0
def ancs : List Oper → List Nat → List Nat
  | [], acc => acc
  | o :: r, acc => ancs r (acc ++ [mask o acc])

theorem mask_bit {o : Oper} {acc : List Nat} {j : Nat} (h : (mask o acc).testBit j = true) : ∃ e ∈ o.after.toList, Region.binds .any e = true ∧ (e.on = j ∨ (acc.getD e.on 0).testBit j = true) := by
  unfold mask at h
  generalize o.after.toList = es at h
  induction es with
  | nil => simp at h
  | cons e es ih =>
    simp only [List.foldr_cons] at h
    split at h
    · rename_i hb
      simp only [Nat.testBit_or, Bool.or_eq_true, Nat.testBit_two_pow, decide_eq_true_eq] at h
      rcases h with (h | h) | h
      · exact ⟨e, List.mem_cons_self, hb, .inl h⟩
      · exact ⟨e, List.mem_cons_self, hb, .inr h⟩
      · obtain ⟨e', h1, h2⟩ := ih h; exact ⟨e', List.mem_cons_of_mem _ h1, h2⟩
    · obtain ⟨e', h1, h2⟩ := ih h; exact ⟨e', List.mem_cons_of_mem _ h1, h2⟩

theorem ancs_pre : ∀ (l : List Oper) (acc : List Nat) (i : Nat), i < acc.length → (ancs l acc).getD i 0 = acc.getD i 0
  | [], acc, i, h => rfl
  | o :: l, acc, i, h => by
    rw [ancs, ancs_pre l _ i (by simp; omega)]
    simp [List.getD_eq_getElem?_getD, List.getElem?_append, h]

theorem ancs_bit {o : Oper} {j : Nat} : ∀ (l : List Oper) (acc : List Nat) (i : Nat), l[i]? = some o → ((ancs l acc).getD (acc.length + i) 0).testBit j = true →
    (∀ e ∈ o.after.toList, Region.binds .any e = true → e.on < acc.length + i) → ∃ e ∈ o.after.toList, Region.binds .any e = true ∧ (e.on = j ∨ ((ancs l acc).getD e.on 0).testBit j = true)
  | [], acc, i, h, _, _ => by simp at h
  | o' :: l, acc, 0, h, hb, hlt => by
    simp only [List.getElem?_cons_zero, Option.some.injEq] at h
    subst h
    rw [ancs, Nat.add_zero, ancs_pre l _ _ (by simp)] at hb
    simp only [List.getD_eq_getElem?_getD, List.getElem?_append, Nat.lt_irrefl, if_false, Nat.sub_self, List.getElem?_cons_zero, Option.getD_some] at hb
    obtain ⟨e, h1, h2, h3⟩ := mask_bit hb
    refine ⟨e, h1, h2, h3.imp id fun h3 => ?_⟩
    have := hlt e h1 h2
    rw [ancs, ancs_pre l _ _ (by simp; omega)]
    simpa [List.getD_eq_getElem?_getD, List.getElem?_append, show e.on < acc.length by omega] using h3
  | o' :: l, acc, i + 1, h, hb, hlt => by
    have h' : l[i]? = some o := by simpa using h
    rw [ancs] at hb ⊢
    have := ancs_bit l (acc ++ [mask o' acc]) i h' (by simpa [Nat.add_assoc, Nat.add_comm 1 i] using hb) (fun e h1 h2 => by have := hlt e h1 h2; simp; omega)
    exact this

def chk (C : Cfg) (ops : Array Oper) : Bool :=
  let A := ancs ops.toList []
  (List.range ops.size).all fun i => match ops[i]? with
    | none => true
    | some o => (o.after.toList.all fun e => !Region.binds .any e || decide (e.on < i)) && (List.range i).all fun j => (A.getD i 0).testBit j || match ops[j]? with
      | some oj => freeOps C ops oj o
      | none => true

theorem chk_spec (h : chk C ops = true) {i : Nat} {o : Oper} (hi : ops[i]? = some o) : (∀ e ∈ o.after.toList, Region.binds .any e = true → e.on < i) ∧
    ∀ j, j < i → ((ancs ops.toList []).getD i 0).testBit j = true ∨ ∀ oj, ops[j]? = some oj → freeOps C ops oj o = true := by
  have hlt : i < ops.size := (Array.getElem?_eq_some_iff.1 hi).1
  simp only [chk, List.all_eq_true, List.mem_range] at h
  have h1 := h i hlt
  rw [hi] at h1
  simp only [Bool.and_eq_true, List.all_eq_true, List.mem_range, Bool.or_eq_true, Bool.not_eq_true', decide_eq_true_eq] at h1
  refine ⟨fun e he hb => (h1.1 e he).resolve_left (by simp [hb]), fun j hj => (h1.2 j hj).imp id fun h2 oj hoj => by rw [hoj] at h2; exact h2⟩

/-- What is listed holds all behind which it stands. -/
def Closed (ops : Array Oper) (listed : Array Bool) : Prop := ∀ i j, listed.getD i true = true → i < ops.size → ((ancs ops.toList []).getD i 0).testBit j = true → listed.getD j false = true

def todo (ops : Array Oper) (listed : Array Bool) : List Nat := (List.range ops.size).filter fun i => !listed.getD i true

theorem mem_todo {listed : Array Bool} {i : Nat} : i ∈ todo ops listed ↔ i < ops.size ∧ listed.getD i true = false := by simp [todo]

theorem todo_sorted (listed : Array Bool) : (todo ops listed).Pairwise (· < ·) := List.Pairwise.filter _ List.pairwise_lt_range

theorem todo_set {listed : Array Bool} {i : Nat} (hsz : listed.size = ops.size) (hi : i < ops.size) : todo ops (listed.setIfInBounds i true) = (todo ops listed).filter (· != i) := by
  unfold todo
  rw [List.filter_filter]
  refine List.filter_congr fun j hj => ?_
  by_cases hij : i = j
  · subst hij; simp [hsz, hi]
  · rw [getD_set_ne true hij]
    have : (j != i) = true := by simp [Ne.symm hij]
    rw [this, Bool.true_and]

theorem filter_split {pre post : List Nat} {i : Nat} (h : (pre ++ i :: post).Pairwise (· < ·)) : (pre ++ i :: post).filter (· != i) = pre ++ post := by
  rw [List.pairwise_append] at h
  obtain ⟨h1, h2, h3⟩ := h
  rw [List.pairwise_cons] at h2
  rw [List.filter_append, List.filter_cons]
  have e1 : pre.filter (· != i) = pre := List.filter_eq_self.2 fun x hx => by
    have := h3 x hx i List.mem_cons_self; simp; omega
  have e2 : post.filter (· != i) = post := List.filter_eq_self.2 fun x hx => by
    have := h2.1 x hx; simp; omega
  rw [e1, e2]; simp

theorem closed_set {listed : Array Bool} {i : Nat} (hc : Closed ops listed) (hk : chk C ops = true) (hsz : listed.size = ops.size) (hr : i ∈ Region.ready .any ops listed) : Closed ops (listed.setIfInBounds i true) := by
  intro k j hk1 hk2 hbit
  obtain ⟨h0, o, ho, hall⟩ := mem_ready.1 hr
  by_cases hki : k = i
  · subst hki
    have hlt := (chk_spec hk ho).1
    obtain ⟨e, h1, h2, h3⟩ := ancs_bit ops.toList [] k (by simpa using ho) (by simpa using hbit) (by simpa using hlt)
    have hl := hall e (Array.mem_toList_iff.1 h1) h2
    rcases h3 with rfl | h3
    · exact getD_set_true hl
    · have helt : e.on < ops.size := by have := hlt e h1 h2; omega
      refine getD_set_true (hc e.on j ?_ helt h3)
      have : e.on < listed.size := by omega
      simpa [this] using hl
  · refine getD_set_true (hc k j ?_ hk2 hbit)
    rwa [getD_set_ne true (Ne.symm hki)] at hk1

theorem ready_free {listed : Array Bool} {i j : Nat} {o oj : Oper} (hc : Closed ops listed) (hk : chk C ops = true) (hsz : listed.size = ops.size) (hr : i ∈ Region.ready .any ops listed) (hi : ops[i]? = some o) (hj : ops[j]? = some oj)
    (hji : j < i) (hun : listed.getD j true = false) : freeOps C ops oj o = true := by
  obtain ⟨h1, h2⟩ := chk_spec hk hi
  rcases h2 j hji with hb | hf
  · exfalso
    obtain ⟨_, o', ho', hall⟩ := mem_ready.1 hr
    rw [hi] at ho'; cases ho'
    obtain ⟨e, h3, h4, h5⟩ := ancs_bit ops.toList [] i (by simpa using hi) (by simpa using hb) (by simpa using h1)
    have hl := hall e (Array.mem_toList_iff.1 h3) h4
    have hlt : i < ops.size := (Array.getElem?_eq_some_iff.1 hi).1
    have helt : e.on < listed.size := by have := h1 e h3 h4; omega
    have hjl : listed.getD j false = true := by
      rcases h5 with rfl | h5
      · exact hl
      · exact hc e.on j (by simpa [helt] using hl) (by omega) h5
    have hjs : j < listed.size := by omega
    simp [hjs] at hun hjl
    rw [hun] at hjl; cases hjl
  · exact hf oj hj

/-- The first that is not listed can be taken. -/
theorem ready_of_todo {listed : Array Bool} {i : Nat} {l : List Nat} (hk : chk C ops = true) (hsz : listed.size = ops.size) (h : todo ops listed = i :: l) : i ∈ Region.ready .any ops listed := by
  have hm : i ∈ todo ops listed := by rw [h]; exact List.mem_cons_self
  obtain ⟨h1, h2⟩ := mem_todo.1 hm
  have ho : ops[i]? = some ops[i] := Array.getElem?_eq_getElem h1
  refine mem_ready.2 ⟨h2, _, ho, fun e he hb => ?_⟩
  have hlt := (chk_spec hk ho).1 e (Array.mem_toList_iff.2 he) hb
  have hs := todo_sorted (ops := ops) listed
  rw [h, List.pairwise_cons] at hs
  cases hl : listed.getD e.on true with
  | true =>
    have : e.on < listed.size := by omega
    simpa [this] using hl
  | false =>
    have hme : e.on ∈ todo ops listed := mem_todo.2 ⟨by omega, hl⟩
    rw [h] at hme
    rcases List.mem_cons.1 hme with h3 | h3
    · omega
    · have := hs.1 _ h3; omega

theorem wpAny_run (hC : CfgOK P C) (hk : chk C ops = true) {n b : Nat} {num : Nat → Nat} (hok : ∀ o ∈ ops.toList, operOK o = true ∧ dstOK n o = true) {Q : Exit → AState → Prop} {V0 : View} {w0 : World} :
    ∀ (fuel : Nat) {listed : Array Bool} {V : View} {a : Act} {w : World} {s s' : AState}, (todo ops listed).length ≤ fuel → listed.size = ops.size → Closed ops listed → s.n = n → s.b = b → Rel V a w s → V0.LeB b V → Below V0.base w0 w →
      Run P C ops num (todo ops listed) s s' → Q .normal s' → wpAny P .any ops (Post V0 w0 n b Q) fuel listed a w := by
  intro fuel
  have hdone : ∀ {listed : Array Bool}, listed.size = ops.size → (Region.ready .any ops listed = [] → todo ops listed = []) := by
    intro listed hsz hr
    cases ht : todo ops listed with
    | nil => rfl
    | cons i l => have := ready_of_todo hk hsz ht; rw [hr] at this; cases this
  induction fuel with
  | zero =>
    intro listed V a w s s' hf hsz hc hn hb hr hV hB hrun hq
    have ht : todo ops listed = [] := List.eq_nil_of_length_eq_zero (by omega)
    rw [ht] at hrun
    simp only [Run] at hrun
    subst hrun
    refine ⟨?_, V, s, hV, hB, hr, hn, hb, hq⟩
    cases hrd : Region.ready .any ops listed with
    | nil => rfl
    | cons i l =>
      obtain ⟨h1, o, ho, _⟩ := mem_ready.1 (show i ∈ Region.ready .any ops listed by rw [hrd]; exact List.mem_cons_self)
      have : i ∈ todo ops listed := mem_todo.2 ⟨(Array.getElem?_eq_some_iff.1 ho).1, h1⟩
      rw [ht] at this; cases this
  | succ fuel ih =>
    intro listed V a w s s' hf hsz hc hn hb hr hV hB hrun hq
    refine ⟨fun hrd => ?_, fun i hi => ?_⟩
    · have ht := hdone hsz hrd
      rw [ht] at hrun
      simp only [Run] at hrun
      subst hrun
      exact ⟨V, s, hV, hB, hr, hn, hb, hq⟩
    · obtain ⟨h1, o, ho, hall⟩ := mem_ready.1 hi
      have hlt : i < ops.size := (Array.getElem?_eq_some_iff.1 ho).1
      have hm : i ∈ todo ops listed := mem_todo.2 ⟨hlt, h1⟩
      obtain ⟨pre, post, hsp⟩ := List.append_of_mem hm
      have hsorted := todo_sorted (ops := ops) listed
      rw [hsp] at hsorted
      have hset : todo ops (listed.setIfInBounds i true) = pre ++ post := by rw [todo_set hsz hlt, hsp, filter_split hsorted]
      rw [hsp] at hrun
      have hpre : ∀ j ∈ pre, ∀ oj, ops[j]? = some oj → freeOps C ops oj o = true := by
        intro j hj oj hoj
        have hjm : j ∈ todo ops listed := by rw [hsp]; exact List.mem_append_left _ hj
        rw [List.pairwise_append] at hsorted
        exact ready_free hc hk hsz hi ho hoj (hsorted.2.2 j hj i List.mem_cons_self) (mem_todo.1 hjm).2
      obtain ⟨s1, g1, g2⟩ := bubble ho pre (hr.hb) hpre hrun
      have hoo := hok o (Array.mem_toList_iff.2 (Array.mem_of_getElem? ho))
      refine st_sound hC hr ho hoo.1 (by rw [hn]; exact hoo.2) g1 fun V' a' w' k1 k2 k3 k4 k5 => ?_
      refine ih ?_ (by simpa using hsz) (closed_set hc hk hsz hi) (by rw [k4, hn]) (by rw [k5, hb]) k3 (hV.trans (k1.toB b)) (hB.trans (by rw [← hV.base]; exact k2)) (by rw [hset]; exact g2) hq
      rw [hset]
      rw [hsp] at hf
      simp only [List.length_append, List.length_cons] at hf ⊢
      omega

end
end Go.Ab
