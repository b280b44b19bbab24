/- Regions whose order the world draws: whatever the order, the end is that of the text's order. Condition: the executor's table of types is the program's; operations that the edges leave open do not meet. -/
import Derived.Test.YtcpfjabjonpdaaaAbM
import Derived.Orders
set_option linter.unusedSimpArgs false
namespace Go.Ab
open Go.RowKit (Below)

/-- As 'eff', a new variable in a place that is reserved. -/
def effD (C : Cfg) (k : Nat) (o : Oper) (s : AState) : Option Out :=
  match o.op with
  | .alloc t => match C.ty t, s.obj k with
    | some l, some .dead => some ⟨s.b ≤ k, .bptr k 0, s.setObj k (.box (cellsOf l.zero))⟩
    | _, _ => none
  | .box _ x => match s.obj k with
    | some .dead => some ⟨s.b ≤ k ∧ (s.ev x).solid = true, .bptr k 0, s.setObj k (.box (cellsOf (s.ev x)))⟩
    | _ => none
  | _ => eff C o s

def isAl (o : Oper) : Bool := match o.op with | .alloc _ | .box _ _ => true | _ => false
def nxt (k : Nat) (o : Oper) : Nat := if isAl o then k + 1 else k

def xopD (P : Program) (C : Cfg) (k : Nat) (o : Oper) (K : AState → Prop) (s : AState) : Prop :=
  match o.op with
  | .call { callee := .value f, args := args, .. } => match s.ev f with
    | .fn g => ∃ r args', PCalls P g args' r ∧ (args' = args.toList.map s.ev ∨ args' = AV.normL (args.toList.map s.ev)) ∧ K (s.put o.dst r)
    | _ => False
  | _ => match effD C k o s with
    | some ⟨c, v, s'⟩ => c ∧ K (s'.put o.dst v)
    | none => False

def xguardD (P : Program) (C : Cfg) (ops : Array Oper) (k : Nat) (o : Oper) (K : AState → Prop) (s : AState) : Prop :=
  match guardOf ops o with
  | none => xopD P C k o K s
  | some (some t, want) => match s.env t with
    | .bool b => if b = want then xopD P C k o K s else K (s.put o.dst (.tup []))
    | .tup [] => K (s.put o.dst (.tup []))
    | _ => False
  | some (none, _) => False

def xopsD (P : Program) (C : Cfg) (ops : Array Oper) : Nat → List Oper → (AState → Prop) → AState → Prop
  | _, [], K, s => K s
  | k, o :: rest, K, s => xguardD P C ops k o (xopsD P C ops (nxt k o) rest K) s

/-- One step. -/
def St (P : Program) (C : Cfg) (ops : Array Oper) (k : Nat) (o : Oper) (s s' : AState) : Prop := xguardD P C ops k o (· = s') s

section
variable {P : Program} {C : Cfg} {ops : Array Oper}

theorem xopD_ex {k : Nat} {o : Oper} {K : AState → Prop} {s : AState} (h : xopD P C k o K s) : ∃ s', xopD P C k o (· = s') s ∧ K s' := by
  unfold xopD at h ⊢
  split at h
  · split at h
    case h_2 => cases h
    obtain ⟨r, as, h1, h2, h3⟩ := h
    exact ⟨_, ⟨r, as, h1, h2, rfl⟩, h3⟩
  · split at h
    case h_2 => cases h
    exact ⟨_, ⟨h.1, rfl⟩, h.2⟩

theorem xguardD_ex {k : Nat} {o : Oper} {K : AState → Prop} {s : AState} (h : xguardD P C ops k o K s) : ∃ s', St P C ops k o s s' ∧ K s' := by
  unfold St
  unfold xguardD at h ⊢
  split at h
  · exact xopD_ex h
  · split at h
    case h_3 => cases h
    · rename_i hb
      split at h
      · rename_i hw; simp only [hb, if_pos hw]; exact xopD_ex h
      · rename_i hw; simp only [hb, if_neg hw]; exact ⟨_, rfl, h⟩
    · rename_i hb
      simp only [hb]; exact ⟨_, rfl, h⟩
  · cases h

inductive Cls where
  | t | q | a | w | z
  deriving DecidableEq

/-- It looks at its operands alone. -/
def tOp (C : Cfg) (o : Oper) : Bool := match o.op with
  | .move _ | .assign _ | .pick _ _ _ | .nilCheck _ | .binOp _ _ _ _ _ | .unOp _ _ _ | .convert _ _ _ | .fieldAddr _ _ _ | .field _ _ _ | .indexAddr _ _ _ | .index _ _ _
  | .build _ _ | .slice _ _ _ _ _ | .extract _ _ => true
  | .buildSlice _ _ _ => !inplOf C o
  | .call { callee := .value (.func _), .. } => true
  | _ => false

def cls (C : Cfg) (o : Oper) : Cls := match o.op with
  | .alloc _ | .box _ _ => .a
  | .store _ _ _ => .w
  | _ => if tOp C o then .t else if simpleOp C o then .q else .z

def freeC : Cls → Cls → Bool
  | .t, .t | .t, .q | .q, .t | .q, .q | .t, .a | .q, .a | .a, .a | .a, .t | .t, .w | .w, .t => true
  | _, _ => false

def act (od : Option (Nat × AObj × AObj)) (dst : Option Tmp) (v : AV) (s : AState) : AState :=
  match od with
  | none => s.put dst v
  | some (r, _, y) => (s.setObj r y).put dst v

def EnvAg (ops : Array Oper) (o : Oper) (s s1 : AState) : Prop := ∀ t ∈ o.looksAt ops, s1.env t = s.env t
def ObjAg (s s1 : AState) : Prop := ∀ r x, s.obj r = some x → x ≠ .dead → s1.obj r = some x

structure Yl (P : Program) (C : Cfg) (ops : Array Oper) (k : Nat) (o : Oper) (s s' : AState) (od : Option (Nat × AObj × AObj)) (v : AV) : Prop where
  at_ : ∀ r X y, od = some (r, X, y) → s.obj r = some X
  to : s' = act od o.dst v s
  stab : ∀ s1, s1.b = s.b → EnvAg ops o s s1 → (∀ r X y, od = some (r, X, y) → s1.obj r = some X) → (cls C o = .q → ObjAg s s1) → St P C ops k o s1 (act od o.dst v s1)
  none_ : cls C o = .t ∨ cls C o = .q → od = none
  new_ : cls C o = .a → ∀ r X y, od = some (r, X, y) → X = .dead ∧ y ≠ .dead

theorem ev_of_env {o : Oper} {s s1 : AState} (h : EnvAg ops o s s1) : ∀ x ∈ o.op.operands.toList, s1.ev x = s.ev x := by
  intro x hx
  cases x with
  | tmp t => exact h t (List.mem_append_left _ (List.mem_filterMap.2 ⟨.tmp t, hx, rfl⟩))
  | _ => rfl

theorem guard_env {o : Oper} {s s1 : AState} (h : EnvAg ops o s s1) {t : Nat} {want : Bool} (hg : guardOf ops o = some (some t, want)) : s1.env t = s.env t := by
  refine h t (List.mem_append_right _ ?_)
  unfold guardOf at hg
  cases hgd : o.guard with
  | none => rw [hgd] at hg; simp at hg
  | some gw =>
    obtain ⟨j, wt⟩ := gw
    rw [hgd] at hg
    simp only [Option.map_some, Option.some.injEq, Prod.mk.injEq] at hg
    simp [hg.1]

/-- What an operation of the first kinds gives. -/
theorem eff_t {o : Oper} (ht : tOp C o = true) (hc : ∀ c, o.op ≠ .call c) {s s1 : AState} (hev : ∀ x ∈ o.op.operands.toList, s1.ev x = s.ev x) {out : Out} (h : eff C o s = some out) :
    out.s = s ∧ eff C o s1 = some ⟨out.c, out.v, s1⟩ := by
  have hs : simpleOp C o = true := by
    unfold tOp at ht
    unfold simpleOp
    split at ht <;> simp_all
  by_cases hl : (match o.op with | .call _ => true | .load _ _ => true | _ => false) = true
  · unfold tOp at ht
    split at ht <;> simp_all
  · -- objects are not looked at: a state with the same objects as 's' serves
    have key : ∀ s2 : AState, (∀ x ∈ o.op.operands.toList, s2.ev x = s.ev x) → eff C o s2 = (eff C o s).map fun out => ⟨out.c, out.v, s2⟩ := by
      intro s2 hev
      unfold tOp at ht
      split at ht <;> first | contradiction | skip
      case h_1 hop => simp only [hop, Op.operands, List.forall_mem_cons] at hev; simp only [eff, hop, hev.1]; rfl
      case h_2 hop => simp only [hop, Op.operands, List.forall_mem_cons] at hev; simp only [eff, hop, hev.1]; rfl
      case h_3 hop =>
        simp only [hop, Op.operands, List.forall_mem_cons] at hev; simp only [eff, hop, hev.1, hev.2.1, hev.2.2.1]
        split <;> rfl
      case h_4 hop =>
        simp only [hop, Op.operands, List.forall_mem_cons] at hev; simp only [eff, hop, hev.1]
        split <;> rfl
      case h_5 hop =>
        simp only [hop, Op.operands, List.forall_mem_cons] at hev; simp only [eff, hop, hev.1, hev.2.1]
        split
        · split <;> rfl
        · rfl
      case h_6 hop =>
        simp only [hop, Op.operands, List.forall_mem_cons] at hev; simp only [eff, hop, hev.1]
        split <;> rfl
      case h_7 hop =>
        simp only [hop, Op.operands, List.forall_mem_cons] at hev; simp only [eff, hop, hev.1]
        split <;> rfl
      case h_8 hop =>
        simp only [hop, Op.operands, List.forall_mem_cons] at hev; simp only [eff, hop, hev.1]
        repeat' (first | rfl | split)
      case h_9 hop =>
        simp only [hop, Op.operands, List.forall_mem_cons] at hev; simp only [eff, hop, hev.1]
        repeat' (first | rfl | split)
      case h_10 hop =>
        simp only [hop, Op.operands, List.forall_mem_cons] at hev; simp only [eff, hop, hev.1, hev.2.1]
        repeat' (first | rfl | split)
      case h_11 hop =>
        simp only [hop, Op.operands, List.forall_mem_cons] at hev; simp only [eff, hop, hev.1, hev.2.1]
        repeat' (first | rfl | split)
      case h_12 t ps hop =>
        have hm : (ps.toList.map fun p => (p.1, s2.ev p.2)) = ps.toList.map fun p => (p.1, s.ev p.2) := List.map_congr_left fun p hp => by
          rw [hev p.2 (by simp only [hop, Op.operands]; simp only [List.mem_map]; exact ⟨p, hp, rfl⟩)]
        simp only [eff, hop, hm]
        repeat' (first | rfl | split)
      case h_13 t x lo hi mx hop =>
        have h0 : s2.ev x = s.ev x := hev x (by simp [hop, Op.operands])
        have h1 : lo.map s2.ev = lo.map s.ev := by cases lo with | none => rfl | some y => simp [hev y (by simp [hop, Op.operands])]
        have h2 : hi.map s2.ev = hi.map s.ev := by cases hi with | none => rfl | some y => simp [hev y (by simp [hop, Op.operands])]
        have h3 : mx.map s2.ev = mx.map s.ev := by cases mx with | none => rfl | some y => simp [hev y (by simp [hop, Op.operands])]
        simp only [eff, hop, h0, h1, h2, h3, effSlice]
        repeat' (first | rfl | split)
      case h_14 hop =>
        simp only [hop, Op.operands, List.forall_mem_cons] at hev; simp only [eff, hop, hev.1]
        split <;> rfl
      case h_15 t n ps hop =>
        have hm : (ps.toList.map fun p => (p.1, s2.ev p.2)) = ps.toList.map fun p => (p.1, s.ev p.2) := List.map_congr_left fun p hp => by
          rw [hev p.2 (by simp only [hop, Op.operands]; simp only [List.mem_map]; exact ⟨p, hp, rfl⟩)]
        have hi : inplOf C o = false := by simpa using ht
        simp only [eff, hop, hm, hi, Bool.false_eq_true, if_false]
        repeat' (first | rfl | split)
      case h_16 hop => exact absurd hop (hc _)
    refine ⟨(eff_agree hs (s1 := s) ⟨fun _ _ => rfl, fun _ _ h _ => h⟩ h).1, ?_⟩
    rw [key s1 hev, h]; rfl

end
end Go.Ab
