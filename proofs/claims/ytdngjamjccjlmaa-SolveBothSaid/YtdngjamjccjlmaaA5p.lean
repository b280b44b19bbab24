/- The executor on abstract values: drawn regions, rules for walks. Conditions stand ahead of each part. -/
import Derived.Test.YtdngjamjccjlmaaA4
import Derived.Orders

/- Operations that look at their operands and turn their slot alone: what else turns does not matter. No condition. -/
set_option linter.unusedSimpArgs false
namespace Go.Ab
open Go.RowKit (Below)

def AObj.mute : AObj → Bool
  | .dead | .tok _ _ => true
  | _ => false
def AObj.isMap : AObj → Bool
  | .map _ => true
  | _ => false
def objOf : AV → Option Nat
  | .bptr r _ => some r
  | .aptr r _ _ _ _ => some r
  | .mp r => some r
  | _ => none

def simpleOp (C : Cfg) (o : Oper) : Bool := match o.op with
  | .move _ | .assign _ | .pick _ _ _ | .load _ _ | .nilCheck _ | .binOp _ _ _ _ _ | .unOp _ _ _ | .convert _ _ _ | .fieldAddr _ _ _ | .field _ _ _ | .indexAddr _ _ _ | .index _ _ _
  | .build _ _ | .slice _ _ _ _ _ | .extract _ _ => true
  | .buildSlice _ _ _ => !inplOf C o
  | .call { callee := .builtin .len, .. } | .call { callee := .builtin .max, .. } | .call { callee := .builtin .min, .. } => true
  | _ => false

structure Agree (o : Oper) (s s1 : AState) : Prop where
  ev : ∀ x ∈ o.op.operands.toList, s1.ev x = s.ev x
  obj : ∀ r x, s.obj r = some x → x.mute = false → s1.obj r = some x

section
variable {C : Cfg} {s s1 : AState}

theorem cellsAt_agree {a : AV} (ho : ∀ r x, objOf a = some r → s.obj r = some x → x.mute = false → x.isMap = false → s1.obj r = some x) {y : List AV × Nat × Prop} (h : cellsAt s a = some y) : cellsAt s1 a = some y := by
  unfold cellsAt at h ⊢
  split at h
  · exact h
  · split at h
    case h_2 => cases h
    rename_i hobj
    rw [ho _ _ rfl hobj rfl rfl]
    exact h
  · split at h
    case h_2 => cases h
    rename_i hobj
    rw [ho _ _ rfl hobj rfl rfl]
    exact h
  · cases h

theorem effBuiltin_agree (ho : ∀ r x, s.obj r = some x → x.mute = false → s1.obj r = some x) {inpl : Bool} {b : Builtin} (hb : b = .len ∨ b = .max ∨ b = .min) {ts : List Nat} {args : List AV} {out : Out}
    (h : effBuiltin C inpl s b ts args = some out) : out.s = s ∧ effBuiltin C inpl s1 b ts args = some ⟨out.c, out.v, s1⟩ := by
  rcases hb with rfl | rfl | rfl
  · unfold effBuiltin at h ⊢
    split at h <;> first | contradiction | skip
    · split at h
      case h_2 => cases h
      simp only [Option.some.injEq] at h; subst h; exact ⟨rfl, rfl⟩
    · split at h
      case h_2 => cases h
      simp only [Option.some.injEq] at h; subst h; exact ⟨rfl, rfl⟩
    · split at h
      case h_2 => cases h
      simp only [Option.some.injEq] at h; subst h; exact ⟨rfl, rfl⟩
    · split at h
      case h_2 => cases h
      rename_i heq hobj; simp only [Option.some.injEq] at h; subst h; exact ⟨rfl, by rw [heq, ho _ _ hobj rfl]⟩
  · unfold effBuiltin at h ⊢
    split at h <;> first | contradiction | skip
    split at h
    case isFalse => cases h
    rename_i hk; simp only [Option.some.injEq] at h; subst h; exact ⟨rfl, by simp [hk]⟩
  · unfold effBuiltin at h ⊢
    split at h <;> first | contradiction | skip
    split at h
    case isFalse => cases h
    rename_i hk; simp only [Option.some.injEq] at h; subst h; exact ⟨rfl, by simp [hk]⟩

theorem effText_agree {x : AV} {lo hi mx : Option AV} {out : Out} (h : effText x lo hi mx s = some out) : out.s = s ∧ effText x lo hi mx s1 = some ⟨out.c, out.v, s1⟩ := by
  unfold effText at h ⊢
  split at h
  case h_2 => cases h
  split at h
  case h_2 => cases h
  rename_i h1 h2; simp only [Option.some.injEq] at h; subst h; exact ⟨rfl, by simp only [h1, h2]⟩

theorem effSlice_agree {size : Nat} {x : AV} {lo hi mx : Option AV} {out : Out} (h : effSlice size x lo hi mx s = some out) : out.s = s ∧ effSlice size x lo hi mx s1 = some ⟨out.c, out.v, s1⟩ := by
  unfold effSlice at h ⊢
  split at h
  · split at h
    · split at h
      case h_2 => cases h
      rename_i h1 h2; simp only [Option.some.injEq] at h; subst h; exact ⟨rfl, by simp only [h1, h2]⟩
    · split at h
      case h_2 => cases h
      rename_i h1 h2; simp only [Option.some.injEq] at h; subst h; exact ⟨rfl, by simp only [h1, h2]⟩
    · cases h
  · split at h
    case h_2 => cases h
    simp only [Option.some.injEq] at h; subst h; exact ⟨rfl, rfl⟩
  · cases h

theorem eff_agree {o : Oper} (hs : simpleOp C o = true) (hA : Agree o s s1) {out : Out} (h : eff C o s = some out) : out.s = s ∧ eff C o s1 = some ⟨out.c, out.v, s1⟩ := by
  obtain ⟨hev, ho⟩ := hA
  unfold simpleOp at hs
  split at hs <;> first | contradiction | skip
  case h_1 x hop => 
    simp only [hop, Op.operands, List.forall_mem_cons] at hev
    simp only [eff, hop, hev.1] at h ⊢; simp only [Option.some.injEq] at h; subst h; exact ⟨rfl, rfl⟩
  case h_2 x hop => 
    simp only [hop, Op.operands, List.forall_mem_cons] at hev
    simp only [eff, hop, hev.1] at h ⊢; simp only [Option.some.injEq] at h; subst h; exact ⟨rfl, rfl⟩
  case h_3 hop => 
    simp only [hop, Op.operands, List.forall_mem_cons] at hev
    simp only [eff, hop, hev.1, hev.2.1, hev.2.2.1] at h ⊢
    split at h
    case h_2 => cases h
    simp only [Option.some.injEq] at h; subst h; exact ⟨rfl, rfl⟩
  case h_4 hop => 
    simp only [hop, Op.operands, List.forall_mem_cons] at hev
    simp only [eff, hop, hev.1] at h ⊢
    split at h
    case h_2 => cases h
    rename_i h1 h2
    simp only [Option.some.injEq] at h; subst h
    rw [h1, cellsAt_agree (fun r x _ h3 h4 _ => ho r x h3 h4) h2]; exact ⟨rfl, rfl⟩
  case h_5 hop => 
    simp only [hop, Op.operands, List.forall_mem_cons] at hev
    simp only [eff, hop, hev.1] at h ⊢
    split at h <;> first | contradiction | skip
    all_goals (simp only [Option.some.injEq] at h; subst h; exact ⟨rfl, rfl⟩)
  case h_6 hop => 
    simp only [hop, Op.operands, List.forall_mem_cons] at hev
    simp only [eff, hop, hev.1, hev.2.1] at h ⊢
    split at h
    case h_2 => cases h
    split at h
    case h_2 => cases h
    simp only [Option.some.injEq] at h; subst h; exact ⟨rfl, rfl⟩
  case h_7 hop => 
    simp only [hop, Op.operands, List.forall_mem_cons] at hev
    simp only [eff, hop, hev.1] at h ⊢
    split at h <;> first | contradiction | skip
    all_goals (simp only [Option.some.injEq] at h; subst h; exact ⟨rfl, rfl⟩)
  case h_8 hop => 
    simp only [hop, Op.operands, List.forall_mem_cons] at hev
    simp only [eff, hop, hev.1] at h ⊢
    split at h <;> first | contradiction | skip
    rename_i h1 h2 h3
    simp only [Option.some.injEq] at h; subst h; exact ⟨rfl, by simp only [h1, h2, h3]⟩
  case h_9 hop => 
    simp only [hop, Op.operands, List.forall_mem_cons] at hev
    simp only [eff, hop, hev.1] at h ⊢
    split at h <;> first | contradiction | skip
    split at h <;> first | contradiction | skip
    split at h <;> first | contradiction | skip
    rename_i h1 h2 h3 h4
    simp only [Option.some.injEq] at h; subst h; exact ⟨rfl, by first | rfl | simp only [h1, h2, h3, h4] | simp only [h3, h4]⟩
  case h_10 hop => 
    simp only [hop, Op.operands, List.forall_mem_cons] at hev
    simp only [eff, hop, hev.1] at h ⊢
    split at h <;> first | contradiction | skip
    split at h <;> first | contradiction | skip
    split at h <;> first | contradiction | skip
    simp only [Option.some.injEq] at h; subst h; exact ⟨rfl, by first | rfl | simp only [*]⟩
  case h_11 hop => 
    simp only [hop, Op.operands, List.forall_mem_cons] at hev
    simp only [eff, hop, hev.1, hev.2.1] at h ⊢
    split at h <;> first | contradiction | skip
    · split at h <;> first | contradiction | skip
      all_goals (simp only [Option.some.injEq] at h; subst h; exact ⟨rfl, by first | rfl | simp only [*]⟩)
    · split at h <;> first | contradiction | skip
      split at h <;> first | contradiction | skip
      all_goals (simp only [Option.some.injEq] at h; subst h; exact ⟨rfl, by first | rfl | simp only [*]⟩)
  case h_12 hop => 
    simp only [hop, Op.operands, List.forall_mem_cons] at hev
    simp only [eff, hop, hev.1, hev.2.1] at h ⊢
    split at h <;> first | contradiction | skip
    · split at h <;> first | contradiction | skip
      all_goals (simp only [Option.some.injEq] at h; subst h; exact ⟨rfl, by first | rfl | simp only [*]⟩)
    · split at h <;> first | contradiction | skip
      all_goals (simp only [Option.some.injEq] at h; subst h; exact ⟨rfl, by first | rfl | simp only [*]⟩)
  case h_13 t ps hop => 
    have hm : (ps.toList.map fun p => (p.1, s1.ev p.2)) = ps.toList.map fun p => (p.1, s.ev p.2) := List.map_congr_left fun p hp => by
      rw [hev p.2 (by simp only [hop, Op.operands]; simp only [List.mem_map]; exact ⟨p, hp, rfl⟩)]
    simp only [eff, hop, hm] at h ⊢
    split at h <;> first | contradiction | skip
    · split at h <;> first | contradiction | skip
      all_goals (simp only [Option.some.injEq] at h; subst h; exact ⟨rfl, by first | rfl | simp only [*]⟩)
    · split at h <;> first | contradiction | skip
      split at h <;> first | contradiction | skip
      all_goals (simp only [Option.some.injEq] at h; subst h; exact ⟨rfl, by first | rfl | simp only [*]⟩)
  case h_14 t x lo hi mx hop => 
    have h0 : s1.ev x = s.ev x := hev x (by simp [hop, Op.operands])
    have h1 : lo.map s1.ev = lo.map s.ev := by cases lo with | none => rfl | some y => simp [hev y (by simp [hop, Op.operands])]
    have h2 : hi.map s1.ev = hi.map s.ev := by cases hi with | none => rfl | some y => simp [hev y (by simp [hop, Op.operands])]
    have h3 : mx.map s1.ev = mx.map s.ev := by cases mx with | none => rfl | some y => simp [hev y (by simp [hop, Op.operands])]
    simp only [eff, hop, h0, h1, h2, h3] at h ⊢
    split at h <;> first | contradiction | skip
    · split at h <;> first | contradiction | skip
      have := effSlice_agree (s1 := s1) h
      exact this
    · exact effText_agree (s1 := s1) h
  case h_15 hop => 
    simp only [hop, Op.operands, List.forall_mem_cons] at hev
    simp only [eff, hop, hev.1] at h ⊢
    split at h <;> first | contradiction | skip
    simp only [Option.some.injEq] at h; subst h; exact ⟨rfl, rfl⟩
  case h_16 t n ps hop => 
    have hm : (ps.toList.map fun p => (p.1, s1.ev p.2)) = ps.toList.map fun p => (p.1, s.ev p.2) := List.map_congr_left fun p hp => by
      rw [hev p.2 (by simp only [hop, Op.operands]; simp only [List.mem_map]; exact ⟨p, hp, rfl⟩)]
    simp only [eff, hop, hm] at h ⊢
    split at h <;> first | contradiction | skip
    split at h <;> first | contradiction | skip
    have hi : inplOf C o = false := by simpa using hs
    simp only [hi, Bool.false_eq_true, if_false] at h ⊢
    simp only [Option.some.injEq] at h; subst h; exact ⟨rfl, by first | rfl | simp only [*]⟩
  all_goals
    rename_i args ts hop
    have hm : args.toList.map s1.ev = args.toList.map s.ev := List.map_congr_left fun p hp => hev p (by simp only [hop, Op.operands, Call.operands]; simpa using hp)
    simp only [eff, hop, hm] at h ⊢
    exact effBuiltin_agree ho (by simp) h

end
end Go.Ab

/- Regions whose order the world draws: whatever the order, the end is that of the text's order. Condition: the executor's table of types is the program's; operations that the edges leave open do not meet. -/
set_option linter.unusedSimpArgs false
namespace Go.Ab
open Go.RowKit (Below)

def slOK : AV → Bool
  | .sl _ _ => true
  | _ => false
def isMs : AV → Bool
  | .ms _ _ _ => true
  | _ => false
def appOK (C : Cfg) (o : Oper) (s : AState) (args : Array Operand) : Bool :=
  if inplOf C o = true then (match args.toList with
    | [a, x] => isMs (s.ev a) && slOK (s.ev x)
    | _ => false) else args.toList.all (fun p => slOK (s.ev p))
def effD (C : Cfg) (k : Nat) (o : Oper) (s : AState) : Option Out :=
  match o.op with
  | .alloc t => match C.ty t, s.obj k with
    | some l, some .dead => some ⟨s.b ≤ k, .bptr k 0, s.setObj k (.box (cellsOf l.zero))⟩
    | _, _ => none
  | .box _ x => match s.obj k with
    | some .dead => some ⟨s.b ≤ k ∧ (s.ev x).solid = true, .bptr k 0, s.setObj k (.box (cellsOf (s.ev x)))⟩
    | _ => none
  | .makeMap _ none => match s.obj k with
    | some .dead => some ⟨s.b ≤ k, .mp k, s.setObj k (.map [])⟩
    | _ => none
  | .call { callee := .builtin .append, args := args, .. } => if appOK C o s args = true then eff C o s else none
  | _ => eff C o s

def isAl (o : Oper) : Bool := match o.op with | .alloc _ | .box _ _ | .makeMap _ none => true | _ => false
def nxt (k : Nat) (o : Oper) : Nat := if isAl o then k + 1 else k

def QCalls (P : Program) (f : Nat) (args : List AV) (r : AV) (obj : Nat → Option AObj) : Prop :=
  ∀ F : List AObj, (∀ q x, obj q = some x → x.mute = false → F[q]? = some x) → ACalls P f args F fun r' F' => r' = r ∧ F' = F
def MCalls (P : Program) (f : Nat) (args : List AV) (r : AV) (obj : Nat → Option AObj) (m : Nat) (es : List (AV × AV)) : Prop :=
  (∃ es0, obj m = some (.map es0)) ∧ (∀ b, (AObj.map es).bel b = true) ∧ ∀ F : List AObj, (∀ q x, obj q = some x → x.mute = false → F[q]? = some x) → ACalls P f args F fun r' F' => r' = r ∧ F' = F.set m (.map es)
def rdF (C : Cfg) (f : Operand) : Bool := match f with
  | .func g => C.rdr g
  | _ => false
def mwF (C : Cfg) (f : Operand) : Bool := match f with
  | .func g => C.mwr g && !C.rdr g
  | _ => false
def zwF (C : Cfg) (f : Operand) : Bool := match f with
  | .func g => C.zwr g && !C.mwr g && !C.rdr g
  | _ => false
def ZCalls (P : Program) (f : Nat) (args : List AV) (r : AV) (s : AState) (F' : List AObj) : Prop :=
  ((∀ x ∈ s.H, x.bel s.b = true) → ∀ x ∈ F'.take s.b, x.bel s.b = true) ∧ ACalls P f args (s.H ++ s.L) fun r' G => r' = r ∧ G = F'
def CsAg (r r0 o0 : Nat) (cs cs' : List AV) : Prop := cs'.length = cs.length ∧ ∀ q, (r = r0 → q ≠ o0) → cs'.getD q .any = cs.getD q .any
def BoxAg (F F' : List AObj) (r0 o0 : Nat) : Prop := F'.length = F.length ∧ ∀ r : Nat, (∀ cs, F[r]? = some (.box cs) → ∃ cs', F'[r]? = some (.box cs') ∧ CsAg r r0 o0 cs cs') ∧ (∀ cs', F'[r]? = some (.box cs') → ∃ cs, F[r]? = some (.box cs) ∧ CsAg r r0 o0 cs cs')
def ZFr (C : Cfg) (s : AState) (F' : List AObj) : Prop := match C.zfr with
  | none => True
  | some (t0, o0) => ∀ r0, s.env t0 = .bptr r0 0 → BoxAg (s.H ++ s.L) F' r0 o0
def LdOK (r0 o0 : Nat) : AV → Nat → Prop
  | .bptr r off, n => r = r0 → o0 < off ∨ off + n ≤ o0
  | .eptr _ _, _ => True
  | .tup [], _ => True
  | _, _ => False
def ZLd (C : Cfg) (s : AState) : Prop := match C.zfr with
  | none => True
  | some (t0, o0) => ∃ r0, s.env t0 = .bptr r0 0 ∧ ∀ p ∈ C.zld, LdOK r0 o0 (s.env p.1) p.2
def xcallD (P : Program) (C : Cfg) (f : Operand) (g : Nat) (args : List AV) (dst : Option Tmp) (K : AState → Prop) (s : AState) : Prop :=
  ∃ r args', (args' = args ∨ args' = AV.normL args) ∧ ((PCalls P g args' r ∧ K (s.put dst r)) ∨ (rdF C f = true ∧ QCalls P g args' r s.obj ∧ K (s.put dst r)) ∨
    (mwF C f = true ∧ ∃ m es, MCalls P g args' r s.obj m es ∧ K ((s.setObj m (.map es)).put dst r)) ∨
    (zwF C f = true ∧ ∃ F', (ZCalls P g args' r s F' ∧ ZFr C s F') ∧ K (({ s with H := F'.take s.b, L := F'.drop s.b } : AState).put dst r)))
def xopD (P : Program) (C : Cfg) (k : Nat) (o : Oper) (K : AState → Prop) (s : AState) : Prop :=
  match o.op with
  | .call { callee := .value f, args := args, .. } => match s.ev f with
    | .fn g => xcallD P C f g (args.toList.map s.ev) o.dst K s
    | _ => False
  | _ => match effD C k o s with
    | some ⟨c, v, s'⟩ => c ∧ K (s'.put o.dst v)
    | none => False

def xguardD (P : Program) (C : Cfg) (ops : Array Oper) (k : Nat) (o : Oper) (K : AState → Prop) (s : AState) : Prop :=
  match guardOf ops o with
  | none => xopD P C k o K s
  | some (some t, want) => match s.env t with
    | .bool b => if b = want then xopD P C k o K s else K (s.put o.dst (.tup []))
    | .tup [] => K (s.put o.dst (.tup []))
    | _ => False
  | some (none, _) => False

def xopsD (P : Program) (C : Cfg) (ops : Array Oper) : Nat → List Oper → (AState → Prop) → AState → Prop
  | _, [], K, s => K s
  | k, o :: rest, K, s => xguardD P C ops k o (xopsD P C ops (nxt k o) rest K) s

def St (P : Program) (C : Cfg) (ops : Array Oper) (k : Nat) (o : Oper) (s s' : AState) : Prop := xguardD P C ops k o (· = s') s

section
variable {P : Program} {C : Cfg} {ops : Array Oper}

theorem xopD_ex {k : Nat} {o : Oper} {K : AState → Prop} {s : AState} (h : xopD P C k o K s) : ∃ s', xopD P C k o (· = s') s ∧ K s' := by
  unfold xopD at h ⊢
  split at h
  · split at h
    case h_2 => cases h
    obtain ⟨r, as, h2, ⟨h1, h3⟩ | ⟨h0, h1, h3⟩ | ⟨h0, m, es, h1, h3⟩ | ⟨h0, F', h1, h3⟩⟩ := h
    · exact ⟨_, ⟨r, as, h2, .inl ⟨h1, rfl⟩⟩, h3⟩
    · exact ⟨_, ⟨r, as, h2, .inr (.inl ⟨h0, h1, rfl⟩)⟩, h3⟩
    · exact ⟨_, ⟨r, as, h2, .inr (.inr (.inl ⟨h0, m, es, h1, rfl⟩))⟩, h3⟩
    · exact ⟨_, ⟨r, as, h2, .inr (.inr (.inr ⟨h0, F', h1, rfl⟩))⟩, h3⟩
  · split at h
    case h_2 => cases h
    exact ⟨_, ⟨h.1, rfl⟩, h.2⟩

theorem xguardD_ex {k : Nat} {o : Oper} {K : AState → Prop} {s : AState} (h : xguardD P C ops k o K s) : ∃ s', St P C ops k o s s' ∧ K s' := by
  unfold St
  unfold xguardD at h ⊢
  split at h
  · exact xopD_ex h
  · split at h
    case h_3 => cases h
    · rename_i hb
      split at h
      · rename_i hw; simp only [hb, if_pos hw]; exact xopD_ex h
      · rename_i hw; simp only [hb, if_neg hw]; exact ⟨_, rfl, h⟩
    · rename_i hb
      simp only [hb]; exact ⟨_, rfl, h⟩
  · cases h

inductive Cls where
  | t | q | a | w | p | m | i | z
  deriving DecidableEq

def tOp (C : Cfg) (o : Oper) : Bool := match o.op with
  | .move _ | .assign _ | .pick _ _ _ | .nilCheck _ | .binOp _ _ _ _ _ | .unOp _ _ _ | .convert _ _ _ | .fieldAddr _ _ _ | .field _ _ _ | .indexAddr _ _ _ | .index _ _ _
  | .build _ _ | .slice _ _ _ _ _ | .extract _ _ => true
  | .buildSlice _ _ _ => !inplOf C o
  | .call { callee := .value (.func g), .. } => !C.rdr g && !C.mwr g && !C.zwr g
  | _ => false
def rdOp (C : Cfg) (o : Oper) : Bool := match o.op with
  | .call { callee := .value f, .. } => rdF C f
  | _ => false
def mwOp (C : Cfg) (o : Oper) : Bool := match o.op with
  | .call { callee := .value f, .. } => mwF C f
  | _ => false

def cls (C : Cfg) (o : Oper) : Cls := match o.op with
  | .alloc _ | .box _ _ | .makeMap _ none => .a
  | .store _ _ _ => .w
  | .call { callee := .builtin .append, .. } => if inplOf C o then .i else .p
  | _ => if tOp C o then .t else if simpleOp C o then .q else if rdOp C o then .q else if mwOp C o then .m else .z

def freeC : Cls → Cls → Bool
  | .m, .t | .t, .m | .i, .t | .t, .i => true
  | .t, .t | .t, .q | .q, .t | .q, .q | .t, .a | .q, .a | .a, .a | .a, .t | .t, .w | .w, .t => true
  | .t, .p | .p, .t | .a, .p | .p, .a | .q, .p | .p, .q | .w, .p | .p, .w => true
  | _, _ => false

def adrT (o : Oper) : Option Tmp := match o.op with
  | .load _ (.tmp t) => some t
  | .store _ (.tmp t) _ => some t
  | _ => none

abbrev Od := Option (Nat × Option AObj × AObj)
def act0 (od : Od) (s : AState) : AState :=
  match od with
  | none => s
  | some (_, none, y) => s.new y
  | some (r, some _, y) => s.setObj r y
def act (od : Od) (dst : Option Tmp) (v : AV) (s : AState) : AState := (act0 od s).put dst v
def OdAt (od : Od) (s : AState) : Prop := ∀ r X y, od = some (r, X, y) → s.obj r = X ∧ (X = none → r = s.b + s.L.length)

def EnvAg (ops : Array Oper) (o : Oper) (s s1 : AState) : Prop := ∀ t ∈ o.looksAt ops, s1.env t = s.env t
def RdAg (o : Oper) (s s1 : AState) : Prop := ∀ r x, (∀ t, adrT o = some t → objOf (s.env t) = some r) → s.obj r = some x → x.mute = false → ((adrT o).isSome = true → x.isMap = false) → s1.obj r = some x

structure Yl (P : Program) (C : Cfg) (ops : Array Oper) (k : Nat) (o : Oper) (s s' : AState) (od : Od) (v : AV) : Prop where
  at_ : OdAt od s
  to : s' = act od o.dst v s
  stab : ∀ s1, s1.b = s.b → EnvAg ops o s s1 → OdAt od s1 → (cls C o = .q ∨ cls C o = .m → RdAg o s s1) → St P C ops k o s1 (act od o.dst v s1)
  none_ : cls C o = .t ∨ cls C o = .q → od = none
  new_ : cls C o = .a → ∀ r X y, od = some (r, X, y) → X = some .dead ∧ ((∃ cs, y = .box cs) ∨ y = .map []) ∧ objOf v = some r
  app_ : cls C o = .p → ∀ r X y, od = some (r, X, y) → (∀ x, X = some x → ∃ n z, x = .tok n z) ∧ ∃ n z, y = .tok n z
  wr_ : cls C o = .w → ∀ r X y, od = some (r, X, y) → (∃ x, X = some x ∧ x.mute = false) ∧ y.mute = false ∧ ∀ t, adrT o = some t → objOf (s.env t) = some r
  mp_ : cls C o = .m → ∀ r X y, od = some (r, X, y) → (∃ es, X = some (.map es)) ∧ ∃ es, y = .map es

theorem ev_of_env {o : Oper} {s s1 : AState} (h : EnvAg ops o s s1) : ∀ x ∈ o.op.operands.toList, s1.ev x = s.ev x := by
  intro x hx
  cases x with
  | tmp t => exact h t (List.mem_append_left _ (List.mem_filterMap.2 ⟨.tmp t, hx, rfl⟩))
  | _ => rfl

theorem guard_env {o : Oper} {s s1 : AState} (h : EnvAg ops o s s1) {t : Nat} {want : Bool} (hg : guardOf ops o = some (some t, want)) : s1.env t = s.env t := by
  refine h t (List.mem_append_right _ ?_)
  unfold guardOf at hg
  cases hgd : o.guard with
  | none => rw [hgd] at hg; simp at hg
  | some gw =>
    obtain ⟨j, wt⟩ := gw
    rw [hgd] at hg
    simp only [Option.map_some, Option.some.injEq, Prod.mk.injEq] at hg
    simp [hg.1]

theorem eff_t {o : Oper} (ht : tOp C o = true) (hc : ∀ c, o.op ≠ .call c) {s s1 : AState} (hev : ∀ x ∈ o.op.operands.toList, s1.ev x = s.ev x) {out : Out} (h : eff C o s = some out) :
    out.s = s ∧ eff C o s1 = some ⟨out.c, out.v, s1⟩ := by
  have hs : simpleOp C o = true := by
    unfold tOp at ht
    unfold simpleOp
    split at ht <;> simp_all
  by_cases hl : (match o.op with | .call _ => true | .load _ _ => true | _ => false) = true
  · unfold tOp at ht
    split at ht <;> simp_all
  · -- objects are not looked at: a state with the same objects as 's' serves
    have key : ∀ s2 : AState, (∀ x ∈ o.op.operands.toList, s2.ev x = s.ev x) → eff C o s2 = (eff C o s).map fun out => ⟨out.c, out.v, s2⟩ := by
      intro s2 hev
      unfold tOp at ht
      split at ht <;> first | contradiction | skip
      case h_1 hop => simp only [hop, Op.operands, List.forall_mem_cons] at hev; simp only [eff, hop, hev.1]; rfl
      case h_2 hop => simp only [hop, Op.operands, List.forall_mem_cons] at hev; simp only [eff, hop, hev.1]; rfl
      case h_3 hop =>
        simp only [hop, Op.operands, List.forall_mem_cons] at hev; simp only [eff, hop, hev.1, hev.2.1, hev.2.2.1]
        split <;> rfl
      case h_4 hop =>
        simp only [hop, Op.operands, List.forall_mem_cons] at hev; simp only [eff, hop, hev.1]
        split <;> rfl
      case h_5 hop =>
        simp only [hop, Op.operands, List.forall_mem_cons] at hev; simp only [eff, hop, hev.1, hev.2.1]
        split
        · split <;> rfl
        · rfl
      case h_6 hop =>
        simp only [hop, Op.operands, List.forall_mem_cons] at hev; simp only [eff, hop, hev.1]
        split <;> rfl
      case h_7 hop =>
        simp only [hop, Op.operands, List.forall_mem_cons] at hev; simp only [eff, hop, hev.1]
        split <;> rfl
      case h_8 hop =>
        simp only [hop, Op.operands, List.forall_mem_cons] at hev; simp only [eff, hop, hev.1]
        repeat' (first | rfl | split)
      case h_9 hop =>
        simp only [hop, Op.operands, List.forall_mem_cons] at hev; simp only [eff, hop, hev.1]
        repeat' (first | rfl | split)
      case h_10 hop =>
        simp only [hop, Op.operands, List.forall_mem_cons] at hev; simp only [eff, hop, hev.1, hev.2.1]
        repeat' (first | rfl | split)
      case h_11 hop =>
        simp only [hop, Op.operands, List.forall_mem_cons] at hev; simp only [eff, hop, hev.1, hev.2.1]
        repeat' (first | rfl | split)
      case h_12 t ps hop =>
        have hm : (ps.toList.map fun p => (p.1, s2.ev p.2)) = ps.toList.map fun p => (p.1, s.ev p.2) := List.map_congr_left fun p hp => by
          rw [hev p.2 (by simp only [hop, Op.operands]; simp only [List.mem_map]; exact ⟨p, hp, rfl⟩)]
        simp only [eff, hop, hm]
        repeat' (first | rfl | split)
      case h_13 t x lo hi mx hop =>
        have h0 : s2.ev x = s.ev x := hev x (by simp [hop, Op.operands])
        have h1 : lo.map s2.ev = lo.map s.ev := by cases lo with | none => rfl | some y => simp [hev y (by simp [hop, Op.operands])]
        have h2 : hi.map s2.ev = hi.map s.ev := by cases hi with | none => rfl | some y => simp [hev y (by simp [hop, Op.operands])]
        have h3 : mx.map s2.ev = mx.map s.ev := by cases mx with | none => rfl | some y => simp [hev y (by simp [hop, Op.operands])]
        simp only [eff, hop, h0, h1, h2, h3, effSlice, effText]
        repeat' (first | rfl | split)
      case h_14 hop =>
        simp only [hop, Op.operands, List.forall_mem_cons] at hev; simp only [eff, hop, hev.1]
        split <;> rfl
      case h_15 t n ps hop =>
        have hm : (ps.toList.map fun p => (p.1, s2.ev p.2)) = ps.toList.map fun p => (p.1, s.ev p.2) := List.map_congr_left fun p hp => by
          rw [hev p.2 (by simp only [hop, Op.operands]; simp only [List.mem_map]; exact ⟨p, hp, rfl⟩)]
        have hi : inplOf C o = false := by simpa using ht
        simp only [eff, hop, hm, hi, Bool.false_eq_true, if_false]
        repeat' (first | rfl | split)
      case h_16 hop => exact absurd hop (hc _)
    refine ⟨(eff_agree hs (s1 := s) ⟨fun _ _ => rfl, fun _ _ h _ => h⟩ h).1, ?_⟩
    rw [key s1 hev, h]; rfl

end
end Go.Ab

/- Regions whose order the world draws, second part: two steps that do not meet change places. No condition. -/
set_option linter.unusedSimpArgs false
namespace Go.Ab
open Go.RowKit (Below)

section
variable {P : Program} {C : Cfg} {ops : Array Oper}

theorem cls_cases (o : Oper) : (cls C o = .a ∧ ((∃ t, o.op = .alloc t) ∨ (∃ t x, o.op = .box t x) ∨ ∃ t, o.op = .makeMap t none)) ∨ (cls C o = .w ∧ ∃ t a x, o.op = .store t a x) ∨
    (∃ args ts, o.op = .call { callee := .builtin .append, args := args, argTypes := ts } ∧ (cls C o = .p ∧ inplOf C o = false ∨ cls C o = .i ∧ inplOf C o = true)) ∨
    (((∀ t, o.op ≠ .alloc t) ∧ ∀ t, o.op ≠ .makeMap t none) ∧ (∀ t x, o.op ≠ .box t x) ∧ (∀ args ts, o.op ≠ .call { callee := .builtin .append, args := args, argTypes := ts }) ∧ (cls C o = .t ∧ tOp C o = true ∨ cls C o = .q ∧ simpleOp C o = true ∧ tOp C o = false ∨ cls C o = .z ∨ cls C o = .q ∧ rdOp C o = true ∨ cls C o = .m ∧ mwOp C o = true)) := by
  unfold cls
  split
  · rename_i t hop; exact .inl ⟨rfl, .inl ⟨t, hop⟩⟩
  · rename_i t x hop; exact .inl ⟨rfl, .inr (.inl ⟨t, x, hop⟩)⟩
  · rename_i t hop; exact .inl ⟨rfl, .inr (.inr ⟨t, hop⟩)⟩
  · rename_i t a x hop; exact .inr (.inl ⟨rfl, t, a, x, hop⟩)
  · rename_i args ts hop
    refine .inr (.inr (.inl ⟨args, ts, hop, ?_⟩))
    split
    · rename_i h; exact .inr ⟨rfl, h⟩
    · rename_i h; exact .inl ⟨rfl, by simpa using h⟩
  · rename_i h1 h2 h5 h3 h4
    refine .inr (.inr (.inr ⟨⟨h1, h5⟩, h2, fun args ts h => h4 _ _ h, ?_⟩))
    split
    · rename_i h; exact .inl ⟨rfl, h⟩
    · split
      · rename_i h h'; exact .inr (.inl ⟨rfl, h', by simpa using h⟩)
      · split
        · rename_i h; exact .inr (.inr (.inr (.inl ⟨rfl, h⟩)))
        · split
          · rename_i h; exact .inr (.inr (.inr (.inr ⟨rfl, h⟩)))
          · exact .inr (.inr (.inl rfl))

theorem effD_eff {k : Nat} {o : Oper} {s : AState} (h1 : (∀ t, o.op ≠ .alloc t) ∧ ∀ t, o.op ≠ .makeMap t none) (h2 : ∀ t x, o.op ≠ .box t x) (h3 : ∀ args ts, o.op ≠ .call { callee := .builtin .append, args := args, argTypes := ts }) : effD C k o s = eff C o s := by
  unfold effD
  split
  · rename_i t hop; exact absurd hop (h1.1 t)
  · rename_i t x hop; exact absurd hop (h2 t x)
  · rename_i t hop; exact absurd hop (h1.2 t)
  · rename_i args ts hop; exact absurd hop (h3 _ _)
  · rfl

theorem effAppend_od {t : Nat} {s : AState} {a x : AV} (ha : slOK a = true) (hx : slOK x = true) {out : Out} (h : effAppend C false t s a x = some out) :
    ∃ od : Od, OdAt od s ∧ out.s = act0 od s ∧ (∀ r X y, od = some (r, X, y) → (∀ x, X = some x → ∃ n z, x = .tok n z) ∧ ∃ n z, y = .tok n z) ∧
      ∀ s1 : AState, s1.b = s.b → OdAt od s1 → effAppend C false t s1 a x = some ⟨out.c, out.v, act0 od s1⟩ := by
  cases a <;> simp only [slOK, Bool.false_eq_true] at ha
  cases x <;> simp only [slOK, Bool.false_eq_true] at hx
  rename_i es tk xs tk'
  unfold effAppend at h
  split at h
  case h_2 => cases h
  rename_i e sz by_ ze hty
  split at h
  case h_2 => cases h
  rename_i le xs' cx hle hxs
  simp only [elemsOf, Option.some.injEq, Prod.mk.injEq] at hxs
  obtain ⟨rfl, rfl⟩ := hxs
  simp only at h
  split at h
  · rename_i r
    split at h
    case h_2 => cases h
    rename_i n size ho
    simp only [Option.some.injEq] at h
    subst h
    refine ⟨some (r, some (.tok n size), .tok (es.length + xs.length) size), ?_, rfl, ?_, ?_⟩
    · intro r' X y hr; simp only [Option.some.injEq, Prod.mk.injEq] at hr; obtain ⟨rfl, rfl, rfl⟩ := hr; exact ⟨ho, by simp⟩
    · intro r' X y hr; simp only [Option.some.injEq, Prod.mk.injEq] at hr; obtain ⟨rfl, rfl, rfl⟩ := hr; exact ⟨fun x hx => ⟨n, size, by cases hx; rfl⟩, _, _, rfl⟩
    · intro s1 _ h1
      simp only [effAppend, hty, hle, elemsOf, (h1 _ _ _ rfl).1, act0]
  · split at h
    · simp only [Option.some.injEq] at h
      subst h
      refine ⟨none, (fun _ _ _ h => by cases h), rfl, (fun _ _ _ h => by cases h), ?_⟩
      intro s1 _ _
      simp only [effAppend, hty, hle, elemsOf, act0]
    · rename_i x0 xs0
      simp only [Bool.false_eq_true, if_false, Option.some.injEq] at h
      subst h
      refine ⟨some (s.b + s.L.length, none, .tok (es.length + (x0 :: xs0).length) le.size), ?_, rfl, ?_, ?_⟩
      · intro r' X y hr; simp only [Option.some.injEq, Prod.mk.injEq] at hr; obtain ⟨rfl, rfl, rfl⟩ := hr; exact ⟨obj_next s, fun _ => rfl⟩
      · intro r' X y hr; simp only [Option.some.injEq, Prod.mk.injEq] at hr; obtain ⟨rfl, rfl, rfl⟩ := hr; exact ⟨fun x hx => (by cases hx), _, _, rfl⟩
      · intro s1 _ h1
        have := (h1 _ _ _ rfl).2 rfl
        simp only [effAppend, hty, hle, elemsOf, act0, Bool.false_eq_true, if_false, this]
  · split at h
    · simp only [Option.some.injEq] at h
      subst h
      refine ⟨none, (fun _ _ _ h => by cases h), rfl, (fun _ _ _ h => by cases h), ?_⟩
      intro s1 _ _
      simp only [effAppend, hty, hle, elemsOf, act0]
    · rename_i x0 xs0
      simp only [Bool.false_eq_true, if_false, Option.some.injEq] at h
      subst h
      refine ⟨some (s.b + s.L.length, none, .tok (es.length + (x0 :: xs0).length) le.size), ?_, rfl, ?_, ?_⟩
      · intro r' X y hr; simp only [Option.some.injEq, Prod.mk.injEq] at hr; obtain ⟨rfl, rfl, rfl⟩ := hr; exact ⟨obj_next s, fun _ => rfl⟩
      · intro r' X y hr; simp only [Option.some.injEq, Prod.mk.injEq] at hr; obtain ⟨rfl, rfl, rfl⟩ := hr; exact ⟨fun x hx => (by cases hx), _, _, rfl⟩
      · intro s1 _ h1
        have := (h1 _ _ _ rfl).2 rfl
        simp only [effAppend, hty, hle, elemsOf, act0, Bool.false_eq_true, if_false, this]
  · cases h

theorem effAppend_ms {t : Nat} {s : AState} {inpl : Bool} {r ver len : Nat} {x : AV} (hx : slOK x = true) {out : Out} (h : effAppend C inpl t s (.ms r ver len) x = some out) :
    ∃ X y, s.obj r = some X ∧ out.s = s.setObj r y ∧ ∀ s1 : AState, s1.b = s.b → s1.obj r = some X → effAppend C inpl t s1 (.ms r ver len) x = some ⟨out.c, out.v, s1.setObj r y⟩ := by
  cases x <;> simp only [slOK, Bool.false_eq_true] at hx
  rename_i xs tk'
  unfold effAppend at h
  split at h
  case h_2 => cases h
  rename_i e sz by_ ze hty
  simp only [elemsOf] at h
  split at h
  case h_2 => cases h
  rename_i le xs' cx hle hxs
  simp only [Option.some.injEq, Prod.mk.injEq] at hxs
  obtain ⟨rfl, rfl⟩ := hxs
  split at h
  case h_2 => cases h
  rename_i v' size es ho
  simp only [Option.some.injEq] at h
  subst h
  refine ⟨.arr v' size es, .arr (ver + 1) size (es.take len ++ xs), ho, rfl, fun s1 hb h1 => ?_⟩
  unfold effAppend
  rw [hty]
  simp only [elemsOf, hle, h1, hb]

def YlX (P : Program) (C : Cfg) (k : Nat) (o : Oper) (s s' : AState) (od : Od) (v : AV) : Prop :=
  OdAt od s ∧ s' = act od o.dst v s ∧
  (∀ s1 : AState, s1.b = s.b → (∀ x ∈ o.op.operands.toList, s1.ev x = s.ev x) → OdAt od s1 → (cls C o = .q ∨ cls C o = .m → RdAg o s s1) → xopD P C k o (· = act od o.dst v s1) s1) ∧
  (cls C o = .t ∨ cls C o = .q → od = none) ∧ (cls C o = .a → ∀ r X y, od = some (r, X, y) → X = some .dead ∧ ((∃ cs, y = .box cs) ∨ y = .map []) ∧ objOf v = some r) ∧
  (cls C o = .p → ∀ r X y, od = some (r, X, y) → (∀ x, X = some x → ∃ n z, x = .tok n z) ∧ ∃ n z, y = .tok n z) ∧
  (cls C o = .w → ∀ r X y, od = some (r, X, y) → (∃ x, X = some x ∧ x.mute = false) ∧ y.mute = false ∧ ∀ t, adrT o = some t → objOf (s.env t) = some r) ∧
  (cls C o = .m → ∀ r X y, od = some (r, X, y) → (∃ es, X = some (.map es)) ∧ ∃ es, y = .map es)

theorem rdF_cls {o : Oper} {f : Operand} {args : Array Operand} {ts : Array Nat} (hop : o.op = .call { callee := .value f, args := args, argTypes := ts }) (h : rdF C f = true) : cls C o = .q := by
  cases f with
  | func g =>
    simp only [rdF] at h
    simp [cls, hop, tOp, simpleOp, rdOp, rdF, h]
  | _ => simp [rdF] at h
theorem mwF_cls {o : Oper} {f : Operand} {args : Array Operand} {ts : Array Nat} (hop : o.op = .call { callee := .value f, args := args, argTypes := ts }) (h : mwF C f = true) : cls C o = .m := by
  cases f with
  | func g =>
    simp only [mwF, Bool.and_eq_true, Bool.not_eq_true'] at h
    simp [cls, hop, tOp, simpleOp, rdOp, rdF, mwOp, mwF, h]
  | _ => simp [mwF] at h
theorem zwF_cls {o : Oper} {f : Operand} {args : Array Operand} {ts : Array Nat} (hop : o.op = .call { callee := .value f, args := args, argTypes := ts }) (h : zwF C f = true) : cls C o = .z := by
  cases f with
  | func g =>
    simp only [zwF, Bool.and_eq_true, Bool.not_eq_true'] at h
    simp [cls, hop, tOp, simpleOp, rdOp, rdF, mwOp, mwF, h]
  | _ => simp [zwF] at h
theorem odAt_none (s : AState) : OdAt none s := by intro _ _ _ h; cases h
theorem odAt_some {s : AState} {r : Nat} {X y : AObj} (h : s.obj r = some X) : OdAt (some (r, some X, y)) s := by
  intro r' X' y' hr; simp only [Option.some.injEq, Prod.mk.injEq] at hr; obtain ⟨rfl, rfl, rfl⟩ := hr; exact ⟨h, by simp⟩

theorem xopD_yl {k : Nat} {o : Oper} {s s' : AState} (hz : cls C o ≠ .z) (h : xopD P C k o (· = s') s) : ∃ od v, YlX P C k o s s' od v := by
  by_cases hcall : ∃ f args ts, o.op = .call { callee := .value f, args := args, argTypes := ts }
  · obtain ⟨f, args, ts, hop⟩ := hcall
    unfold xopD at h
    simp only [hop] at h
    split at h
    case h_2 => cases h
    rename_i g hg
    have hmap : ∀ s1 : AState, (∀ x ∈ o.op.operands.toList, s1.ev x = s.ev x) → args.toList.map s1.ev = args.toList.map s.ev := fun s1 hev =>
      List.map_congr_left fun p hp => hev p (by simp only [hop, Op.operands, Call.operands]; simp at hp ⊢; exact .inr hp)
    have hevf : ∀ s1 : AState, (∀ x ∈ o.op.operands.toList, s1.ev x = s.ev x) → s1.ev f = .fn g := fun s1 hev => by
      rw [hev f (by simp [hop, Op.operands, Call.operands]), hg]
    have hadr : adrT o = none := by simp [adrT, hop]
    obtain ⟨r, as, h2, ⟨h1, h3⟩ | ⟨h0, h1, h3⟩ | ⟨h0, m, es, h1, h3⟩ | ⟨h0, _⟩⟩ := h
    rotate_left 3
    · exact absurd (zwF_cls hop h0) hz
    · refine ⟨none, r, ⟨odAt_none s, h3.symm, ?_, fun _ => rfl, fun _ _ _ _ h => (by cases h), fun _ _ _ _ h => (by cases h), fun _ _ _ _ h => (by cases h), fun _ _ _ _ h => (by cases h)⟩⟩
      intro s1 _ hev _ _
      unfold xopD
      simp only [hop]
      rw [hevf s1 hev]
      exact ⟨r, as, by rw [hmap s1 hev]; exact h2, .inl ⟨h1, rfl⟩⟩
    · refine ⟨none, r, ⟨odAt_none s, h3.symm, ?_, fun _ => rfl, fun _ _ _ _ h => (by cases h), fun _ _ _ _ h => (by cases h), fun _ _ _ _ h => (by cases h), fun _ _ _ _ h => (by cases h)⟩⟩
      intro s1 _ hev _ hrd
      have hrd := hrd (.inl (rdF_cls hop h0))
      unfold xopD
      simp only [hop]
      rw [hevf s1 hev]
      exact ⟨r, as, by rw [hmap s1 hev]; exact h2, .inr (.inl ⟨h0, fun F hF => h1 F fun q x hq hm => hF q x (hrd q x (fun t ht => by rw [hadr] at ht; cases ht) hq hm (fun ht => by rw [hadr] at ht; cases ht)) hm, rfl⟩)⟩
    · obtain ⟨⟨es0, hm0⟩, hbel, hcalls⟩ := h1
      have hcm := mwF_cls hop h0
      refine ⟨some (m, some (.map es0), .map es), r, ⟨odAt_some hm0, h3.symm, ?_, by rw [hcm]; simp, by rw [hcm]; simp, by rw [hcm]; simp, by rw [hcm]; simp, fun _ r' X y hr => ?_⟩⟩
      · intro s1 _ hev hod hrd
        have hrd := hrd (.inr hcm)
        unfold xopD
        simp only [hop]
        rw [hevf s1 hev]
        exact ⟨r, as, by rw [hmap s1 hev]; exact h2, .inr (.inr (.inl ⟨h0, m, es, ⟨⟨es0, (hod _ _ _ rfl).1⟩, hbel, fun F hF => hcalls F fun q x hq hm => hF q x (hrd q x (fun t ht => by rw [hadr] at ht; cases ht) hq hm (fun ht => by rw [hadr] at ht; cases ht)) hm⟩, rfl⟩))⟩
      · simp only [Option.some.injEq, Prod.mk.injEq] at hr; obtain ⟨rfl, rfl, rfl⟩ := hr; exact ⟨⟨_, rfl⟩, _, rfl⟩
  · have hx : ∀ (k : Nat) (K : AState → Prop) (s : AState), xopD P C k o K s = match effD C k o s with
        | some ⟨c, v, s'⟩ => c ∧ K (s'.put o.dst v)
        | none => False := by
      intro k K s
      unfold xopD
      split
      · rename_i f args ts hop; exact absurd ⟨f, args, ts, hop⟩ hcall
      · rfl
    rw [hx] at h
    split at h
    case h_2 => cases h
    rename_i c v s0 heff
    obtain ⟨hc, rfl⟩ := h
    rcases cls_cases (C := C) o with ⟨hcl, hh | hh | hh⟩ | ⟨hcl, hh⟩ | ⟨args, ts, hop, hh⟩ | ⟨hna, hnb, hnp, hh⟩
    · obtain ⟨t, hop⟩ := hh
      simp only [effD, hop] at heff
      split at heff
      case h_2 => cases heff
      rename_i l hT ho
      simp only [Option.some.injEq, Out.mk.injEq] at heff
      obtain ⟨rfl, rfl, rfl⟩ := heff
      refine ⟨some (k, some .dead, .box (cellsOf l.zero)), _, ⟨odAt_some ho, rfl, ?_, by simp [hcl], ?_, by simp [hcl], by simp [hcl], by simp [hcl]⟩⟩
      · intro s1 hb _ hobj _
        rw [hx]
        simp only [effD, hop, hT, (hobj _ _ _ rfl).1]
        exact ⟨by rw [hb]; exact hc, rfl⟩
      · intro _ r X y hr; simp only [Option.some.injEq, Prod.mk.injEq] at hr; obtain ⟨rfl, rfl, rfl⟩ := hr; exact ⟨rfl, .inl ⟨_, rfl⟩, rfl⟩
    · obtain ⟨t, x, hop⟩ := hh
      simp only [effD, hop] at heff
      split at heff
      case h_2 => cases heff
      rename_i ho
      simp only [Option.some.injEq, Out.mk.injEq] at heff
      obtain ⟨rfl, rfl, rfl⟩ := heff
      refine ⟨some (k, some .dead, .box (cellsOf (s.ev x))), _, ⟨odAt_some ho, rfl, ?_, by simp [hcl], ?_, by simp [hcl], by simp [hcl], by simp [hcl]⟩⟩
      · intro s1 hb hev hobj _
        rw [hx]
        have := hev x (by simp [hop, Op.operands])
        simp only [effD, hop, (hobj _ _ _ rfl).1, this]
        exact ⟨by rw [hb]; exact hc, rfl⟩
      · intro _ r X y hr; simp only [Option.some.injEq, Prod.mk.injEq] at hr; obtain ⟨rfl, rfl, rfl⟩ := hr; exact ⟨rfl, .inl ⟨_, rfl⟩, rfl⟩
    · obtain ⟨t, hop⟩ := hh
      simp only [effD, hop] at heff
      split at heff
      case h_2 => cases heff
      rename_i ho
      simp only [Option.some.injEq, Out.mk.injEq] at heff
      obtain ⟨rfl, rfl, rfl⟩ := heff
      refine ⟨some (k, some .dead, .map []), _, ⟨odAt_some ho, rfl, ?_, by simp [hcl], ?_, by simp [hcl], by simp [hcl], by simp [hcl]⟩⟩
      · intro s1 hb _ hobj _
        rw [hx]
        simp only [effD, hop, (hobj _ _ _ rfl).1]
        exact ⟨by rw [hb]; exact hc, rfl⟩
      · intro _ r X y hr; simp only [Option.some.injEq, Prod.mk.injEq] at hr; obtain ⟨rfl, rfl, rfl⟩ := hr; exact ⟨rfl, .inr rfl, rfl⟩
    · obtain ⟨t, p, x, hop⟩ := hh
      rw [effD_eff (by simp [hop]) (by simp [hop]) (by simp [hop])] at heff
      have hx1 : ∀ (K : AState → Prop) (s : AState), xopD P C k o K s = match eff C o s with
        | some ⟨c, v, s'⟩ => c ∧ K (s'.put o.dst v)
        | none => False := fun K s => by rw [hx, effD_eff (by simp [hop]) (by simp [hop]) (by simp [hop])]
      have hadr : ∀ {r : Nat}, objOf (s.ev p) = some r → ∀ t, adrT o = some t → objOf (s.env t) = some r := by
        intro r hr t' ht'
        unfold adrT at ht'
        rw [hop] at ht'
        split at ht' <;> simp_all [AState.ev]
      simp only [eff, hop] at heff
      split at heff
      case h_2 => cases heff
      rename_i l hT
      split at heff
      case h_3 => cases heff
      · rename_i r off hev
        split at heff
        case h_2 => cases heff
        rename_i cs ho
        simp only [Option.some.injEq, Out.mk.injEq] at heff
        obtain ⟨rfl, rfl, rfl⟩ := heff
        refine ⟨some (r, some (.box cs), .box (setRange cs off (cellsOf (s.ev x)))), _, ⟨odAt_some ho, rfl, ?_, by simp [hcl], by simp [hcl], by simp [hcl], ?_, by simp [hcl]⟩⟩
        · intro s1 hb hev1 hobj _
          have e1 := hev1 p (by simp [hop, Op.operands])
          have e2 := hev1 x (by simp [hop, Op.operands])
          rw [hx1]
          simp only [eff, hop, hT, e1, e2, hev, (hobj _ _ _ rfl).1]
          exact ⟨by rw [hb]; exact hc, rfl⟩
        · intro _ r' X y hr; simp only [Option.some.injEq, Prod.mk.injEq] at hr; obtain ⟨rfl, rfl, rfl⟩ := hr
          exact ⟨⟨_, rfl, rfl⟩, rfl, hadr (by rw [hev]; rfl)⟩
      · rename_i r ver size i off hev
        split at heff
        case h_2 => cases heff
        rename_i v' sz es ho
        simp only [Option.some.injEq, Out.mk.injEq] at heff
        obtain ⟨rfl, rfl, rfl⟩ := heff
        refine ⟨some (r, some (.arr v' sz es), .arr v' sz (es.set i (reCells (es.getD i .any) (setRange (cellsOf (es.getD i .any)) off (cellsOf (s.ev x)))))), _, ⟨odAt_some ho, rfl, ?_, by simp [hcl], by simp [hcl], by simp [hcl], ?_, by simp [hcl]⟩⟩
        · intro s1 hb hev1 hobj _
          have e1 := hev1 p (by simp [hop, Op.operands])
          have e2 := hev1 x (by simp [hop, Op.operands])
          rw [hx1]
          simp only [eff, hop, hT, e1, e2, hev, (hobj _ _ _ rfl).1]
          exact ⟨by rw [hb]; exact hc, rfl⟩
        · intro _ r' X y hr; simp only [Option.some.injEq, Prod.mk.injEq] at hr; obtain ⟨rfl, rfl, rfl⟩ := hr
          exact ⟨⟨_, rfl, rfl⟩, rfl, hadr (by rw [hev]; rfl)⟩
    · rcases hh with ⟨hcl, hin⟩ | ⟨hcl, hin⟩
      rotate_left
      · simp only [effD, hop] at heff
        split at heff
        case isFalse => cases heff
        rename_i hall
        have hall0 := hall
        simp only [appOK, hin, if_true] at hall
        split at hall
        case h_2 => cases hall
        rename_i pa px hargs
        simp only [Bool.and_eq_true] at hall
        obtain ⟨r, ver, len, hms⟩ : ∃ r ver len, s.ev pa = .ms r ver len := by
          revert hall; cases s.ev pa <;> simp [isMs]
        simp only [eff, hop, hin, hargs, List.map_cons, List.map_nil, hms] at heff
        unfold effBuiltin at heff
        split at heff <;> first | contradiction | skip
        all_goals first | (rename_i has; simp at has; done) | skip
        rename_i t t' a x _ hts has
        simp only [List.cons.injEq, and_true] at has
        obtain ⟨rfl, rfl⟩ := has
        split at heff
        case isFalse => cases heff
        rename_i htt
        obtain ⟨X, y, g1, g2, g3⟩ := effAppend_ms hall.2 heff
        simp only at g2
        refine ⟨some (r, some X, y), v, ⟨odAt_some g1, by rw [g2]; rfl, ?_, by rw [hcl]; simp, by rw [hcl]; simp, by rw [hcl]; simp, by rw [hcl]; simp, by rw [hcl]; simp⟩⟩
        intro s1 hb hev hobj _
        have m1 := hev pa (by simp [hop, Op.operands, Call.operands, hargs])
        have m2 := hev px (by simp [hop, Op.operands, Call.operands, hargs])
        rw [hx]
        have hall1 : appOK C o s1 args = true := by
          simp only [appOK, hin, if_true, hargs, m1, m2, hall.1, hall.2, Bool.and_self]
        simp only [effD, hop, hall1, if_true, eff, hin, hargs, List.map_cons, List.map_nil, m1, m2, hms]
        rw [show ts.toList = [t, t'] from hts]
        simp only [effBuiltin, if_pos htt]
        rw [g3 s1 hb (hobj _ _ _ rfl).1]
        exact ⟨hc, rfl⟩
      simp only [effD, hop] at heff
      split at heff
      case isFalse => cases heff
      rename_i hall
      simp only [appOK, hin, Bool.false_eq_true, if_false] at hall
      simp only [eff, hop, hin] at heff
      unfold effBuiltin at heff
      split at heff <;> first | contradiction | skip
      rename_i t t' a x _ hts has
      split at heff
      case isFalse => cases heff
      rename_i htt
      have hmap : args.toList.map s.ev = [a, x] := has
      have hsl : slOK a = true ∧ slOK x = true := by
        have h1 : ∀ p ∈ args.toList.map s.ev, slOK p = true := by
          intro p hp
          obtain ⟨q, hq, rfl⟩ := List.mem_map.1 hp
          exact List.all_eq_true.1 hall q hq
        rw [hmap] at h1
        exact ⟨h1 _ (by simp), h1 _ (by simp)⟩
      obtain ⟨od, g1, g2, g3, g4⟩ := effAppend_od hsl.1 hsl.2 heff
      simp only at g2
      refine ⟨od, v, ⟨g1, by rw [g2]; rfl, ?_, by simp [hcl], by simp [hcl], fun _ => g3, by simp [hcl], by simp [hcl]⟩⟩
      intro s1 hb hev hobj _
      have hm : args.toList.map s1.ev = args.toList.map s.ev := List.map_congr_left fun p hp => hev p (by simp only [hop, Op.operands, Call.operands]; simpa using hp)
      have hall1 : (args.toList.all fun p => slOK (s1.ev p)) = true := by
        rw [List.all_eq_true] at hall ⊢
        intro p hp
        have := hall p hp
        rw [hev p (by simp only [hop, Op.operands, Call.operands]; simpa using hp)]; exact this
      rw [hx]
      have hall2 : appOK C o s1 args = true := by simp only [appOK, hin, Bool.false_eq_true, if_false]; exact hall1
      simp only [effD, hop, hall2, if_true, eff, hin, hm, hmap]
      rw [show ts.toList = [t, t'] from hts]
      simp only [effBuiltin, if_pos htt]
      rw [g4 s1 hb hobj]
      exact ⟨hc, rfl⟩
    · rw [effD_eff hna hnb hnp] at heff
      have hx1 : ∀ (K : AState → Prop) (s : AState), xopD P C k o K s = match eff C o s with
        | some ⟨c, v, s'⟩ => c ∧ K (s'.put o.dst v)
        | none => False := fun K s => by rw [hx, effD_eff hna hnb hnp]
      rcases hh with ⟨hcl, ht⟩ | ⟨hcl, hs, _⟩ | hh | ⟨_, hh⟩ | ⟨_, hh⟩
      · have hnc : ∀ c, o.op ≠ .call c := by
          intro c hop
          unfold tOp at ht
          rw [hop] at ht
          split at ht <;> simp_all
        have h0 := eff_t ht hnc (s := s) (s1 := s) (fun _ _ => rfl) heff
        obtain ⟨h0, _⟩ := h0
        simp only at h0; subst h0
        refine ⟨none, v, ⟨odAt_none _, rfl, ?_, fun _ => rfl, by simp [hcl], by simp [hcl], by simp [hcl], by simp [hcl]⟩⟩
        intro s1 _ hev _ _
        rw [hx1, (eff_t ht hnc (s := s0) (s1 := s1) hev heff).2]
        exact ⟨hc, rfl⟩
      · have h0 := eff_agree hs (s := s) (s1 := s) ⟨fun _ _ => rfl, fun _ _ h _ => h⟩ heff
        obtain ⟨h0, _⟩ := h0
        simp only at h0; subst h0
        refine ⟨none, v, ⟨odAt_none _, rfl, ?_, fun _ => rfl, by simp [hcl], by simp [hcl], by simp [hcl], by simp [hcl]⟩⟩
        intro s1 _ hev _ hob
        have hob := hob (.inl hcl)
        have key : eff C o s1 = some ⟨c, v, s1⟩ := by
          by_cases had : ∃ t, adrT o = some t
          · obtain ⟨ta, hta⟩ := had
            unfold adrT at hta
            split at hta
            · rename_i t t0 hop
              cases hta
              have e1 := hev (.tmp ta) (by simp [hop, Op.operands])
              simp only [eff, hop] at heff ⊢
              split at heff
              case h_2 => cases heff
              rename_i l cs off cc hT hcs
              have := cellsAt_agree (s1 := s1) (fun r x hr ho hm hmp => hob r x (fun t' ht' => by simp only [adrT, hop, Option.some.injEq] at ht'; subst ht'; exact hr) ho hm fun _ => hmp) hcs
              rw [e1, hT, this]
              simp only [Option.some.injEq, Out.mk.injEq] at heff ⊢
              exact ⟨heff.1, heff.2.1, trivial⟩
            · rename_i hop; simp [simpleOp, hop] at hs
            · cases hta
          · exact (eff_agree hs (s := s0) (s1 := s1) ⟨hev, fun r x ho hm => hob r x (fun t ht => absurd ⟨t, ht⟩ had) ho hm fun hs => absurd (Option.isSome_iff_exists.1 hs) had⟩ heff).2
        rw [hx1, key]
        exact ⟨hc, rfl⟩
      · exact absurd hh hz
      · exfalso; unfold rdOp at hh; split at hh
        · rename_i f args ts hop; exact hcall ⟨f, args, ts, hop⟩
        · cases hh
      · exfalso; unfold mwOp at hh; split at hh
        · rename_i f args ts hop; exact hcall ⟨f, args, ts, hop⟩
        · cases hh

theorem st_yl {k : Nat} {o : Oper} {s s' : AState} (hz : cls C o ≠ .z) (h : St P C ops k o s s') : ∃ od v, Yl P C ops k o s s' od v := by
  have lift : ∀ {od v}, YlX P C k o s s' od v → (∀ s1, EnvAg ops o s s1 → xopD P C k o (· = act od o.dst v s1) s1 → St P C ops k o s1 (act od o.dst v s1)) → Yl P C ops k o s s' od v :=
    fun hy hg => ⟨hy.1, hy.2.1, fun s1 hb he ho hq => hg s1 he (hy.2.2.1 s1 hb (ev_of_env he) ho hq), hy.2.2.2.1, hy.2.2.2.2.1, hy.2.2.2.2.2.1, hy.2.2.2.2.2.2.1, hy.2.2.2.2.2.2.2⟩
  unfold St xguardD at h
  split at h
  · rename_i hg
    obtain ⟨od, v, hy⟩ := xopD_yl hz h
    exact ⟨od, v, lift hy fun s1 he hx => by unfold St xguardD; rw [hg]; exact hx⟩
  · rename_i t want hg
    split at h
    case h_3 => cases h
    · rename_i b hb
      split at h
      · rename_i hw
        obtain ⟨od, v, hy⟩ := xopD_yl hz h
        exact ⟨od, v, lift hy fun s1 he hx => by unfold St xguardD; rw [hg]; simp only [guard_env he hg, hb, if_pos hw]; exact hx⟩
      · rename_i hw
        refine ⟨none, .tup [], ⟨odAt_none s, h.symm, fun s1 hb1 he _ _ => ?_, fun _ => rfl, by simp, by simp, by simp, by simp⟩⟩
        unfold St xguardD
        rw [hg]
        simp only [guard_env he hg, hb, if_neg hw]
        rfl
    · rename_i hb
      refine ⟨none, .tup [], ⟨odAt_none s, h.symm, fun s1 hb1 he _ _ => ?_, fun _ => rfl, by simp, by simp, by simp, by simp⟩⟩
      unfold St xguardD
      rw [hg]
      simp only [guard_env he hg, hb]
      rfl
  · cases h

theorem put_b (s : AState) (d : Option Tmp) (v : AV) : (s.put d v).b = s.b := by cases d <;> rfl
theorem put_n (s : AState) (d : Option Tmp) (v : AV) : (s.put d v).n = s.n := by cases d <;> rfl
theorem put_H (s : AState) (d : Option Tmp) (v : AV) : (s.put d v).H = s.H := by cases d <;> rfl
theorem put_L (s : AState) (d : Option Tmp) (v : AV) : (s.put d v).L = s.L := by cases d <;> rfl
theorem put_obj (s : AState) (d : Option Tmp) (v : AV) : (s.put d v).obj = s.obj := by cases d <;> rfl
theorem put_new (s : AState) (d : Option Tmp) (v : AV) (x : AObj) : (s.put d v).new x = (s.new x).put d v := by cases d <;> rfl
theorem put_env_ne (s : AState) {d : Option Tmp} (v : AV) {t : Nat} (h : ∀ e, d = some e → e ≠ t) : (s.put d v).env t = s.env t := by
  cases d with
  | none => rfl
  | some d => simp only [AState.put, upd_eq]; exact if_neg fun e => h d rfl e.symm
theorem setObj_hlen (s : AState) (r : Nat) (x : AObj) : (s.setObj r x).H.length = s.H.length := by unfold AState.setObj; split <;> simp
theorem setObj_llen (s : AState) (r : Nat) (x : AObj) : (s.setObj r x).L.length = s.L.length := by unfold AState.setObj; split <;> simp
theorem act0_b (od : Od) (s : AState) : (act0 od s).b = s.b := by
  unfold act0; split
  · rfl
  · rfl
  · exact setObj_b _ _ _
theorem act0_env (od : Od) (s : AState) : (act0 od s).env = s.env := by
  unfold act0; split
  · rfl
  · rfl
  · exact setObj_env _ _ _
theorem act0_hlen (od : Od) (s : AState) : (act0 od s).H.length = s.H.length := by
  unfold act0; split
  · rfl
  · rfl
  · exact setObj_hlen _ _ _
theorem act_b (od : Od) (d : Option Tmp) (v : AV) (s : AState) : (act od d v s).b = s.b := by unfold act; rw [put_b, act0_b]
theorem act_env_ne (od : Od) {d : Option Tmp} (v : AV) (s : AState) {t : Nat} (h : ∀ e, d = some e → e ≠ t) : (act od d v s).env t = s.env t := by
  unfold act; rw [put_env_ne _ _ h, act0_env]
theorem act_hlen (od : Od) (d : Option Tmp) (v : AV) (s : AState) : (act od d v s).H.length = s.H.length := by unfold act; rw [put_H, act0_hlen]
theorem setObj_comm (s : AState) {r q : Nat} (x y : AObj) (h : r ≠ q) : (s.setObj r x).setObj q y = (s.setObj q y).setObj r x := by
  unfold AState.setObj
  by_cases h1 : r < s.b <;> by_cases h2 : q < s.b <;> simp only [h1, h2, if_true, if_false]
  · rw [List.set_comm _ _ h]
  · have : r - s.b ≠ q - s.b := by omega
    rw [List.set_comm _ _ this]
theorem obj_lt {s : AState} (hb : s.b = s.H.length) {r : Nat} {X : AObj} (h : s.obj r = some X) : r < s.b + s.L.length := by
  unfold AState.obj at h
  split at h
  · omega
  · have := (List.getElem?_eq_some_iff.1 h).1; omega
theorem new_setObj {s : AState} (hb : s.b = s.H.length) {r : Nat} {X : AObj} (h : s.obj r = some X) (x y : AObj) : (s.new x).setObj r y = (s.setObj r y).new x := by
  have hlt := obj_lt hb h
  unfold AState.setObj AState.new
  by_cases h1 : r < s.b
  · simp only [h1, if_true]
  · simp only [h1, if_false]
    rw [List.set_append_left _ _ (by omega)]
theorem put_put_comm (s : AState) {d e : Option Tmp} (v u : AV) (h : ∀ t, d = some t → e ≠ some t) : (s.put d v).put e u = (s.put e u).put d v := by
  cases d with
  | none => cases e <;> rfl
  | some d =>
    cases e with
    | none => rfl
    | some e =>
      have hde : d ≠ e := fun hh => h d rfl (by rw [hh])
      simp only [AState.put]
      congr 1
      funext t
      simp only [upd_eq]
      by_cases h1 : t = d
      · subst h1; simp [hde]
      · simp [h1]
theorem put_setObj (s : AState) (d : Option Tmp) (v : AV) (r : Nat) (x : AObj) : (s.put d v).setObj r x = (s.setObj r x).put d v := by
  cases d with
  | none => rfl
  | some d => unfold AState.setObj AState.put; simp only; split <;> rfl
theorem act0_put (od : Od) (s : AState) (d : Option Tmp) (v : AV) : act0 od (s.put d v) = (act0 od s).put d v := by
  unfold act0; split
  · rfl
  · exact put_new _ _ _ _
  · exact put_setObj _ _ _ _ _
theorem act0_comm {od oe : Od} {s : AState} (hb : s.b = s.H.length) (h1 : OdAt od s) (h2 : ∀ r X y, oe = some (r, X, y) → s.obj r = X)
    (ho : ∀ r X y q Z z, od = some (r, X, y) → oe = some (q, Z, z) → r ≠ q) (hn : ∀ r y q z, od = some (r, none, y) → oe = some (q, none, z) → False) : act0 oe (act0 od s) = act0 od (act0 oe s) := by
  match od, oe with
  | none, _ => rfl
  | some _, none => rfl
  | some (r, none, y), some (q, none, z) => exact (hn _ _ _ _ rfl rfl).elim
  | some (r, none, y), some (q, some Z, z) => exact new_setObj hb (h2 _ _ _ rfl) y z
  | some (r, some X, y), some (q, none, z) => exact (new_setObj hb (h1 _ _ _ rfl).1 z y).symm
  | some (r, some X, y), some (q, some Z, z) => exact setObj_comm s y z (ho _ _ _ _ _ _ rfl rfl)
theorem act_comm {od oe : Od} {d e : Option Tmp} (v u : AV) {s : AState} (hb : s.b = s.H.length) (h : ∀ t, d = some t → e ≠ some t) (h1 : OdAt od s) (h2 : ∀ r X y, oe = some (r, X, y) → s.obj r = X)
    (ho : ∀ r X y q Z z, od = some (r, X, y) → oe = some (q, Z, z) → r ≠ q) (hn : ∀ r y q z, od = some (r, none, y) → oe = some (q, none, z) → False) : act oe e u (act od d v s) = act od d v (act oe e u s) := by
  unfold act
  rw [act0_put, act0_put, act0_comm hb h1 h2 ho hn]
  exact put_put_comm _ v u h
theorem act_obj {od : Od} {d : Option Tmp} {v : AV} {s : AState} (hb : s.b = s.H.length) (h : OdAt od s) {r : Nat} {X : Option AObj} {y : AObj} (hr : od = some (r, X, y)) : (act od d v s).obj = fun q => if q = r then some y else s.obj q := by
  subst hr
  unfold act
  rw [put_obj]
  cases X with
  | none =>
    have := (h _ _ _ rfl).2 rfl
    subst this
    exact obj_new s y
  | some X => exact obj_setObj hb (h _ _ _ rfl).1
theorem act_obj_none {d : Option Tmp} {v : AV} {s : AState} : (act none d v s).obj = s.obj := by unfold act; rw [put_obj]; rfl
theorem act_llen {od : Od} {d : Option Tmp} {v : AV} {s : AState} (h : ∀ r y, od ≠ some (r, none, y)) : (act od d v s).L.length = s.L.length := by
  unfold act; rw [put_L]
  match od, h with
  | none, _ => rfl
  | some (r, none, y), h => exact absurd rfl (h r y)
  | some (r, some X, y), _ => exact setObj_llen _ _ _

def NoRd (o : Oper) (s : AState) (r : Nat) (x : Option AObj) : Prop := (∀ y, x = some y → y.mute = true) ∨ (∃ t, adrT o = some t ∧ objOf (s.env t) ≠ some r) ∨ ((adrT o).isSome = true ∧ ∃ es, x = some (.map es))

theorem swap {kx ky : Nat} {x y : Oper} {s s1 s2 : AState} {ox oy : Od} {vx vy : AV} (hb : s.b = s.H.length) (hap : x.apart ops y = true) (hx : Yl P C ops kx x s s1 ox vx) (hy : Yl P C ops ky y s1 s2 oy vy)
    (hne : ∀ r X y' q Z z, ox = some (r, X, y') → oy = some (q, Z, z) → r ≠ q) (hnn : ∀ r y q z, ox = some (r, none, y) → oy = some (q, none, z) → False)
    (hq1 : cls C y = .q ∨ cls C y = .m → ∀ r X y', ox = some (r, X, y') → NoRd y s1 r (some y')) (hq2 : cls C x = .q ∨ cls C x = .m → ∀ r X y', oy = some (r, X, y') → NoRd x s r X) :
    ∃ s1', St P C ops ky y s s1' ∧ St P C ops kx x s1' s2 := by
  obtain ⟨a1, a2, a3⟩ := Oper.apart_spec hap
  have hd1 : ∀ (t : Nat), t ∈ y.looksAt ops → ∀ e, x.dst = some e → e ≠ t := fun t ht e he hh => a1 e he (hh ▸ ht)
  have hd2 : ∀ (t : Nat), t ∈ x.looksAt ops → ∀ e, y.dst = some e → e ≠ t := fun t ht e he hh => a3 e he (hh ▸ ht)
  have hs1obj : ∀ r X y', ox = some (r, X, y') → s1.obj = fun q => if q = r then some y' else s.obj q := by
    intro r X y' hr
    rw [hx.to]; exact act_obj hb hx.at_ hr
  have hs1none : ox = none → s1.obj = s.obj := fun hn => by rw [hx.to, hn]; exact act_obj_none
  have hy1 : OdAt oy s := by
    intro r X y' hr
    have e1 := (hy.at_ _ _ _ hr).1
    have e2 := (hy.at_ _ _ _ hr).2
    refine ⟨?_, fun hX => ?_⟩
    · cases hox : ox with
      | none => rw [hs1none hox] at e1; exact e1
      | some q =>
        obtain ⟨q, Z, z⟩ := q
        rw [hs1obj _ _ _ hox] at e1
        simpa [Ne.symm (hne _ _ _ _ _ _ hox hr)] using e1
    · have h3 := e2 hX
      have h4 : s1.L.length = s.L.length := by
        rw [hx.to]; refine act_llen fun r' y'' hr' => ?_
        subst hX; exact hnn _ _ _ _ hr' hr
      have h5 : s1.b = s.b := by rw [hx.to, act_b]
      rw [h3, h4, h5]
  have hstep1 : St P C ops ky y s (act oy y.dst vy s) := by
    refine hy.stab s ?_ ?_ hy1 ?_
    · rw [hx.to, act_b]
    · intro t ht; rw [hx.to, act_env_ne _ _ _ (hd1 t ht)]
    · intro hcy r X hrd hr hm hmp
      cases hox : ox with
      | none => rw [hs1none hox] at hr; exact hr
      | some q =>
        obtain ⟨q, Z, z⟩ := q
        rw [hs1obj _ _ _ hox] at hr
        by_cases hrq : r = q
        · subst hrq
          simp only [if_true, Option.some.injEq] at hr
          subst hr
          rcases hq1 hcy _ _ _ hox with h | ⟨t, h1, h2⟩ | ⟨h1, es, h2⟩
          · rw [h _ rfl] at hm; cases hm
          · exact absurd (hrd t h1) h2
          · have := hmp h1; rw [Option.some.inj h2] at this; cases this
        · simpa [hrq] using hr
  have hs1'obj : ∀ r X y', oy = some (r, X, y') → (act oy y.dst vy s).obj = fun q => if q = r then some y' else s.obj q := fun r X y' hr => act_obj hb hy1 hr
  have hstep2 := hx.stab (act oy y.dst vy s) (act_b _ _ _ _) (fun t ht => act_env_ne _ _ _ (hd2 t ht)) (by
    intro r X y' hr
    have e1 := hx.at_ _ _ _ hr
    refine ⟨?_, fun hX => ?_⟩
    · cases hoy : oy with
      | none => rw [act_obj_none]; exact e1.1
      | some q =>
        obtain ⟨q, Z, z⟩ := q
        rw [← hoy, hs1'obj _ _ _ hoy]
        simp only [hne _ _ _ _ _ _ hr hoy, if_false]
        exact e1.1
    · have h4 : (act oy y.dst vy s).L.length = s.L.length := by
        refine act_llen fun r' y'' hr' => ?_
        subst hX; exact hnn _ _ _ _ hr hr'
      rw [h4, act_b]; exact e1.2 hX) (by
    intro hcx
    cases hoy : oy with
    | none => intro r X _ hr _ _; rw [act_obj_none]; exact hr
    | some q =>
      obtain ⟨q, Z, z⟩ := q
      intro r X hrd hr hm hmp
      rw [← hoy, hs1'obj _ _ _ hoy]
      have : r ≠ q := by
        intro hh; subst hh
        have h7 := (hy1 _ _ _ hoy).1
        rw [hr] at h7
        rcases hq2 hcx _ _ _ hoy with h | ⟨t, h1, h2⟩ | ⟨h1, es, h2⟩
        · rw [h X h7.symm] at hm; cases hm
        · exact absurd (hrd t h1) h2
        · have := hmp h1; rw [h2] at h7; rw [Option.some.inj h7] at this; cases this
      simp only [this, if_false]; exact hr)
  refine ⟨_, hstep1, ?_⟩
  have := act_comm vx vy hb a2 hx.at_ (fun r X y hr => (hy1 r X y hr).1) hne hnn
  rw [← hx.to, ← hy.to] at this
  rw [this]
  exact hstep2

end
end Go.Ab

/- Regions whose order the world draws, third part: every order ends where the text's does. Condition: the executor's table of types is the program's. -/
set_option linter.unusedSimpArgs false
namespace Go.Ab
open Go.RowKit (Below)

section
variable {P : Program} {C : Cfg} {ops : Array Oper} {V : View} {w : World} {s : AState} {a : Act} {o : Oper}

theorem new_box_at (hr : RelW V w s) {k : Nat} (ho : s.obj k = some .dead) (hk : s.b ≤ k) {cells : Array Value} {cs : List AV} (hc : RepL V cells.toList cs) (ty : TypeId) :
    ∃ V', V.Le V' ∧ V'.loc k 0 = some (some w.heap.size, 0) ∧ RelW V' (w.alloc (.cells cells ty)) (s.setObj k (.box cs)) := by
  obtain ⟨V', h1, h2, h3⟩ := hr.inv.newObj k (.inr ho) (.box cs) (.cells cells ty) 0 0 (by
    intro V' hV hb hl _ hi
    refine ⟨⟨w.heap.size, 0, cells, ty, hl, heap_alloc_new w _, by rw [hb]; exact hr.inv.base, by simpa using hc.1, fun i hi => ?_, hi⟩, by simp [own, hl]⟩
    have := (hc.mono hV).2 i hi
    simpa [List.getD_eq_getElem?_getD] using this)
  exact ⟨V', h1, h2, hr.setObj ho h3 (fun h => by omega)⟩

theorem new_map_at (hr : RelW V w s) {k : Nat} (ho : s.obj k = some .dead) (hk : s.b ≤ k) :
    ∃ V', V.Le V' ∧ V'.loc k 0 = some (some w.heap.size, 0) ∧ RelW V' (w.alloc (.map #[] 0)) (s.setObj k (.map [])) := by
  obtain ⟨V', h1, h2, h3⟩ := hr.inv.newObj k (.inr ho) (.map []) (.map #[] 0) 0 0 (by
    intro V' hV hb hl _ hi
    exact ⟨⟨w.heap.size, 0, #[], 0, hl, heap_alloc_new w _, by rw [hb]; exact hr.inv.base, ⟨rfl, fun i hi => absurd hi (by simp)⟩, hi⟩, by simp [own, hl]⟩)
  exact ⟨V', h1, h2, hr.setObj ho h3 (fun h => by omega)⟩

theorem effD_sound (hC : CfgOK P C) (hr : Rel V a w s) {k : Nat} {out : Out} (h : effD C k o s = some out) (hc : out.c) (hok : operOK o = true) : OpSound P V a w s o out := by
  have hk : ∀ x ∈ o.op.operands.toList, opndOK x = true := List.all_eq_true.1 hok
  unfold effD at h
  split at h
  · rename_i t hop
    split at h
    case h_2 => cases h
    rename_i l hT ho
    simp only [Option.some.injEq] at h; subst h
    obtain ⟨z, hz, hzr⟩ := (hC _ _ hT).run_zero w
    obtain ⟨V', h1, h2, h3⟩ := new_box_at hr.toW ho hc ((hzr V).cellsL (hC _ _ hT).solid) t
    refine ⟨_, _, V', ?_, h1, below_alloc w _ hr.inv.base, h3, setObj_env _ _ _, setObj_n _ _ _, setObj_b _ _ _, .inl ⟨_, rfl, .bptr _ 0 _ _ h2⟩⟩
    simp only [execOp, hop, Instr.alloc, newVar, Go.newRow, Sem.run_bind, hz, Result.andThen_ok, run_newObj, Sem.run_pure, World.alloc_eq]
  · rename_i t x hop
    split at h
    case h_2 => cases h
    rename_i ho
    simp only [Option.some.injEq] at h; subst h
    obtain ⟨V', h1, h2, h3⟩ := new_box_at hr.toW ho hc.1 ((ev_rep hr x (hk x (by simp [hop, Op.operands]))).cellsL hc.2) t
    refine ⟨_, _, V', ?_, h1, below_alloc w _ hr.inv.base, h3, setObj_env _ _ _, setObj_n _ _ _, setObj_b _ _ _, .inl ⟨_, rfl, .bptr _ 0 _ _ h2⟩⟩
    simp only [execOp, hop, Instr.box, newVar, Go.newRow, Sem.run_bind, Result.andThen_ok, run_newObj, Sem.run_pure, World.alloc_eq]
  · rename_i t hop
    split at h
    case h_2 => cases h
    rename_i ho
    simp only [Option.some.injEq] at h; subst h
    obtain ⟨V', h1, h2, h3⟩ := new_map_at hr.toW ho hc
    refine ⟨_, _, V', ?_, h1, below_alloc w _ hr.inv.base, h3, setObj_env _ _ _, setObj_n _ _ _, setObj_b _ _ _, .inl ⟨_, rfl, .mp _ _ _ h2⟩⟩
    simp only [execOp, hop, Instr.makeMap, Option.map_none, Sem.run_bind, run_newObj, Result.andThen_ok, Sem.run_pure, World.alloc_eq]
  · split at h
    · exact eff_sound hC hr h hc hok
    · cases h
  · exact eff_sound hC hr h hc hok

theorem normL_at {args args' : List AV} (ha : args' = args ∨ args' = AV.normL args) : (∀ i, args'.getD i .any = args.getD i .any ∨ args'.getD i .any = (args.getD i .any).norm) ∧ args'.length = args.length := by
  rcases ha with rfl | rfl
  · exact ⟨fun i => .inl rfl, rfl⟩
  · exact ⟨fun i => .inr (normL_getD _ _), normL_length _⟩
theorem callK_q {f : Nat} {args args' : List AV} {K : AV → AState → Prop} {r : AV} (hb : s.b = s.H.length) (hbel : ∀ x ∈ s.H, x.bel s.b = true) (h : QCalls P f args' r s.obj) (ha : args' = args ∨ args' = AV.normL args) (hK : K r s) : CallK P f args s K := by
  obtain ⟨a1, a2⟩ := normL_at ha
  refine callK_of (h (s.H ++ s.L) fun q x hq _ => by rw [obj_heap hb] at hq; exact hq) a1 a2 ?_
  rintro r' H'' ⟨rfl, rfl⟩ _
  have e1 : (s.H ++ s.L).take s.b = s.H := by rw [hb]; simp
  have e2 : (s.H ++ s.L).drop s.b = s.L := by rw [hb]; simp
  rw [e1, e2]
  exact ⟨hbel, hK⟩
theorem callK_m {f : Nat} {args args' : List AV} {K : AV → AState → Prop} {r : AV} {m : Nat} {es : List (AV × AV)} (hb : s.b = s.H.length) (hbel : ∀ x ∈ s.H, x.bel s.b = true) (h : MCalls P f args' r s.obj m es) (ha : args' = args ∨ args' = AV.normL args) (hK : K r (s.setObj m (.map es))) : CallK P f args s K := by
  obtain ⟨a1, a2⟩ := normL_at ha
  obtain ⟨_, hm, hc⟩ := h
  refine callK_of (hc (s.H ++ s.L) fun q x hq _ => by rw [obj_heap hb] at hq; exact hq) a1 a2 ?_
  rintro r' H'' ⟨rfl, rfl⟩ _
  have e : ({ s with H := ((s.H ++ s.L).set m (.map es)).take s.b, L := ((s.H ++ s.L).set m (.map es)).drop s.b } : AState) = s.setObj m (.map es) := by
    unfold AState.setObj
    rw [hb]
    split
    · rename_i hlt
      rw [List.set_append_left _ _ hlt]; simp
    · rename_i hlt
      rw [List.set_append_right _ _ (by omega)]; simp
  rw [e]
  refine ⟨fun x hx => ?_, hK⟩
  rw [hb] at hx
  by_cases hlt : m < s.H.length
  · rw [List.set_append_left _ _ hlt] at hx
    simp only [List.length_set, List.take_left'] at hx
    rcases List.mem_or_eq_of_mem_set hx with hx | rfl
    · exact hbel x hx
    · exact hm _
  · rw [List.set_append_right _ _ (by omega)] at hx
    simp at hx; exact hbel x hx
theorem callK_z {f : Nat} {args args' : List AV} {K : AV → AState → Prop} {r : AV} {F' : List AObj} (hbel : ∀ x ∈ s.H, x.bel s.b = true) (h : ZCalls P f args' r s F') (ha : args' = args ∨ args' = AV.normL args) (hK : K r { s with H := F'.take s.b, L := F'.drop s.b }) : CallK P f args s K := by
  obtain ⟨a1, a2⟩ := normL_at ha
  refine callK_of h.2 a1 a2 ?_
  rintro r' H'' ⟨rfl, rfl⟩ _
  exact ⟨h.1 hbel, hK⟩
theorem xopD_sound (hC : CfgOK P C) (hr : Rel V a w s) (hok : operOK o = true) (hd : dstOK s.n o = true) {k : Nat} {K : AState → Prop} {K' : Act → World → Prop} {Q : Exit → Act → World → Prop}
    (h : xopD P C k o K s) (hK : ∀ V' a' w' s', V.Le V' → Below V.base w w' → Rel V' a' w' s' → s'.n = s.n → s'.b = s.b → K s' → K' a' w') : o.wp P a w K' Q := by
  by_cases hcall : ∃ f args ts, o.op = .call { callee := .value f, args := args, argTypes := ts }
  · obtain ⟨f, args, ts, hop⟩ := hcall
    have hx : xop P C o K s := by
      unfold xopD at h
      unfold xop
      simp only [hop] at h ⊢
      split at h
      case h_2 => cases h
      rename_i g hg
      obtain ⟨r, as, h2, ⟨h1, h3⟩ | ⟨h0, h1, h3⟩ | ⟨h0, m, es, h1, h3⟩ | ⟨h0, F', h1, h3⟩⟩ := h
      rotate_left 3
      · simp only [hg]
        exact callK_z hr.bel h1.1 h2 h3
      · simp only [hg]
        exact callK_p h1 h2 h3
      · simp only [hg]
        exact callK_q hr.hb hr.bel h1 h2 h3
      · simp only [hg]
        exact callK_m hr.hb hr.bel h1 h2 h3
    exact xop_sound hC hr hok hd callK_fn hx hK
  · have h1 : match effD C k o s with
        | some ⟨c, v, s'⟩ => c ∧ K (s'.put o.dst v)
        | none => False := by
      unfold xopD at h
      split at h
      · rename_i f args ts hop; exact absurd ⟨f, args, ts, hop⟩ hcall
      · exact h
    split at h1
    case h_2 => cases h1
    rename_i c v s' heff
    obtain ⟨hc, hKs⟩ := h1
    obtain ⟨nx, w', V', g1, g2, g3, g4, g5, g6, g7, g8⟩ := effD_sound hC hr heff hc hok
    have hrel : Rel V' a w' s' := hr.of_w g2 g4 g5 g6
    unfold Oper.wp
    rw [g1]
    have hn : ∀ x, (s'.put o.dst x).n = s.n := fun x => by rw [← g6]; cases o.dst <;> rfl
    have hbb : ∀ x, (s'.put o.dst x).b = s.b := fun x => by rw [← g7]; cases o.dst <;> rfl
    rcases g8 with ⟨u, rfl, hu⟩ | ⟨rfl, hv⟩
    · rw [Oper.upon_value]
      exact hK V' _ w' _ g2 g3 (hrel.put hu (fun d hd' => by rw [g6]; exact dst_lt hd d hd')) (hn _) (hbb _) hKs
    · rw [Oper.upon_skip]
      simp only at hv
      subst hv
      exact hK V' _ w' _ g2 g3 (hrel.put (.any _) (fun d hd' => by rw [g6]; exact dst_lt hd d hd')) (hn _) (hbb _) hKs

theorem st_sound (hC : CfgOK P C) (hr : Rel V a w s) {i : Nat} (hi : ops[i]? = some o) (hok : operOK o = true) (hd : dstOK s.n o = true) {k : Nat} {s' : AState} {K' : Act → World → Prop} {Q : Exit → Act → World → Prop}
    (h : St P C ops k o s s') (hK : ∀ V' a' w', V.Le V' → Below V.base w w' → Rel V' a' w' s' → s'.n = s.n → s'.b = s.b → K' a' w') : wpOp P ops Q i K' a w := by
  have hwant : ∀ t want b, guardOf ops o = some (some t, want) → s.env t = .bool b → Region.wanted o (yielded ops a.tmps) = (b == want) := by
    intro t want b h1 h2
    unfold guardOf at h1
    cases hgd : o.guard with
    | none => rw [hgd] at h1; simp at h1
    | some gw =>
      obtain ⟨j, wt⟩ := gw
      rw [hgd] at h1
      simp only [Option.map_some, Option.some.injEq, Prod.mk.injEq] at h1
      obtain ⟨h3, rfl⟩ := h1
      have h4 := hr.env t
      rw [h2] at h4
      generalize hv : a.tmps.getD t undef = v at h4
      cases h4
      have h5 : a.tmps[t]? = some (.bool b) := by
        rw [Array.getD_eq_getD_getElem?] at hv
        cases ht : a.tmps[t]? with
        | none => rw [ht] at hv; simp [undef] at hv
        | some y => rw [ht] at hv; simp at hv; rw [hv]
      simp only [Region.wanted, hgd, yielded, h3, Option.bind_some, h5]
      cases b <;> cases wt <;> rfl
  have hskip : ∀ t want, guardOf ops o = some (some t, want) → s.env t = .tup [] → Region.wanted o (yielded ops a.tmps) = false := by
    intro t want h1 h2
    unfold guardOf at h1
    cases hgd : o.guard with
    | none => rw [hgd] at h1; simp at h1
    | some gw =>
      obtain ⟨j, wt⟩ := gw
      rw [hgd] at h1
      simp only [Option.map_some, Option.some.injEq, Prod.mk.injEq] at h1
      obtain ⟨h3, rfl⟩ := h1
      have h4 := hr.env t
      rw [h2] at h4
      generalize hv : a.tmps.getD t undef = v at h4
      cases h4
      rename_i cs hl hh
      have h5 : a.tmps[t]? = some (.tuple cs) ∨ a.tmps[t]? = none := by
        rw [Array.getD_eq_getD_getElem?] at hv
        cases ht : a.tmps[t]? with
        | none => exact .inr rfl
        | some y => rw [ht] at hv; simp at hv; rw [hv]; exact .inl rfl
      simp only [Region.wanted, hgd, yielded, h3, Option.bind_some]
      rcases h5 with h5 | h5 <;> simp [h5]
  unfold wpOp
  simp only [hi]
  unfold St xguardD at h
  split at h
  · rename_i hgd
    have hno : o.guard = none := by
      unfold guardOf at hgd
      simpa using hgd
    rw [if_pos (by simp [Region.wanted, hno])]
    exact .inl (xopD_sound hC hr hok hd h fun V' a' w' s1 h1 h2 h3 h4 h5 h6 => hK V' a' w' h1 h2 (h6 ▸ h3) (h6 ▸ h4) (h6 ▸ h5))
  · rename_i t want hgd
    split at h
    case h_3 => cases h
    · rename_i b hev
      have hw := hwant t want b hgd hev
      split at h
      · rename_i hbw
        rw [if_pos (by rw [hw]; simp [hbw])]
        exact .inl (xopD_sound hC hr hok hd h fun V' a' w' s1 h1 h2 h3 h4 h5 h6 => hK V' a' w' h1 h2 (h6 ▸ h3) (h6 ▸ h4) (h6 ▸ h5))
      · rename_i hbw
        rw [if_neg (by rw [hw]; simp [hbw])]
        subst h
        exact hK V _ w (.refl V) (.refl _ _) (hr.put (rep_undef V) (fun d hd' => dst_lt hd d hd')) (put_n _ _ _) (put_b _ _ _)
    · rename_i hev
      rw [if_neg (by rw [hskip t want hgd hev]; simp)]
      subst h
      exact hK V _ w (.refl V) (.refl _ _) (hr.put (rep_undef V) (fun d hd' => dst_lt hd d hd')) (put_n _ _ _) (put_b _ _ _)
  · cases h

def Run (P : Program) (C : Cfg) (ops : Array Oper) (num : Nat → Nat) : List Nat → AState → AState → Prop
  | [], s, s' => s = s'
  | i :: l, s, s' => ∃ o s1, ops[i]? = some o ∧ St P C ops (num i) o s s1 ∧ Run P C ops num l s1 s'

def objT (o : Oper) : Option Tmp := match o.op with
  | .alloc _ | .box _ _ | .makeMap _ none => o.dst
  | _ => adrT o
def needD : Cls → Cls → Bool
  | .q, .w | .w, .q | .w, .w | .a, .w | .w, .a | .a, .q => true
  | _, _ => false
def onceT (ops : Array Oper) (j : Nat) (o : Oper) (t : Tmp) : Bool := (ops.toList.drop (j + 1)).all (fun m => decide (m.dst ≠ some t)) && (isAl o || decide (o.dst ≠ some t))
def mld (C : Cfg) (x y : Oper) : Bool := (decide (cls C x = .m) && decide (cls C y = .q) && (adrT y).isSome) || (decide (cls C x = .q) && decide (cls C y = .m) && (adrT x).isSome)
def zOp (C : Cfg) (o : Oper) : Bool := match o.op with
  | .call { callee := .value f, .. } => zwF C f
  | _ => false
def isMU (o : Oper) : Bool := match o.op with
  | .mapUpdate _ _ _ _ => true
  | _ => false
def ldT (C : Cfg) (o : Oper) : Option (Tmp × Nat) := match o.op with
  | .load t (.tmp x) => (C.ty t).map fun l => (x, l.size)
  | _ => none
def zTl (C : Cfg) (ops : Array Oper) (i : Nat) (y : Oper) : Bool := decide (cls C y = .t) || match ldT C y with
  | some p => C.zld.contains p && onceT ops i y p.1
  | none => false
def zFree (C : Cfg) (ops : Array Oper) (j : Nat) (x : Oper) (i : Nat) (y : Oper) : Bool := match C.zfr with
  | none => false
  | some (t0, _) => (ops.toList.all fun m => decide (m.dst ≠ some t0) && (decide (cls C m ≠ .z) || (zOp C m || isMU m))) && ((zOp C x && zTl C ops i y) || (zTl C ops j x && zOp C y))
def freeOps (C : Cfg) (ops : Array Oper) (D : List (Tmp × Tmp)) (j : Nat) (x : Oper) (i : Nat) (y : Oper) : Bool :=
  x.apart ops y && (zFree C ops j x i y || ((freeC (cls C x) (cls C y) || mld C x y) || (needD (cls C x) (cls C y) && ops.toList.all (fun m => decide (cls C m ≠ .z)) && match objT x, objT y with
    | some tx, some ty => D.contains (tx, ty) && onceT ops j x tx && onceT ops i y ty
    | _, _ => false)))
def Dis (v w : AV) : Prop := ∀ r q, objOf v = some r → objOf w = some q → r ≠ q
def DisL : List (Tmp × Tmp) → AState → Prop
  | [], _ => True
  | p :: l, s => Dis (s.env p.1) (s.env p.2) ∧ DisL l s
theorem disL_mem {s : AState} {p : Tmp × Tmp} : ∀ {l : List (Tmp × Tmp)}, DisL l s → p ∈ l → Dis (s.env p.1) (s.env p.2)
  | [], _, h => by cases h
  | q :: l, h, hp => by
    rcases List.mem_cons.1 hp with rfl | hp
    · exact h.1
    · exact disL_mem h.2 hp

theorem st_env {k : Nat} {o : Oper} {s s' : AState} (hz : cls C o ≠ .z) (h : St P C ops k o s s') {t : Tmp} (ht : o.dst ≠ some t) : s'.env t = s.env t := by
  obtain ⟨od, v, hy⟩ := st_yl hz h
  rw [hy.to]; exact act_env_ne _ _ _ fun e he hh => ht (by rw [he, hh])
theorem run_env {num : Nat → Nat} (hz : ∀ m ∈ ops.toList, cls C m ≠ .z) {t : Tmp} : ∀ (l : List Nat) {s s' : AState}, (∀ m ∈ l, ∀ om, ops[m]? = some om → om.dst ≠ some t) → Run P C ops num l s s' → s'.env t = s.env t
  | [], s, s', _, h => by cases h; rfl
  | i :: l, s, s', ht, ⟨o, s1, h1, h2, h3⟩ => by
    have := run_env hz l (fun m hm => ht m (List.mem_cons_of_mem _ hm)) h3
    rw [this, st_env (hz o (Array.mem_toList_iff.2 (Array.mem_of_getElem? h1))) h2 (ht i List.mem_cons_self o h1)]
theorem once_spec {j : Nat} {o : Oper} {t : Tmp} (h : onceT ops j o t = true) : (∀ m om, j < m → ops[m]? = some om → om.dst ≠ some t) ∧ (isAl o = true ∨ o.dst ≠ some t) := by
  simp only [onceT, Bool.and_eq_true, List.all_eq_true, Bool.or_eq_true, decide_eq_true_eq] at h
  refine ⟨fun m om hm ho => h.1 om ?_, h.2⟩
  rw [List.mem_iff_getElem?]
  refine ⟨m - (j + 1), ?_⟩
  rw [List.getElem?_drop, show j + 1 + (m - (j + 1)) = m by omega]
  simpa using ho
theorem isAl_cls {o : Oper} (h : isAl o = true) : cls C o = .a := by
  unfold isAl at h
  split at h
  · rename_i hop; simp [cls, hop]
  · rename_i hop; simp [cls, hop]
  · rename_i hop; simp [cls, hop]
  · cases h
theorem objT_adr {o : Oper} (h : cls C o ≠ .a) : objT o = adrT o := by
  unfold objT
  split
  · rename_i hop; exact absurd (by simp [cls, hop]) h
  · rename_i hop; exact absurd (by simp [cls, hop]) h
  · rename_i hop; exact absurd (by simp [cls, hop]) h
  · rfl
theorem objT_a {o : Oper} (h : cls C o = .a) : objT o = o.dst := by
  unfold objT
  rcases cls_cases (C := C) o with ⟨_, ⟨t, hop⟩ | ⟨t, x, hop⟩ | ⟨t, hop⟩⟩ | ⟨hh, _⟩ | ⟨_, _, _, ⟨hh, _⟩ | ⟨hh, _⟩⟩ | ⟨_, _, _, ⟨hh, _⟩ | ⟨hh, _⟩ | hh | ⟨hh, _⟩ | ⟨hh, _⟩⟩
  · simp [hop]
  · simp [hop]
  · simp [hop]
  all_goals (rw [h] at hh; cases hh)
theorem act_dst {od : Od} {d : Tmp} {v : AV} {s : AState} : (act od (some d) v s).env d = v := by
  unfold act; simp [AState.put, upd_eq]


theorem partA_ag {l : TL} {cs cs' : List AV} {off : Nat} (hp : 0 < l.size) (hl : cs'.length = cs.length) (h : ∀ q, off ≤ q → q < off + l.size → cs'.getD q .any = cs.getD q .any) : partA l cs' off = partA l cs off := by
  unfold partA
  split
  · rw [hl]
    congr 2
    apply List.ext_getElem?
    intro i
    rw [List.getElem?_take, List.getElem?_take]
    split
    · rename_i hi
      rw [List.getElem?_drop, List.getElem?_drop]
      have := h (off + i) (by omega) (by omega)
      by_cases hlt : off + i < cs.length
      · have hlt' : off + i < cs'.length := by omega
        rw [getD_lt _ hlt, getD_lt _ hlt'] at this
        rw [List.getElem?_eq_getElem hlt, List.getElem?_eq_getElem hlt', this]
      · rw [List.getElem?_eq_none (by omega), List.getElem?_eq_none (by omega)]
    · rfl
  · rw [hl, h off (Nat.le_refl _) (by omega)]
theorem ld_looks {o : Oper} {p : Tmp × Nat} (hl : ldT C o = some p) : p.1 ∈ o.looksAt ops := by
  unfold ldT at hl
  split at hl
  · rename_i t x hop
    cases h : C.ty t with
    | none => rw [h] at hl; cases hl
    | some l =>
      rw [h] at hl; cases hl
      exact List.mem_append_left _ (List.mem_filterMap.2 ⟨.tmp x, by simp [hop, Op.operands], rfl⟩)
  · cases hl
theorem ld_st (hC : CfgOK P C) {k : Nat} {o : Oper} {s s' s1 : AState} {p : Tmp × Nat} (hl : ldT C o = some p) (h : St P C ops k o s s') (he : EnvAg ops o s s1)
    (hk : (∃ r off, s.env p.1 = .bptr r off ∧ ∀ cs, s.obj r = some (.box cs) → ∃ cs', s1.obj r = some (.box cs') ∧ cs'.length = cs.length ∧ ∀ q, off ≤ q → q < off + p.2 → cs'.getD q .any = cs.getD q .any) ∨ (∃ e off, s.env p.1 = .eptr e off) ∨ s.env p.1 = .tup []) :
    ∃ v, s' = s.put o.dst v ∧ St P C ops k o s1 (s1.put o.dst v) := by
  have hx := he _ (ld_looks (ops := ops) hl)
  have key : xopD P C k o (· = s') s → ∃ v, s' = s.put o.dst v ∧ xopD P C k o (· = s1.put o.dst v) s1 := by
    intro hq
    unfold ldT at hl
    split at hl
    case h_2 => cases hl
    rename_i t x hop
    cases hT : C.ty t with
    | none => rw [hT] at hl; cases hl
    | some l =>
      rw [hT] at hl; cases hl
      simp only at hx hk
      have hpos := (hC _ _ hT).pos
      unfold xopD at hq ⊢
      simp only [hop, effD, eff, hT, AState.ev] at hq ⊢
      rw [hx]
      rcases hk with ⟨r, off, h1, h2⟩ | ⟨e, off, h1⟩ | h1
      · rw [h1] at hq ⊢
        simp only [cellsAt] at hq ⊢
        split at hq
        case h_2 => cases hq
        rename_i c v s2 heq
        split at heq
        case h_2 => cases heq
        rename_i l' cs' off' c' hl' hcs
        cases hl'
        split at hcs
        case h_2 => cases hcs
        rename_i cs hobj
        cases hcs
        obtain ⟨cs2, g1, g2, g3⟩ := h2 _ hobj
        simp only [Option.some.injEq, Out.mk.injEq] at heq
        obtain ⟨rfl, rfl, rfl⟩ := heq
        have hpa := partA_ag (l := l) hpos g2 g3
        refine ⟨_, hq.2.symm, ?_⟩
        rw [g1]
        simp only [hpa]
        exact ⟨hq.1, trivial⟩
      · rw [h1] at hq ⊢
        simp only [cellsAt] at hq ⊢
        exact ⟨_, hq.2.symm, hq.1, rfl⟩
      · rw [h1] at hq
        simp only [cellsAt] at hq
  unfold St xguardD at h ⊢
  split at h
  · exact key h
  · rename_i t want hg
    rw [guard_env he hg]
    split at h
    case h_3 => cases h
    · split at h
      · rename_i hw
        obtain ⟨v, g1, g2⟩ := key h
        exact ⟨v, g1, by simp only [if_pos hw]; exact g2⟩
      · rename_i hw
        exact ⟨_, h.symm, by simp only [if_neg hw]⟩
    · exact ⟨_, h.symm, rfl⟩
  · cases h
theorem zwF_spec {f : Operand} (h : zwF C f = true) : rdF C f = false ∧ mwF C f = false := by
  cases f with
  | func g =>
    simp only [zwF, Bool.and_eq_true, Bool.not_eq_true'] at h
    simp [rdF, mwF, h]
  | _ => simp [zwF] at h
theorem boxAg_refl (F : List AObj) (r0 o0 : Nat) : BoxAg F F r0 o0 := ⟨rfl, fun _ => ⟨fun cs h => ⟨cs, h, rfl, fun _ _ => rfl⟩, fun cs h => ⟨cs, h, rfl, fun _ _ => rfl⟩⟩⟩
theorem st_z {k : Nat} {o : Oper} {s s' : AState} (hb : s.b = s.H.length) (hz : zOp C o = true) (h : St P C ops k o s s') : ∃ (F' : List AObj) (v : AV), s' = ({ s with H := F'.take s.b, L := F'.drop s.b } : AState).put o.dst v ∧
    (∀ t0 o0 r0, C.zfr = some (t0, o0) → s.env t0 = .bptr r0 0 → BoxAg (s.H ++ s.L) F' r0 o0) ∧
    ∀ s1 : AState, s1.b = s.b → s1.H = s.H → s1.L = s.L → EnvAg ops o s s1 → (∀ t0 o0, C.zfr = some (t0, o0) → s1.env t0 = s.env t0) → St P C ops k o s1 (({ s1 with H := F'.take s.b, L := F'.drop s.b } : AState).put o.dst v) := by
  have hH : (s.H ++ s.L).take s.b = s.H := List.take_left' hb.symm
  have hL : (s.H ++ s.L).drop s.b = s.L := List.drop_left' hb.symm
  have same : ∀ s1 : AState, s1.b = s.b → s1.H = s.H → s1.L = s.L → ({ s1 with H := (s.H ++ s.L).take s.b, L := (s.H ++ s.L).drop s.b } : AState) = s1 := fun s1 h1 h2 h3 => by rw [hH, hL, ← h2, ← h3]
  have same0 := same s rfl rfl rfl
  have key : xopD P C k o (· = s') s → ∃ (F' : List AObj) (v : AV), s' = ({ s with H := F'.take s.b, L := F'.drop s.b } : AState).put o.dst v ∧
      (∀ t0 o0 r0, C.zfr = some (t0, o0) → s.env t0 = .bptr r0 0 → BoxAg (s.H ++ s.L) F' r0 o0) ∧
      ∀ s1 : AState, s1.b = s.b → s1.H = s.H → s1.L = s.L → EnvAg ops o s s1 → (∀ t0 o0, C.zfr = some (t0, o0) → s1.env t0 = s.env t0) → xopD P C k o (· = ({ s1 with H := F'.take s.b, L := F'.drop s.b } : AState).put o.dst v) s1 := by
    intro hq
    unfold zOp at hz
    split at hz
    case h_2 => cases hz
    rename_i f args ts hop
    obtain ⟨z1, z2⟩ := zwF_spec hz
    obtain ⟨g, rfl⟩ : ∃ g, f = .func g := by cases f <;> first | exact ⟨_, rfl⟩ | (simp [zwF] at hz)
    have hmap : ∀ s1 : AState, EnvAg ops o s s1 → args.toList.map s1.ev = args.toList.map s.ev := fun s1 he =>
      List.map_congr_left fun p hp => ev_of_env he p (by simp only [hop, Op.operands, Call.operands]; simp at hp ⊢; exact .inr hp)
    unfold xopD at hq ⊢
    simp only [hop, AState.ev] at hq ⊢
    obtain ⟨r, as, h2, ⟨h1, h3⟩ | ⟨h0, h1, h3⟩ | ⟨h0, m, es, h1, h3⟩ | ⟨h0, F', ⟨h1, h1'⟩, h3⟩⟩ := hq
    · refine ⟨s.H ++ s.L, r, by rw [same0]; exact h3.symm, fun _ _ _ _ _ => boxAg_refl _ _ _, fun s1 e1 e2 e3 he _ => ⟨r, as, ?_, .inl ⟨h1, by rw [same s1 e1 e2 e3]⟩⟩⟩
      rw [hmap s1 he]; exact h2
    · rw [z1] at h0; cases h0
    · rw [z2] at h0; cases h0
    · refine ⟨F', r, h3.symm, fun t0 o0 r0 e1 e2 => ?_, fun s1 e1 e2 e3 he ht => ⟨r, as, ?_, .inr (.inr (.inr ⟨h0, F', ⟨?_, ?_⟩, by rw [e1]⟩))⟩⟩
      · unfold ZFr at h1'
        rw [e1] at h1'
        exact h1' r0 e2
      · rw [hmap s1 he]; exact h2
      · unfold ZCalls at h1 ⊢
        rw [e1, e2, e3]; exact h1
      · unfold ZFr at h1' ⊢
        cases hzf : C.zfr with
        | none => trivial
        | some p =>
          obtain ⟨t0, o0⟩ := p
          rw [hzf] at h1'
          simp only at h1' ⊢
          rw [ht t0 o0 hzf, e2, e3]; exact h1'
  unfold St xguardD at h
  unfold St xguardD
  split at h
  · obtain ⟨F', v, g1, g2, g3⟩ := key h
    exact ⟨F', v, g1, g2, g3⟩
  · rename_i t want hg
    split at h
    case h_3 => cases h
    · rename_i b hbv
      split at h
      · rename_i hw
        obtain ⟨F', v, g1, g2, g3⟩ := key h
        exact ⟨F', v, g1, g2, fun s1 e1 e2 e3 he ht => by rw [guard_env he hg, hbv]; simp only [if_pos hw]; exact g3 s1 e1 e2 e3 he ht⟩
      · rename_i hw
        exact ⟨s.H ++ s.L, _, by rw [same0]; exact h.symm, fun _ _ _ _ _ => boxAg_refl _ _ _, fun s1 e1 e2 e3 he ht => by rw [guard_env he hg, hbv]; simp only [if_neg hw]; rw [same s1 e1 e2 e3]⟩
    · rename_i hbv
      exact ⟨s.H ++ s.L, _, by rw [same0]; exact h.symm, fun _ _ _ _ _ => boxAg_refl _ _ _, fun s1 e1 e2 e3 he ht => by rw [guard_env he hg, hbv]; simp only; rw [same s1 e1 e2 e3]⟩
  · cases h
theorem st_envZ {k : Nat} {o : Oper} {s s' : AState} (hz : cls C o ≠ .z ∨ zOp C o = true ∨ isMU o = true) (h : St P C ops k o s s') {t : Tmp} (ht : o.dst ≠ some t) : s'.env t = s.env t := by
  rcases hz with hz | hz | hz
  · exact st_env hz h ht
  rotate_left
  · have hd : ∀ e, o.dst = some e → e ≠ t := fun e he hh => ht (by rw [he, hh])
    have key : xopD P C k o (· = s') s → s'.env t = s.env t := by
      intro hq
      unfold isMU at hz
      split at hz
      case h_2 => cases hz
      rename_i mt mm mk mx hop
      unfold xopD at hq
      simp only [hop, effD, eff] at hq
      split at hq
      case h_2 => cases hq
      rename_i c v s2 heq
      rw [← hq.2, put_env_ne _ _ hd]
      split at heq
      case h_2 => cases heq
      split at heq
      case h_2 => cases heq
      split at heq
      case h_2 => cases heq
      split at heq
      case h_2 => cases heq
      simp only [Option.some.injEq, Out.mk.injEq] at heq
      rw [← heq.2.2, setObj_env]
    unfold St xguardD at h
    split at h
    · exact key h
    · split at h
      case h_3 => cases h
      · split at h
        · exact key h
        · rw [← h]; exact put_env_ne _ _ hd
      · rw [← h]; exact put_env_ne _ _ hd
    · cases h
  · have hd : ∀ e, o.dst = some e → e ≠ t := fun e he hh => ht (by rw [he, hh])
    have key : xopD P C k o (· = s') s → s'.env t = s.env t := by
      intro hq
      unfold zOp at hz
      split at hz
      case h_2 => cases hz
      rename_i f args ts hop
      obtain ⟨g, rfl⟩ : ∃ g, f = .func g := by cases f <;> first | exact ⟨_, rfl⟩ | (simp [zwF] at hz)
      unfold xopD at hq
      simp only [hop, AState.ev] at hq
      obtain ⟨r, as, h2, ⟨h1, h3⟩ | ⟨h0, h1, h3⟩ | ⟨h0, m, es, h1, h3⟩ | ⟨h0, F', h1, h3⟩⟩ := hq
      · rw [← h3]; exact put_env_ne _ _ hd
      · rw [← h3]; exact put_env_ne _ _ hd
      · rw [← h3, put_env_ne _ _ hd, setObj_env]
      · rw [← h3, put_env_ne _ _ hd]
    unfold St xguardD at h
    split at h
    · exact key h
    · split at h
      case h_3 => cases h
      · split at h
        · exact key h
        · rw [← h]; exact put_env_ne _ _ hd
      · rw [← h]; exact put_env_ne _ _ hd
    · cases h
theorem run_envZ {num : Nat → Nat} (hz : ∀ m ∈ ops.toList, cls C m ≠ .z ∨ zOp C m = true ∨ isMU m = true) {t : Tmp} : ∀ (l : List Nat) {s s' : AState}, (∀ m ∈ l, ∀ om, ops[m]? = some om → om.dst ≠ some t) → Run P C ops num l s s' → s'.env t = s.env t
  | [], s, s', _, h => by cases h; rfl
  | i :: l, s, s', ht, ⟨o, s1, h1, h2, h3⟩ => by
    have := run_envZ hz l (fun m hm => ht m (List.mem_cons_of_mem _ hm)) h3
    rw [this, st_envZ (hz o (Array.mem_toList_iff.2 (Array.mem_of_getElem? h1))) h2 (ht i List.mem_cons_self o h1)]
theorem boxAg_obj {s s1 : AState} {F' : List AObj} {r0 o0 : Nat} (hb : s.b = s.H.length) (hag : BoxAg (s.H ++ s.L) F' r0 o0) (h1 : s1.b = s.b) (h2 : s1.H = F'.take s.b) (h3 : s1.L = F'.drop s.b) :
    s1.b = s1.H.length ∧ (∀ r cs, s.obj r = some (.box cs) → ∃ cs', s1.obj r = some (.box cs') ∧ CsAg r r0 o0 cs cs') ∧ (∀ r cs', s1.obj r = some (.box cs') → ∃ cs, s.obj r = some (.box cs) ∧ CsAg r r0 o0 cs cs') := by
  have hl := hag.1
  simp only [List.length_append] at hl
  have hb1 : s1.b = s1.H.length := by rw [h1, h2, List.length_take]; omega
  have e1 : s.obj = heapObj (s.H ++ s.L) := obj_heap hb
  have e2 : s1.obj = heapObj F' := by rw [obj_heap hb1, h2, h3, List.take_append_drop]
  refine ⟨hb1, fun r cs h => ?_, fun r cs' h => ?_⟩
  · rw [e1] at h; rw [e2]; exact (hag.2 r).1 cs h
  · rw [e2] at h; rw [e1]; exact (hag.2 r).2 cs' h
theorem bubble (hC : CfgOK P C) {num : Nat → Nat} {D : List (Tmp × Tmp)} {i : Nat} {o : Oper} (hi : ops[i]? = some o) : ∀ (pre : List Nat) {post : List Nat} {s s' : AState}, s.b = s.H.length → (pre ++ i :: post).Pairwise (· < ·) →
    (∀ j ∈ pre, ∀ oj, ops[j]? = some oj → freeOps C ops D j oj i o = true) → DisL D s' → ZLd C s' →
    Run P C ops num (pre ++ i :: post) s s' → ∃ s1, St P C ops (num i) o s s1 ∧ Run P C ops num (pre ++ post) s1 s'
  | [], post, s, s', hb, _, hf, _, _, ⟨o', s1, h1, h2, h3⟩ => by
    rw [hi] at h1; cases h1
    exact ⟨s1, h2, h3⟩
  | j :: pre, post, s, s', hb, hso, hf, hD, hZ, ⟨oj, s1, h1, h2, h3⟩ => by
    have hfj := hf j (List.mem_cons_self) oj h1
    simp only [freeOps, Bool.and_eq_true, Bool.or_eq_true] at hfj
    obtain ⟨hap, hcl⟩ := hfj
    rcases hcl with hzf | hcl
    · unfold zFree at hzf
      cases hzr : C.zfr with
      | none => rw [hzr] at hzf; cases hzf
      | some tt =>
        obtain ⟨t0, o0⟩ := tt
        rw [hzr] at hzf
        simp only [Bool.and_eq_true, List.all_eq_true, decide_eq_true_eq, Bool.or_eq_true] at hzf
        obtain ⟨hall, hxy⟩ := hzf
        unfold ZLd at hZ
        rw [hzr] at hZ
        obtain ⟨r0, hZ0, hZl⟩ := hZ
        have hZ' : ZLd C s' := by unfold ZLd; rw [hzr]; exact ⟨r0, hZ0, hZl⟩
        rw [List.cons_append, List.pairwise_cons] at hso
        have hmem : ∀ m om, ops[m]? = some om → om ∈ ops.toList := fun m om hm => Array.mem_toList_iff.2 (Array.mem_of_getElem? hm)
        -- the slot is never written
        have henv : s'.env t0 = s1.env t0 := run_envZ (fun m hm => (hall m hm).2) _ (fun m hm om hom => (hall om (hmem m om hom)).1) h3
        have henv0 : s1.env t0 = s.env t0 := st_envZ ((hall oj (hmem j oj h1)).2) h2 (hall oj (hmem j oj h1)).1
        have ht0 : s.env t0 = .bptr r0 0 := by rw [← henv0, ← henv]; exact hZ0
        have ht1 : s1.env t0 = .bptr r0 0 := by rw [henv0]; exact ht0
        obtain ⟨a1, a2, a3⟩ := Oper.apart_spec hap
        have hso2 := hso.2
        rw [List.pairwise_append, List.pairwise_cons] at hso2
        have noz : ∀ {i' : Nat} {y : Oper}, ops[i']? = some y → zTl C ops i' y = true → cls C y ≠ .z := fun hy' ht => by
          unfold zTl at ht
          simp only [Bool.or_eq_true, decide_eq_true_eq] at ht
          rcases ht with ht | ht
          · rw [ht]; simp
          · split at ht
            · rename_i p hl
              unfold ldT at hl
              split at hl
              · rename_i t x hop; simp [cls, hop, tOp, simpleOp]
              · cases hl
            · cases ht
        rcases hxy with ⟨hzx, htl⟩ | ⟨htl, hzy⟩
        · obtain ⟨F', v, e1, e2, e3⟩ := st_z (ops := ops) hb hzx h2
          have hag := e2 t0 o0 r0 hzr ht0
          obtain ⟨hb1, ob1, ob2⟩ := boxAg_obj (s1 := s1) hb hag (by rw [e1, put_b]) (by rw [e1, put_H]) (by rw [e1, put_L])
          obtain ⟨s2, g1, g2⟩ := bubble hC hi pre hb1 hso.2 (fun j' hj' => hf j' (List.mem_cons_of_mem _ hj')) hD hZ' h3
          -- the later one, ahead of the call
          have hzo := noz hi htl
          have hen : EnvAg ops o s1 s := fun t ht => by rw [e1]; exact (put_env_ne ({ s with H := F'.take s.b, L := F'.drop s.b } : AState) v fun e he hh => a1 e he (hh ▸ ht)).symm
          have step : ∃ u, s2 = s1.put o.dst u ∧ St P C ops (num i) o s (s.put o.dst u) := by
            unfold zTl at htl
            simp only [Bool.or_eq_true, decide_eq_true_eq] at htl
            rcases htl with htl | htl
            · obtain ⟨oe, u, hy⟩ := st_yl (by rw [htl]; simp) g1
              have hn := hy.none_ (.inl htl)
              subst hn
              exact ⟨u, hy.to, hy.stab s (by rw [e1, put_b]) hen (odAt_none _) (by rw [htl]; simp)⟩
            · split at htl
              case h_2 => cases htl
              rename_i p hl
              simp only [Bool.and_eq_true] at htl
              obtain ⟨hct, honce⟩ := htl
              obtain ⟨w1, w2⟩ := once_spec honce
              have hpl := ld_looks (ops := ops) hl
              have f2 : s'.env p.1 = s2.env p.1 := run_envZ (fun m hm => (hall m hm).2) _ (fun m hm om hom => by
                rcases List.mem_append.1 hm with hm | hm
                · have := hf m (List.mem_cons_of_mem _ hm) om hom
                  simp only [freeOps, Bool.and_eq_true] at this
                  exact fun hd => (Oper.apart_spec this.1).1 _ hd hpl
                · exact w1 m om (hso2.2.1.1 m hm) hom) g2
              have hna : o.dst ≠ some p.1 := by
                rcases w2 with w2 | w2
                · unfold isAl at w2; unfold ldT at hl
                  split at hl
                  · rename_i hop; rw [hop] at w2; cases w2
                  · cases hl
                · exact w2
              have f1 : s2.env p.1 = s1.env p.1 := st_envZ (.inl hzo) g1 hna
              have hok := hZl p (by simpa using hct)
              rw [f2, f1] at hok
              refine ld_st hC hl g1 hen ?_
              unfold LdOK at hok
              split at hok
              · rename_i r off hr
                refine .inl ⟨r, off, hr, fun cs hcs => ?_⟩
                obtain ⟨cs', q1, q2, q3⟩ := ob2 r cs hcs
                exact ⟨cs', q1, q2.symm, fun q k1 k2 => (q3 q fun e => by have := hok e; omega).symm⟩
              · exact .inr (.inl ⟨_, _, ‹_›⟩)
              · exact .inr (.inr ‹_›)
              · cases hok
          obtain ⟨u, g3, g4⟩ := step
          refine ⟨_, g4, oj, s2, h1, ?_, g2⟩
          have := e3 (s.put o.dst u) (put_b _ _ _) (put_H _ _ _) (put_L _ _ _) (fun t ht => put_env_ne _ _ fun e he hh => a3 e he (hh ▸ ht)) (fun t0' o0' hz' => by
            rw [hzr] at hz'; cases hz'
            exact put_env_ne _ _ fun e he hh => (hall o (hmem i o hi)).1 (by rw [he, hh]))
          have e4 : s2 = ({ s.put o.dst u with H := F'.take s.b, L := F'.drop s.b } : AState).put oj.dst v := by
            rw [g3, e1, put_put_comm _ _ _ a2]
            cases o.dst <;> rfl
          rw [e4]; exact this
        · have hzj := noz h1 htl
          obtain ⟨od, u0, hx⟩ := st_yl hzj h2
          have hb1 : s1.b = s1.H.length := by rw [hx.to, act_b, act_hlen]; exact hb
          obtain ⟨s2, g1, g2⟩ := bubble hC hi pre hb1 hso.2 (fun j' hj' => hf j' (List.mem_cons_of_mem _ hj')) hD hZ' h3
          obtain ⟨F', v, e1, e2, e3⟩ := st_z (ops := ops) hb1 hzy g1
          have hag := e2 t0 o0 r0 hzr ht1
          have hnone : od = none := by
            have htl' := htl
            unfold zTl at htl'
            simp only [Bool.or_eq_true, decide_eq_true_eq] at htl'
            rcases htl' with h | h
            · exact hx.none_ (.inl h)
            · split at h
              · rename_i p hl
                refine hx.none_ (.inr ?_)
                unfold ldT at hl
                split at hl
                · rename_i t x hop; simp [cls, hop, tOp, simpleOp]
                · cases hl
              · cases h
          subst hnone
          have hs1 : s1 = s.put oj.dst u0 := hx.to
          have hH1 : s1.H = s.H := by rw [hs1, put_H]
          have hL1 : s1.L = s.L := by rw [hs1, put_L]
          have hbb : s1.b = s.b := by rw [hs1, put_b]
          rw [hH1, hL1] at hag
          -- the call, ahead of the earlier one
          have hz0 := e3 s hbb.symm hH1.symm hL1.symm (fun t ht => by rw [hs1]; exact (put_env_ne _ _ fun e he hh => a1 e he (hh ▸ ht)).symm) (fun t0' o0' hz' => by rw [hzr] at hz'; cases hz'; rw [ht0, ht1])
          rw [hbb] at hz0
          refine ⟨_, hz0, oj, s2, h1, ?_, g2⟩
          generalize hs3 : ({ s with H := F'.take s.b, L := F'.drop s.b } : AState).put o.dst v = s3
          have hen : EnvAg ops oj s s3 := fun t ht => by rw [← hs3]; exact put_env_ne _ _ fun e he hh => a3 e he (hh ▸ ht)
          obtain ⟨hb3, ob1, ob2⟩ := boxAg_obj (s1 := s3) hb hag (by rw [← hs3, put_b]) (by rw [← hs3, put_H]) (by rw [← hs3, put_L])
          have fin : St P C ops (num j) oj s3 (s3.put oj.dst u0) := by
            have htl' := htl
            unfold zTl at htl'
            simp only [Bool.or_eq_true, decide_eq_true_eq] at htl'
            rcases htl' with h | h
            · exact hx.stab s3 (by rw [← hs3, put_b]) hen (odAt_none _) (by rw [h]; simp)
            · split at h
              case h_2 => cases h
              rename_i p hl
              simp only [Bool.and_eq_true] at h
              obtain ⟨hct, honce⟩ := h
              obtain ⟨w1, w2⟩ := once_spec honce
              have hna : oj.dst ≠ some p.1 := by
                rcases w2 with w2 | w2
                · unfold isAl at w2; unfold ldT at hl
                  split at hl
                  · rename_i hop; rw [hop] at w2; cases w2
                  · cases hl
                · exact w2
              have f2 : s'.env p.1 = s1.env p.1 := run_envZ (fun m hm => (hall m hm).2) _ (fun m hm om hom => w1 m om (hso.1 m hm) hom) h3
              have f1 : s1.env p.1 = s.env p.1 := st_envZ (.inl hzj) h2 hna
              have hok := hZl p (by simpa using hct)
              rw [f2, f1] at hok
              have hld : ∃ v, s1 = s.put oj.dst v ∧ St P C ops (num j) oj s3 (s3.put oj.dst v) := by
                refine ld_st hC hl h2 hen ?_
                unfold LdOK at hok
                split at hok
                · rename_i r off hr
                  refine .inl ⟨r, off, hr, fun cs hcs => ?_⟩
                  obtain ⟨cs', q1, q2, q3⟩ := ob1 r cs hcs
                  exact ⟨cs', q1, q2, fun q k1 k2 => q3 q fun e => by have := hok e; omega⟩
                · exact .inr (.inl ⟨_, _, ‹_›⟩)
                · exact .inr (.inr ‹_›)
                · cases hok
              obtain ⟨u1, k1, k2⟩ := hld
              cases hd : oj.dst with
              | none => rw [hd] at k2; exact k2
              | some d =>
                rw [hd] at k2
                rw [hs1, hd] at k1
                have : u0 = u1 := by
                  have := congrArg (fun s : AState => s.env d) k1
                  simpa [AState.put, upd] using this
                rw [this]; exact k2
          have e4 : s2 = s3.put oj.dst u0 := by
            rw [e1, ← hs3, hs1, put_put_comm _ _ _ (fun t ht he => a2 t he ht)]
            cases oj.dst <;> rfl
          rw [e4]; exact fin
    have hzx : cls C oj ≠ .z := by
      intro h
      rcases hcl with (hcl | hcl) | hcl
      · rw [h] at hcl; simp [freeC] at hcl
      · simp [mld, h] at hcl
      · rw [h] at hcl; simp [needD] at hcl
    have hzy : cls C o ≠ .z := by
      intro h
      rcases hcl with (hcl | hcl) | hcl
      · rw [h] at hcl; revert hcl; cases cls C oj <;> simp [freeC]
      · simp [mld, h] at hcl
      · rw [h] at hcl; revert hcl; cases cls C oj <;> simp [needD]
    rw [List.cons_append, List.pairwise_cons] at hso
    obtain ⟨od, v, hx⟩ := st_yl hzx h2
    have hb1 : s1.b = s1.H.length := by rw [hx.to, act_b, act_hlen]; exact hb
    obtain ⟨s2, g1, g2⟩ := bubble hC hi pre hb1 hso.2 (fun j' hj' => hf j' (List.mem_cons_of_mem _ hj')) hD hZ h3
    obtain ⟨oe, u, hy⟩ := st_yl hzy g1
    have hs1 : ∀ r X y', od = some (r, X, y') → s1.obj r = some y' := by
      intro r X y' hr
      rw [hx.to, act_obj hb hx.at_ hr]; simp
    have fin : (∀ r X y' q Z z, od = some (r, X, y') → oe = some (q, Z, z) → r ≠ q) → (∀ r y q z, od = some (r, none, y) → oe = some (q, none, z) → False) →
        (cls C o = .q ∨ cls C o = .m → ∀ r X y', od = some (r, X, y') → NoRd o s1 r (some y')) → (cls C oj = .q ∨ cls C oj = .m → ∀ r X y', oe = some (r, X, y') → NoRd oj s r X) →
        ∃ s1, St P C ops (num i) o s s1 ∧ Run P C ops num (j :: pre ++ post) s1 s' := fun k1 k2 k3 k4 => by
      obtain ⟨s1', m1, m2⟩ := swap hb hap hx hy k1 k2 k3 k4
      exact ⟨s1', m1, oj, s2, h1, m2, g2⟩
    rcases hcl with (hcl | hml) | hcl
    rotate_left
    · simp only [mld, Bool.or_eq_true, Bool.and_eq_true, decide_eq_true_eq] at hml
      rcases hml with ⟨⟨hcx, hcy⟩, had⟩ | ⟨⟨hcx, hcy⟩, had⟩
      · have n1 := hy.none_ (.inr hcy)
        refine fin (fun r X y' q Z z _ hq => by rw [n1] at hq; cases hq) (fun r y q z _ hq => by rw [n1] at hq; cases hq) (fun _ r X y' hr => ?_) (fun _ r X y' hr => by rw [n1] at hr; cases hr)
        obtain ⟨_, es, he⟩ := hx.mp_ hcx _ _ _ hr
        exact .inr (.inr ⟨had, es, by rw [he]⟩)
      · have n1 := hx.none_ (.inr hcx)
        refine fin (fun r X y' q Z z hr _ => by rw [n1] at hr; cases hr) (fun r y q z hr _ => by rw [n1] at hr; cases hr) (fun _ r X y' hr => by rw [n1] at hr; cases hr) (fun _ r X y' hr => ?_)
        obtain ⟨⟨es, he⟩, _⟩ := hy.mp_ hcy _ _ _ hr
        exact .inr (.inr ⟨had, es, he⟩)
    rotate_left
    · refine fin ?_ ?_ ?_ ?_
      · intro r X y' q Z z hr hq hrq
        subst hrq
        have e1 := (hy.at_ _ _ _ hq).1
        rw [hs1 _ _ _ hr] at e1
        cases hcx : cls C oj with
        | t => rw [hx.none_ (.inl hcx)] at hr; cases hr
        | q => rw [hx.none_ (.inr hcx)] at hr; cases hr
        | z => exact hzx hcx
        | m =>
          cases hcy : cls C o with
          | t => rw [hy.none_ (.inl hcy)] at hq; cases hq
          | _ => rw [hcx, hcy] at hcl; simp [freeC] at hcl
        | i =>
          cases hcy : cls C o with
          | t => rw [hy.none_ (.inl hcy)] at hq; cases hq
          | _ => rw [hcx, hcy] at hcl; simp [freeC] at hcl
        | a =>
          obtain ⟨_, hyc, _⟩ := hx.new_ hcx _ _ _ hr
          rcases hyc with ⟨cs, rfl⟩ | rfl
          all_goals
            cases hcy : cls C o with
            | t => rw [hy.none_ (.inl hcy)] at hq; cases hq
            | q => rw [hy.none_ (.inr hcy)] at hq; cases hq
            | a => have := (hy.new_ hcy _ _ _ hq).1; rw [this] at e1; cases e1
            | p => obtain ⟨n, z', hh⟩ := (hy.app_ hcy _ _ _ hq).1 _ e1.symm; cases hh
            | _ => rw [hcx, hcy] at hcl; simp [freeC] at hcl
        | w =>
          obtain ⟨_, hm, _⟩ := hx.wr_ hcx _ _ _ hr
          cases hcy : cls C o with
          | t => rw [hy.none_ (.inl hcy)] at hq; cases hq
          | p => obtain ⟨n, z', hh⟩ := (hy.app_ hcy _ _ _ hq).1 _ e1.symm; rw [hh] at hm; cases hm
          | _ => rw [hcx, hcy] at hcl; simp [freeC] at hcl
        | p =>
          obtain ⟨_, n, z', rfl⟩ := hx.app_ hcx _ _ _ hr
          cases hcy : cls C o with
          | t => rw [hy.none_ (.inl hcy)] at hq; cases hq
          | q => rw [hy.none_ (.inr hcy)] at hq; cases hq
          | a => have := (hy.new_ hcy _ _ _ hq).1; rw [this] at e1; cases e1
          | w => obtain ⟨⟨x, hx1, hx2⟩, _⟩ := hy.wr_ hcy _ _ _ hq; rw [hx1] at e1; cases e1; cases hx2
          | _ => rw [hcx, hcy] at hcl; simp [freeC] at hcl
      · intro r y q z hr hq
        have hpx : cls C oj = .p := by
          cases hcx : cls C oj with
          | t => rw [hx.none_ (.inl hcx)] at hr; cases hr
          | q => rw [hx.none_ (.inr hcx)] at hr; cases hr
          | z => exact absurd hcx hzx
          | a => have := (hx.new_ hcx _ _ _ hr).1; cases this
          | w => obtain ⟨⟨x, hx1, _⟩, _⟩ := hx.wr_ hcx _ _ _ hr; cases hx1
          | m => obtain ⟨⟨x, hx1⟩, _⟩ := hx.mp_ hcx _ _ _ hr; cases hx1
          | i =>
            exfalso
            cases hcy : cls C o with
            | t => rw [hy.none_ (.inl hcy)] at hq; cases hq
            | _ => rw [hcx, hcy] at hcl; simp [freeC] at hcl
          | p => rfl
        have hpy : cls C o = .p := by
          cases hcx : cls C o with
          | t => rw [hy.none_ (.inl hcx)] at hq; cases hq
          | q => rw [hy.none_ (.inr hcx)] at hq; cases hq
          | z => exact absurd hcx hzy
          | a => have := (hy.new_ hcx _ _ _ hq).1; cases this
          | w => obtain ⟨⟨x, hx1, _⟩, _⟩ := hy.wr_ hcx _ _ _ hq; cases hx1
          | m => obtain ⟨⟨x, hx1⟩, _⟩ := hy.mp_ hcx _ _ _ hq; cases hx1
          | i =>
            exfalso
            rw [hpx, hcx] at hcl; simp [freeC] at hcl
          | p => rfl
        rw [hpx, hpy] at hcl; simp [freeC] at hcl
      · intro hcy r X y' hr
        left
        cases hcx : cls C oj with
        | t => rw [hx.none_ (.inl hcx)] at hr; cases hr
        | q => rw [hx.none_ (.inr hcx)] at hr; cases hr
        | p => obtain ⟨_, n, z', rfl⟩ := hx.app_ hcx _ _ _ hr; intro y hy'; cases hy'; rfl
        | _ => rcases hcy with hcy | hcy <;> (rw [hcx, hcy] at hcl; simp [freeC] at hcl)
      · intro hcx r X y' hr
        left
        cases hcy : cls C o with
        | t => rw [hy.none_ (.inl hcy)] at hr; cases hr
        | q => rw [hy.none_ (.inr hcy)] at hr; cases hr
        | a => have := (hy.new_ hcy _ _ _ hr).1; rw [this]; intro y hy'; cases hy'; rfl
        | p => intro y hy'; obtain ⟨n, z', hh⟩ := (hy.app_ hcy _ _ _ hr).1 _ hy'; rw [hh]; rfl
        | _ => rcases hcx with hcx | hcx <;> (rw [hcx, hcy] at hcl; simp [freeC] at hcl)
    · obtain ⟨⟨hnd, hallz⟩, hcl⟩ := hcl
      have hz : ∀ m ∈ ops.toList, cls C m ≠ .z := fun m hm => by simpa using List.all_eq_true.1 hallz m hm
      split at hcl
      case h_2 => cases hcl
      rename_i tx ty htx hty
      simp only [Bool.and_eq_true] at hcl
      obtain ⟨⟨hDm, ho1⟩, ho2⟩ := hcl
      obtain ⟨w1, w2⟩ := once_spec ho1
      obtain ⟨w3, w4⟩ := once_spec ho2
      have hdis : Dis (s'.env tx) (s'.env ty) := disL_mem hD (by simpa using hDm)
      have hji : ∀ m ∈ pre ++ i :: post, j < m := hso.1
      have hso2 := hso.2
      rw [List.pairwise_append, List.pairwise_cons] at hso2
      -- the slot of the first one
      have e1 : s'.env tx = s1.env tx := run_env hz _ (fun m hm om hom => w1 m om (hji m hm) hom) h3
      have e0 : cls C oj ≠ .a → s'.env tx = s.env tx := fun hna => by
        rw [e1, hx.to]
        refine act_env_ne _ _ _ fun e he hh => ?_
        rcases w2 with w2 | w2
        · exact hna (isAl_cls w2)
        · exact w2 (by rw [he, hh])
      -- of the second one
      have hpre : ∀ m ∈ pre, ∀ om, ops[m]? = some om → ty ∈ o.looksAt ops → om.dst ≠ some ty := fun m hm om hom hl => by
        have := hf m (List.mem_cons_of_mem _ hm) om hom
        simp only [freeOps, Bool.and_eq_true] at this
        exact fun hd => (Oper.apart_spec this.1).1 _ hd hl
      have hpre2 : ∀ m ∈ pre, ∀ om, ops[m]? = some om → o.dst = some ty → om.dst ≠ some ty := fun m hm om hom hl hd => by
        have := hf m (List.mem_cons_of_mem _ hm) om hom
        simp only [freeOps, Bool.and_eq_true] at this
        exact (Oper.apart_spec this.1).2.1 _ hd hl
      have f2 : (ty ∈ o.looksAt ops ∨ o.dst = some ty) → s'.env ty = s2.env ty := fun hl => run_env hz _ (fun m hm om hom => by
        rcases List.mem_append.1 hm with hm | hm
        · rcases hl with hl | hl
          · exact hpre m hm om hom hl
          · exact hpre2 m hm om hom hl
        · exact w3 m om (hso2.2.1.1 m hm) hom) g2
      have f1 : cls C o ≠ .a → ty ∈ o.looksAt ops → s'.env ty = s1.env ty := fun hna hl => by
        rw [f2 (.inl hl), hy.to]
        refine act_env_ne _ _ _ fun e he hh => ?_
        rcases w4 with w4 | w4
        · exact hna (isAl_cls w4)
        · exact w4 (by rw [he, hh])
      have looks : ∀ {o : Oper} {t : Tmp}, adrT o = some t → t ∈ o.looksAt ops := by
        intro o t h
        unfold adrT at h
        split at h
        · rename_i hop; cases h
          exact List.mem_append_left _ (List.mem_filterMap.2 ⟨.tmp t, by simp [hop, Op.operands], rfl⟩)
        · rename_i hop; cases h
          exact List.mem_append_left _ (List.mem_filterMap.2 ⟨.tmp t, by simp [hop, Op.operands], rfl⟩)
        · cases h
      -- which object is written
      have ox : cls C oj = .w ∨ cls C oj = .a → ∀ r X y', od = some (r, X, y') → objOf (s'.env tx) = some r := by
        rintro (hc | hc) r X y' hr
        · rw [e0 (by rw [hc]; simp)]
          exact (hx.wr_ hc _ _ _ hr).2.2 _ (by rw [← objT_adr (C := C) (by rw [hc]; simp)]; exact htx)
        · rw [objT_a hc] at htx
          rw [e1, hx.to, htx, act_dst]
          exact (hx.new_ hc _ _ _ hr).2.2
      have oy : cls C o = .w ∨ cls C o = .a → ∀ r X y', oe = some (r, X, y') → objOf (s'.env ty) = some r := by
        rintro (hc | hc) r X y' hr
        · have ha : adrT o = some ty := by rw [← objT_adr (C := C) (by rw [hc]; simp)]; exact hty
          rw [f1 (by rw [hc]; simp) (looks ha)]
          exact (hy.wr_ hc _ _ _ hr).2.2 _ ha
        · rw [objT_a hc] at hty
          rw [f2 (.inr hty), hy.to, hty, act_dst]
          exact (hy.new_ hc _ _ _ hr).2.2
      have cx : cls C oj = .q ∨ cls C oj = .w ∨ cls C oj = .a := by revert hnd; cases cls C oj <;> simp [needD]
      have cy : cls C o = .q ∨ cls C o = .w ∨ cls C o = .a := by revert hnd; cases cls C o <;> cases cls C oj <;> simp [needD]
      refine fin ?_ ?_ ?_ ?_
      · intro r X y' q Z z hr hq
        have h1' : cls C oj = .w ∨ cls C oj = .a := cx.resolve_left fun h => by rw [hx.none_ (.inr h)] at hr; cases hr
        have h2' : cls C o = .w ∨ cls C o = .a := cy.resolve_left fun h => by rw [hy.none_ (.inr h)] at hq; cases hq
        exact hdis _ _ (ox h1' _ _ _ hr) (oy h2' _ _ _ hq)
      · intro r y q z hr hq
        rcases cx with h | h | h
        · rw [hx.none_ (.inr h)] at hr; cases hr
        · obtain ⟨⟨x, hx1, _⟩, _⟩ := hx.wr_ h _ _ _ hr; cases hx1
        · have := (hx.new_ h _ _ _ hr).1; cases this
      · intro hcy r X y' hr
        have h1' : cls C oj = .w ∨ cls C oj = .a := cx.resolve_left fun h => by rw [hx.none_ (.inr h)] at hr; cases hr
        have ha : adrT o = some ty := by rw [← objT_adr (C := C) (by rcases hcy with h | h <;> rw [h] <;> simp)]; exact hty
        refine .inr (.inl ⟨ty, ha, fun hh => ?_⟩)
        rw [← f1 (by rcases hcy with h | h <;> rw [h] <;> simp) (looks ha)] at hh
        exact hdis _ _ (ox h1' _ _ _ hr) hh rfl
      · intro hcx r X y' hr
        have h2' : cls C o = .w ∨ cls C o = .a := cy.resolve_left fun h => by rw [hy.none_ (.inr h)] at hr; cases hr
        have ha : adrT oj = some tx := by rw [← objT_adr (C := C) (by rcases hcx with h | h <;> rw [h] <;> simp)]; exact htx
        refine .inr (.inl ⟨tx, ha, fun hh => ?_⟩)
        rw [← e0 (by rcases hcx with h | h <;> rw [h] <;> simp)] at hh
        exact hdis _ _ hh (oy h2' _ _ _ hr) rfl

def mask (o : Oper) (acc : List Nat) : Nat := o.after.toList.foldr (fun e m => if Region.binds .any e then (2 ^ e.on ||| acc.getD e.on 0) ||| m else m) 0
def ancs : List Oper → List Nat → List Nat
  | [], acc => acc
  | o :: r, acc => ancs r (acc ++ [mask o acc])

theorem mask_bit {o : Oper} {acc : List Nat} {j : Nat} (h : (mask o acc).testBit j = true) : ∃ e ∈ o.after.toList, Region.binds .any e = true ∧ (e.on = j ∨ (acc.getD e.on 0).testBit j = true) := by
  unfold mask at h
  generalize o.after.toList = es at h
  induction es with
  | nil => simp at h
  | cons e es ih =>
    simp only [List.foldr_cons] at h
    split at h
    · rename_i hb
      simp only [Nat.testBit_or, Bool.or_eq_true, Nat.testBit_two_pow, decide_eq_true_eq] at h
      rcases h with (h | h) | h
      · exact ⟨e, List.mem_cons_self, hb, .inl h⟩
      · exact ⟨e, List.mem_cons_self, hb, .inr h⟩
      · obtain ⟨e', h1, h2⟩ := ih h; exact ⟨e', List.mem_cons_of_mem _ h1, h2⟩
    · obtain ⟨e', h1, h2⟩ := ih h; exact ⟨e', List.mem_cons_of_mem _ h1, h2⟩

theorem ancs_pre : ∀ (l : List Oper) (acc : List Nat) (i : Nat), i < acc.length → (ancs l acc).getD i 0 = acc.getD i 0
  | [], acc, i, h => rfl
  | o :: l, acc, i, h => by
    rw [ancs, ancs_pre l _ i (by simp; omega)]
    simp [List.getD_eq_getElem?_getD, List.getElem?_append, h]

theorem ancs_bit {o : Oper} {j : Nat} : ∀ (l : List Oper) (acc : List Nat) (i : Nat), l[i]? = some o → ((ancs l acc).getD (acc.length + i) 0).testBit j = true →
    (∀ e ∈ o.after.toList, Region.binds .any e = true → e.on < acc.length + i) → ∃ e ∈ o.after.toList, Region.binds .any e = true ∧ (e.on = j ∨ ((ancs l acc).getD e.on 0).testBit j = true)
  | [], acc, i, h, _, _ => by simp at h
  | o' :: l, acc, 0, h, hb, hlt => by
    simp only [List.getElem?_cons_zero, Option.some.injEq] at h
    subst h
    rw [ancs, Nat.add_zero, ancs_pre l _ _ (by simp)] at hb
    simp only [List.getD_eq_getElem?_getD, List.getElem?_append, Nat.lt_irrefl, if_false, Nat.sub_self, List.getElem?_cons_zero, Option.getD_some] at hb
    obtain ⟨e, h1, h2, h3⟩ := mask_bit hb
    refine ⟨e, h1, h2, h3.imp id fun h3 => ?_⟩
    have := hlt e h1 h2
    rw [ancs, ancs_pre l _ _ (by simp; omega)]
    simpa [List.getD_eq_getElem?_getD, List.getElem?_append, show e.on < acc.length by omega] using h3
  | o' :: l, acc, i + 1, h, hb, hlt => by
    have h' : l[i]? = some o := by simpa using h
    rw [ancs] at hb ⊢
    have := ancs_bit l (acc ++ [mask o' acc]) i h' (by simpa [Nat.add_assoc, Nat.add_comm 1 i] using hb) (fun e h1 h2 => by have := hlt e h1 h2; simp; omega)
    exact this

def chk (C : Cfg) (ops : Array Oper) (D : List (Tmp × Tmp)) : Bool :=
  let A := ancs ops.toList []
  (List.range ops.size).all fun i => match ops[i]? with
    | none => true
    | some o => (o.after.toList.all fun e => !Region.binds .any e || decide (e.on < i)) && (List.range i).all fun j => (A.getD i 0).testBit j || match ops[j]? with
      | some oj => freeOps C ops D j oj i o
      | none => true

theorem chk_spec {D : List (Tmp × Tmp)} (h : chk C ops D = true) {i : Nat} {o : Oper} (hi : ops[i]? = some o) : (∀ e ∈ o.after.toList, Region.binds .any e = true → e.on < i) ∧
    ∀ j, j < i → ((ancs ops.toList []).getD i 0).testBit j = true ∨ ∀ oj, ops[j]? = some oj → freeOps C ops D j oj i o = true := by
  have hlt : i < ops.size := (Array.getElem?_eq_some_iff.1 hi).1
  simp only [chk, List.all_eq_true, List.mem_range] at h
  have h1 := h i hlt
  rw [hi] at h1
  simp only [Bool.and_eq_true, List.all_eq_true, List.mem_range, Bool.or_eq_true, Bool.not_eq_true', decide_eq_true_eq] at h1
  refine ⟨fun e he hb => (h1.1 e he).resolve_left (by simp [hb]), fun j hj => (h1.2 j hj).imp id fun h2 oj hoj => by rw [hoj] at h2; exact h2⟩

def Closed (ops : Array Oper) (listed : Array Bool) : Prop := ∀ i j, listed.getD i true = true → i < ops.size → ((ancs ops.toList []).getD i 0).testBit j = true → listed.getD j false = true

def todo (ops : Array Oper) (listed : Array Bool) : List Nat := (List.range ops.size).filter fun i => !listed.getD i true

theorem mem_todo {listed : Array Bool} {i : Nat} : i ∈ todo ops listed ↔ i < ops.size ∧ listed.getD i true = false := by simp [todo]

theorem todo_sorted (listed : Array Bool) : (todo ops listed).Pairwise (· < ·) := List.Pairwise.filter _ List.pairwise_lt_range

theorem todo_set {listed : Array Bool} {i : Nat} (hsz : listed.size = ops.size) (hi : i < ops.size) : todo ops (listed.setIfInBounds i true) = (todo ops listed).filter (· != i) := by
  unfold todo
  rw [List.filter_filter]
  refine List.filter_congr fun j hj => ?_
  by_cases hij : i = j
  · subst hij; simp [hsz, hi]
  · rw [getD_set_ne true hij]
    have : (j != i) = true := by simp [Ne.symm hij]
    rw [this, Bool.true_and]

theorem filter_split {pre post : List Nat} {i : Nat} (h : (pre ++ i :: post).Pairwise (· < ·)) : (pre ++ i :: post).filter (· != i) = pre ++ post := by
  rw [List.pairwise_append] at h
  obtain ⟨h1, h2, h3⟩ := h
  rw [List.pairwise_cons] at h2
  rw [List.filter_append, List.filter_cons]
  have e1 : pre.filter (· != i) = pre := List.filter_eq_self.2 fun x hx => by
    have := h3 x hx i List.mem_cons_self; simp; omega
  have e2 : post.filter (· != i) = post := List.filter_eq_self.2 fun x hx => by
    have := h2.1 x hx; simp; omega
  rw [e1, e2]; simp

theorem closed_set {D : List (Tmp × Tmp)} {listed : Array Bool} {i : Nat} (hc : Closed ops listed) (hk : chk C ops D = true) (hsz : listed.size = ops.size) (hr : i ∈ Region.ready .any ops listed) : Closed ops (listed.setIfInBounds i true) := by
  intro k j hk1 hk2 hbit
  obtain ⟨h0, o, ho, hall⟩ := mem_ready.1 hr
  by_cases hki : k = i
  · subst hki
    have hlt := (chk_spec hk ho).1
    obtain ⟨e, h1, h2, h3⟩ := ancs_bit ops.toList [] k (by simpa using ho) (by simpa using hbit) (by simpa using hlt)
    have hl := hall e (Array.mem_toList_iff.1 h1) h2
    rcases h3 with rfl | h3
    · exact getD_set_true hl
    · have helt : e.on < ops.size := by have := hlt e h1 h2; omega
      refine getD_set_true (hc e.on j ?_ helt h3)
      have : e.on < listed.size := by omega
      simpa [this] using hl
  · refine getD_set_true (hc k j ?_ hk2 hbit)
    rwa [getD_set_ne true (Ne.symm hki)] at hk1

theorem ready_free {D : List (Tmp × Tmp)} {listed : Array Bool} {i j : Nat} {o oj : Oper} (hc : Closed ops listed) (hk : chk C ops D = true) (hsz : listed.size = ops.size) (hr : i ∈ Region.ready .any ops listed) (hi : ops[i]? = some o) (hj : ops[j]? = some oj)
    (hji : j < i) (hun : listed.getD j true = false) : freeOps C ops D j oj i o = true := by
  obtain ⟨h1, h2⟩ := chk_spec hk hi
  rcases h2 j hji with hb | hf
  · exfalso
    obtain ⟨_, o', ho', hall⟩ := mem_ready.1 hr
    rw [hi] at ho'; cases ho'
    obtain ⟨e, h3, h4, h5⟩ := ancs_bit ops.toList [] i (by simpa using hi) (by simpa using hb) (by simpa using h1)
    have hl := hall e (Array.mem_toList_iff.1 h3) h4
    have hlt : i < ops.size := (Array.getElem?_eq_some_iff.1 hi).1
    have helt : e.on < listed.size := by have := h1 e h3 h4; omega
    have hjl : listed.getD j false = true := by
      rcases h5 with rfl | h5
      · exact hl
      · exact hc e.on j (by simpa [helt] using hl) (by omega) h5
    have hjs : j < listed.size := by omega
    simp [hjs] at hun hjl
    rw [hun] at hjl; cases hjl
  · exact hf oj hj

theorem ready_of_todo {D : List (Tmp × Tmp)} {listed : Array Bool} {i : Nat} {l : List Nat} (hk : chk C ops D = true) (hsz : listed.size = ops.size) (h : todo ops listed = i :: l) : i ∈ Region.ready .any ops listed := by
  have hm : i ∈ todo ops listed := by rw [h]; exact List.mem_cons_self
  obtain ⟨h1, h2⟩ := mem_todo.1 hm
  have ho : ops[i]? = some ops[i] := Array.getElem?_eq_getElem h1
  refine mem_ready.2 ⟨h2, _, ho, fun e he hb => ?_⟩
  have hlt := (chk_spec hk ho).1 e (Array.mem_toList_iff.2 he) hb
  have hs := todo_sorted (ops := ops) listed
  rw [h, List.pairwise_cons] at hs
  cases hl : listed.getD e.on true with
  | true =>
    have : e.on < listed.size := by omega
    simpa [this] using hl
  | false =>
    have hme : e.on ∈ todo ops listed := mem_todo.2 ⟨by omega, hl⟩
    rw [h] at hme
    rcases List.mem_cons.1 hme with h3 | h3
    · omega
    · have := hs.1 _ h3; omega

theorem wpAny_run {D : List (Tmp × Tmp)} (hC : CfgOK P C) (hk : chk C ops D = true) {n b : Nat} {num : Nat → Nat} (hok : ∀ o ∈ ops.toList, operOK o = true ∧ dstOK n o = true) {Q : Exit → AState → Prop} {V0 : View} {w0 : World} :
    ∀ (fuel : Nat) {listed : Array Bool} {V : View} {a : Act} {w : World} {s s' : AState}, (todo ops listed).length ≤ fuel → listed.size = ops.size → Closed ops listed → s.n = n → s.b = b → Rel V a w s → V0.LeB b V → Below V0.base w0 w →
      Run P C ops num (todo ops listed) s s' → DisL D s' → ZLd C s' → Q .normal s' → wpAny P .any ops (Post V0 w0 n b Q) fuel listed a w := by
  intro fuel
  have hdone : ∀ {listed : Array Bool}, listed.size = ops.size → (Region.ready .any ops listed = [] → todo ops listed = []) := by
    intro listed hsz hr
    cases ht : todo ops listed with
    | nil => rfl
    | cons i l => have := ready_of_todo hk hsz ht; rw [hr] at this; cases this
  induction fuel with
  | zero =>
    intro listed V a w s s' hf hsz hc hn hb hr hV hB hrun hD hZ hq
    have ht : todo ops listed = [] := List.eq_nil_of_length_eq_zero (by omega)
    rw [ht] at hrun
    simp only [Run] at hrun
    subst hrun
    refine ⟨?_, V, s, hV, hB, hr, hn, hb, hq⟩
    cases hrd : Region.ready .any ops listed with
    | nil => rfl
    | cons i l =>
      obtain ⟨h1, o, ho, _⟩ := mem_ready.1 (show i ∈ Region.ready .any ops listed by rw [hrd]; exact List.mem_cons_self)
      have : i ∈ todo ops listed := mem_todo.2 ⟨(Array.getElem?_eq_some_iff.1 ho).1, h1⟩
      rw [ht] at this; cases this
  | succ fuel ih =>
    intro listed V a w s s' hf hsz hc hn hb hr hV hB hrun hD hZ hq
    refine ⟨fun hrd => ?_, fun i hi => ?_⟩
    · have ht := hdone hsz hrd
      rw [ht] at hrun
      simp only [Run] at hrun
      subst hrun
      exact ⟨V, s, hV, hB, hr, hn, hb, hq⟩
    · obtain ⟨h1, o, ho, hall⟩ := mem_ready.1 hi
      have hlt : i < ops.size := (Array.getElem?_eq_some_iff.1 ho).1
      have hm : i ∈ todo ops listed := mem_todo.2 ⟨hlt, h1⟩
      obtain ⟨pre, post, hsp⟩ := List.append_of_mem hm
      have hsorted := todo_sorted (ops := ops) listed
      rw [hsp] at hsorted
      have hset : todo ops (listed.setIfInBounds i true) = pre ++ post := by rw [todo_set hsz hlt, hsp, filter_split hsorted]
      rw [hsp] at hrun
      have hpre : ∀ j ∈ pre, ∀ oj, ops[j]? = some oj → freeOps C ops D j oj i o = true := by
        intro j hj oj hoj
        have hjm : j ∈ todo ops listed := by rw [hsp]; exact List.mem_append_left _ hj
        rw [List.pairwise_append] at hsorted
        exact ready_free hc hk hsz hi ho hoj (hsorted.2.2 j hj i List.mem_cons_self) (mem_todo.1 hjm).2
      obtain ⟨s1, g1, g2⟩ := bubble hC ho pre (hr.hb) hsorted hpre hD hZ hrun
      have hoo := hok o (Array.mem_toList_iff.2 (Array.mem_of_getElem? ho))
      refine st_sound hC hr ho hoo.1 (by rw [hn]; exact hoo.2) g1 fun V' a' w' k1 k2 k3 k4 k5 => ?_
      refine ih ?_ (by simpa using hsz) (closed_set hc hk hsz hi) (by rw [k4, hn]) (by rw [k5, hb]) k3 (hV.trans (k1.toB b)) (hB.trans (by rw [← hV.base]; exact k2)) (by rw [hset]; exact g2) hD hZ hq
      rw [hset]
      rw [hsp] at hf
      simp only [List.length_append, List.length_cons] at hf ⊢
      omega

end
end Go.Ab
