/- Regions whose order the world draws, fourth part: the executor, step by step. Condition: the executor's table of types is the program's. -/
import Derived.Test.YtcpfjabjonpdaaaAbP
set_option linter.unusedSimpArgs false
namespace Go.Ab
open Go.RowKit (Below)

section
variable {P : Program} {C : Cfg} {K : Exit → AState → Prop} {k : List KI} {s : AState} {ops : Array Oper}

def num (base : Nat) (ops : Array Oper) (i : Nat) : Nat := (ops.toList.take i).foldl nxt base

theorem run_of_xops {base : Nat} {K : AState → Prop} : ∀ (m i : Nat) {s : AState}, ops.size - i = m → i ≤ ops.size → xopsD P C ops (num base ops i) (ops.toList.drop i) K s → ∃ s', Run P C ops (num base ops) (List.range' i m) s s' ∧ K s'
  | 0, i, s, hm, hi, h => by
    rw [List.drop_of_length_le (by simp; omega)] at h
    exact ⟨s, rfl, h⟩
  | m + 1, i, s, hm, hi, h => by
    have hlt : i < ops.size := by omega
    have hl : i < ops.toList.length := by simpa using hlt
    rw [List.drop_eq_getElem_cons hl] at h
    simp only [xopsD] at h
    obtain ⟨s1, h1, h2⟩ := xguardD_ex h
    have hn : nxt (num base ops i) ops.toList[i] = num base ops (i + 1) := by
      simp only [num]
      rw [List.take_succ_eq_append_getElem hl, List.foldl_append]; rfl
    rw [hn] at h2
    obtain ⟨s', h3, h4⟩ := run_of_xops m (i + 1) (by omega) (by omega) h2
    refine ⟨s', ⟨ops.toList[i], s1, ?_, h1, h3⟩, h4⟩
    simp [hlt]

theorem Rel.reserve {V : View} {a : Act} {w : World} (hr : Rel V a w s) (m : Nat) : Rel V a w { s with L := s.L ++ List.replicate m .dead } := by
  have hobj : ∀ r, ({ s with L := s.L ++ List.replicate m .dead } : AState).obj r = s.obj r ∨ (s.obj r = none ∧ ({ s with L := s.L ++ List.replicate m .dead } : AState).obj r = some .dead) := by
    intro r
    unfold AState.obj
    split
    · exact .inl rfl
    · simp only
      rw [List.getElem?_append]
      split
      · exact .inl rfl
      · rename_i h
        rw [List.getElem?_replicate]
        rw [List.getElem?_eq_none (by omega)]
        split
        · exact .inr ⟨rfl, rfl⟩
        · exact .inl rfl
  have hnone : ∀ r, s.obj r = none → ∀ n, V.loc r n = none := by
    intro r h n
    cases hl : V.loc r n with
    | none => rfl
    | some x => have := hr.inv.dom r n x hl; rw [h] at this; cases this
  refine ⟨hr.hb, hr.bel, ⟨hr.inv.base, hr.inv.imm, ?_, ?_, ?_⟩, hr.size, hr.defers, hr.env⟩
  · intro r n x hx
    rcases hobj r with h | h
    · rw [h]; exact hr.inv.dom r n x hx
    · rw [h.2]; rfl
  · intro r x hx
    rcases hobj r with h | h
    · rw [h] at hx; exact hr.inv.objs r x hx
    · rw [h.2] at hx; cases hx; exact hnone r h.1
  · intro r r' x x' b h1 h2 h3 h4
    rcases hobj r with h | h
    · rcases hobj r' with h' | h'
      · rw [h] at h1; rw [h'] at h2; exact hr.inv.sep r r' x x' b h1 h2 h3 h4
      · rw [h'.2] at h2; cases h2; simp [own] at h4
    · rw [h.2] at h1; cases h1; simp [own] at h3

theorem todo_all (ops : Array Oper) : todo ops (Array.replicate ops.size false) = List.range' 0 ops.size := by
  unfold todo
  rw [List.filter_eq_self.2, List.range_eq_range']
  intro i hi
  have := List.mem_range.1 hi
  simp [this]

theorem closed_none (ops : Array Oper) : Closed ops (Array.replicate ops.size false) := by
  intro i j h hi
  simp [hi] at h

/-- A place among the locals. -/
def pos (b j : Nat) : Nat := b + j

theorem awp_draw (hC : CfgOK P C) (hm : P.follows .mixedOrders = true) {id : Nat} {Q : Exit → AState → Prop} (m : Nat) (hchk : chk C ops = true) (hok : codeOK s.n (.region id ops true) = true)
    (h : xopsD P C ops (pos s.b s.L.length) ops.toList (Q .normal) { s with L := s.L ++ List.replicate m .dead }) : AWp P (.region id ops true) Q s := by
  intro V a w hr
  refine wp_region_any hm ?_
  simp only [codeOK, List.all_eq_true, Bool.and_eq_true] at hok
  have hr1 : Rel V a w.drew { s with L := s.L ++ List.replicate m .dead } := by
    have := hr.reserve m
    exact ⟨this.hb, this.bel, this.inv.drew, this.size, this.defers, this.env⟩
  obtain ⟨s', h1, h2⟩ := run_of_xops (ops := ops) (base := pos s.b s.L.length) ops.size 0 (by omega) (by omega) (by simpa [num] using h)
  exact wpAny_run (s := { s with L := s.L ++ List.replicate m .dead }) hC hchk (n := s.n) (b := s.b) (num := num (pos s.b s.L.length) ops) hok ops.size (V0 := V) (w0 := w) (by rw [todo_all]; simp) (by simp) (closed_none ops) rfl rfl hr1 (.refl _ V) (by
    exact ⟨rfl, rfl, rfl, Nat.le_refl _, fun _ _ => rfl⟩) (by rw [todo_all]; exact h1) h2

def GoD (P : Program) (C : Cfg) (K : Exit → AState → Prop) (ops : Array Oper) (j : Nat) (todo : List Oper) (k : List KI) (s : AState) : Prop := xopsD P C ops j todo (Go P C K k) s
def GoDCall (P : Program) (C : Cfg) (K : Exit → AState → Prop) (f : Nat) (args : List AV) (dst : Option Tmp) (ops : Array Oper) (j : Nat) (todo : List Oper) (k : List KI) (s : AState) : Prop :=
  ∃ r args', PCalls P f args' r ∧ (args' = args ∨ args' = AV.normL args) ∧ GoD P C K ops j todo k (s.put dst r)
def GoDX (P : Program) (C : Cfg) (K : Exit → AState → Prop) (ops : Array Oper) (j : Nat) (o : Oper) (todo : List Oper) (k : List KI) (s : AState) : Prop := xopD P C j o (GoD P C K ops (nxt j o) todo k) s
def GoDGb (P : Program) (C : Cfg) (K : Exit → AState → Prop) (b want : Bool) (ops : Array Oper) (j : Nat) (o : Oper) (todo : List Oper) (k : List KI) (s : AState) : Prop :=
  if b = want then GoDX P C K ops j o todo k s else GoD P C K ops (nxt j o) todo k (s.put o.dst (.tup []))
def GoDG (P : Program) (C : Cfg) (K : Exit → AState → Prop) (g : Option (Option Tmp × Bool)) (ops : Array Oper) (j : Nat) (o : Oper) (todo : List Oper) (k : List KI) (s : AState) : Prop :=
  match g with
  | none => GoDX P C K ops j o todo k s
  | some (some t, want) => match s.env t with
    | .bool b => GoDGb P C K b want ops j o todo k s
    | .tup [] => GoD P C K ops (nxt j o) todo k (s.put o.dst (.tup []))
    | _ => False
  | some (none, _) => False

/-- A drawn region, and what is to come behind it: m places for new variables. -/
theorem go_draw (hC : CfgOK P C) (hm : P.follows .mixedOrders = true) {id : Nat} (m n : Nat) (hn : s.n = n) (hchk : chk C ops = true) (hok : codeOK n (.region id ops true) = true)
    (h : GoD P C K ops (pos s.b s.L.length) ops.toList k { s with L := s.L ++ List.replicate m .dead }) : Go P C K (.code (.region id ops true) :: k) s := by
  subst hn
  show X P C (.region id ops true) (Un P C K k) s
  rw [X]
  · exact awp_draw hC hm m hchk hok h
  all_goals simp

theorem goD_nil (ops : Array Oper) (j : Nat) : GoD P C K ops j [] k s = Go P C K k s := rfl
theorem goD_cons (ops : Array Oper) (j : Nat) (o : Oper) (r : List Oper) : GoD P C K ops j (o :: r) k s = GoDG P C K (guardOf ops o) ops j o r k s := rfl
theorem goDG_none (ops : Array Oper) (j : Nat) (o : Oper) (r : List Oper) : GoDG P C K none ops j o r k s = GoDX P C K ops j o r k s := rfl
theorem goDG_some (t : Nat) (want : Bool) (ops : Array Oper) (j : Nat) (o : Oper) (r : List Oper) : GoDG P C K (some (some t, want)) ops j o r k s = match s.env t with
    | .bool b => GoDGb P C K b want ops j o r k s
    | .tup [] => GoD P C K ops (nxt j o) r k (s.put o.dst (.tup []))
    | _ => False := rfl
theorem goDGb_tt (ops : Array Oper) (j : Nat) (o : Oper) (r : List Oper) : GoDGb P C K true true ops j o r k s = GoDX P C K ops j o r k s := rfl
theorem goDGb_ff (ops : Array Oper) (j : Nat) (o : Oper) (r : List Oper) : GoDGb P C K false false ops j o r k s = GoDX P C K ops j o r k s := rfl
theorem goDGb_tf (ops : Array Oper) (j : Nat) (o : Oper) (r : List Oper) : GoDGb P C K true false ops j o r k s = GoD P C K ops (nxt j o) r k (s.put o.dst (.tup [])) := rfl
theorem goDGb_ft (ops : Array Oper) (j : Nat) (o : Oper) (r : List Oper) : GoDGb P C K false true ops j o r k s = GoD P C K ops (nxt j o) r k (s.put o.dst (.tup [])) := rfl
theorem goDGb_split {b want : Bool} {ops : Array Oper} {j : Nat} {o : Oper} {r : List Oper} (h : b = true → GoDGb P C K true want ops j o r k s) (h' : b = false → GoDGb P C K false want ops j o r k s) : GoDGb P C K b want ops j o r k s := by
  cases b
  · exact h' rfl
  · exact h rfl
theorem nxt_pos (b j : Nat) (o : Oper) : nxt (pos b j) o = if isAl o = true then pos b (j + 1) else pos b j := rfl
theorem goDX_call (ops : Array Oper) (j : Nat) (d : Option Tmp) (f : Operand) (args : Array Operand) (ts : Array Nat) (ty : Nat) (pos : String) (af : Array Edge) (g : Option (Nat × Bool)) (r : List Oper) :
    GoDX P C K ops j ⟨d, .call ⟨.value f, args, ts⟩, ty, pos, af, g⟩ r k s = match s.ev f with
      | .fn i => GoDCall P C K i (args.toList.map s.ev) d ops j r k s
      | _ => False := rfl
theorem goDX_alloc (ops : Array Oper) (b j : Nat) (d : Option Tmp) (t : Nat) (ty : Nat) (ps : String) (af : Array Edge) (g : Option (Nat × Bool)) (r : List Oper) : GoDX P C K ops (pos b j) ⟨d, .alloc t, ty, ps, af, g⟩ r k s =
    match C.ty t, s.obj (b + j) with
    | some l, some .dead => s.b ≤ b + j ∧ GoD P C K ops (pos b (j + 1)) r k ((s.setObj (b + j) (.box (cellsOf l.zero))).put d (.bptr (b + j) 0))
    | _, _ => False := by
  simp only [GoDX, xopD, effD, pos]
  split <;> rename_i h
  · split at h
    · rename_i h1 h2
      simp only [Option.some.injEq, Out.mk.injEq] at h
      obtain ⟨rfl, rfl, rfl⟩ := h
      simp only [h1, h2]; rfl
    · cases h
  · split at h
    · cases h
    · rename_i h1
      split
      · rename_i h2 h3; exact absurd h3 (h1 _ h2)
      · rfl
theorem goDX_box (ops : Array Oper) (b j : Nat) (d : Option Tmp) (t : Nat) (x : Operand) (ty : Nat) (ps : String) (af : Array Edge) (g : Option (Nat × Bool)) (r : List Oper) : GoDX P C K ops (pos b j) ⟨d, .box t x, ty, ps, af, g⟩ r k s =
    match s.obj (b + j) with
    | some .dead => (s.b ≤ b + j ∧ (s.ev x).solid = true) ∧ GoD P C K ops (pos b (j + 1)) r k ((s.setObj (b + j) (.box (cellsOf (s.ev x)))).put d (.bptr (b + j) 0))
    | _ => False := by
  simp only [GoDX, xopD, effD, pos]
  split <;> rename_i h
  · split at h
    · rename_i h1
      simp only [Option.some.injEq, Out.mk.injEq] at h
      obtain ⟨rfl, rfl, rfl⟩ := h
      simp only [h1]; rfl
    · cases h
  · split at h
    · cases h
    · rename_i h1
      split
      · rename_i h3; exact absurd h3 h1
      · rfl
/-- A pure call. -/
theorem goDCall_p {f : Nat} {args args' : List AV} {dst : Option Tmp} {ops : Array Oper} {j : Nat} {todo : List Oper} {r : AV} (h : PCalls P f args' r) (ha : args' = args ∨ args' = AV.normL args) (hK : GoD P C K ops j todo k (s.put dst r)) :
    GoDCall P C K f args dst ops j todo k s := ⟨r, args', h, ha, hK⟩
theorem goDX_move (ops : Array Oper) (j : Nat) (d : Option Tmp) (x : Operand) (ty : Nat) (pos : String) (af : Array Edge) (g : Option (Nat × Bool)) (r : List Oper) : GoDX P C K ops j ⟨d, .move x, ty, pos, af, g⟩ r k s = match eff C ⟨d, .move x, ty, pos, af, g⟩ s with
    | some ⟨c, v, s'⟩ => c ∧ GoD P C K ops j r k (s'.put d v)
    | none => False := rfl
theorem goDX_assign (ops : Array Oper) (j : Nat) (d : Option Tmp) (x : Operand) (ty : Nat) (pos : String) (af : Array Edge) (g : Option (Nat × Bool)) (r : List Oper) : GoDX P C K ops j ⟨d, .assign x, ty, pos, af, g⟩ r k s = match eff C ⟨d, .assign x, ty, pos, af, g⟩ s with
    | some ⟨c, v, s'⟩ => c ∧ GoD P C K ops j r k (s'.put d v)
    | none => False := rfl
theorem goDX_pick (ops : Array Oper) (j : Nat) (d : Option Tmp) (x y z : Operand) (ty : Nat) (pos : String) (af : Array Edge) (g : Option (Nat × Bool)) (r : List Oper) : GoDX P C K ops j ⟨d, .pick x y z, ty, pos, af, g⟩ r k s = match eff C ⟨d, .pick x y z, ty, pos, af, g⟩ s with
    | some ⟨c, v, s'⟩ => c ∧ GoD P C K ops j r k (s'.put d v)
    | none => False := rfl
theorem goDX_load (ops : Array Oper) (j : Nat) (d : Option Tmp) (t : Nat) (x : Operand) (ty : Nat) (pos : String) (af : Array Edge) (g : Option (Nat × Bool)) (r : List Oper) : GoDX P C K ops j ⟨d, .load t x, ty, pos, af, g⟩ r k s = match eff C ⟨d, .load t x, ty, pos, af, g⟩ s with
    | some ⟨c, v, s'⟩ => c ∧ GoD P C K ops j r k (s'.put d v)
    | none => False := rfl
theorem goDX_store (ops : Array Oper) (j : Nat) (d : Option Tmp) (t : Nat) (x y : Operand) (ty : Nat) (pos : String) (af : Array Edge) (g : Option (Nat × Bool)) (r : List Oper) : GoDX P C K ops j ⟨d, .store t x y, ty, pos, af, g⟩ r k s = match eff C ⟨d, .store t x y, ty, pos, af, g⟩ s with
    | some ⟨c, v, s'⟩ => c ∧ GoD P C K ops j r k (s'.put d v)
    | none => False := rfl
theorem goDX_nilCheck (ops : Array Oper) (j : Nat) (d : Option Tmp) (x : Operand) (ty : Nat) (pos : String) (af : Array Edge) (g : Option (Nat × Bool)) (r : List Oper) : GoDX P C K ops j ⟨d, .nilCheck x, ty, pos, af, g⟩ r k s = match eff C ⟨d, .nilCheck x, ty, pos, af, g⟩ s with
    | some ⟨c, v, s'⟩ => c ∧ GoD P C K ops j r k (s'.put d v)
    | none => False := rfl
theorem goDX_binOp (ops : Array Oper) (j : Nat) (d : Option Tmp) (op : BinOp) (t u : Nat) (x y : Operand) (ty : Nat) (pos : String) (af : Array Edge) (g : Option (Nat × Bool)) (r : List Oper) : GoDX P C K ops j ⟨d, .binOp op t x y u, ty, pos, af, g⟩ r k s = match eff C ⟨d, .binOp op t x y u, ty, pos, af, g⟩ s with
    | some ⟨c, v, s'⟩ => c ∧ GoD P C K ops j r k (s'.put d v)
    | none => False := rfl
theorem goDX_unOp (ops : Array Oper) (j : Nat) (d : Option Tmp) (op : UnOp) (t : Nat) (x : Operand) (ty : Nat) (pos : String) (af : Array Edge) (g : Option (Nat × Bool)) (r : List Oper) : GoDX P C K ops j ⟨d, .unOp op t x, ty, pos, af, g⟩ r k s = match eff C ⟨d, .unOp op t x, ty, pos, af, g⟩ s with
    | some ⟨c, v, s'⟩ => c ∧ GoD P C K ops j r k (s'.put d v)
    | none => False := rfl
theorem goDX_convert (ops : Array Oper) (j : Nat) (d : Option Tmp) (t u : Nat) (x : Operand) (ty : Nat) (pos : String) (af : Array Edge) (g : Option (Nat × Bool)) (r : List Oper) : GoDX P C K ops j ⟨d, .convert t u x, ty, pos, af, g⟩ r k s = match eff C ⟨d, .convert t u x, ty, pos, af, g⟩ s with
    | some ⟨c, v, s'⟩ => c ∧ GoD P C K ops j r k (s'.put d v)
    | none => False := rfl
theorem goDX_fieldAddr (ops : Array Oper) (j : Nat) (d : Option Tmp) (t f : Nat) (x : Operand) (ty : Nat) (pos : String) (af : Array Edge) (g : Option (Nat × Bool)) (r : List Oper) : GoDX P C K ops j ⟨d, .fieldAddr t x f, ty, pos, af, g⟩ r k s = match eff C ⟨d, .fieldAddr t x f, ty, pos, af, g⟩ s with
    | some ⟨c, v, s'⟩ => c ∧ GoD P C K ops j r k (s'.put d v)
    | none => False := rfl
theorem goDX_field (ops : Array Oper) (j : Nat) (d : Option Tmp) (t f : Nat) (x : Operand) (ty : Nat) (pos : String) (af : Array Edge) (g : Option (Nat × Bool)) (r : List Oper) : GoDX P C K ops j ⟨d, .field t x f, ty, pos, af, g⟩ r k s = match eff C ⟨d, .field t x f, ty, pos, af, g⟩ s with
    | some ⟨c, v, s'⟩ => c ∧ GoD P C K ops j r k (s'.put d v)
    | none => False := rfl
theorem goDX_indexAddr (ops : Array Oper) (j : Nat) (d : Option Tmp) (t : Nat) (x y : Operand) (ty : Nat) (pos : String) (af : Array Edge) (g : Option (Nat × Bool)) (r : List Oper) : GoDX P C K ops j ⟨d, .indexAddr t x y, ty, pos, af, g⟩ r k s = match eff C ⟨d, .indexAddr t x y, ty, pos, af, g⟩ s with
    | some ⟨c, v, s'⟩ => c ∧ GoD P C K ops j r k (s'.put d v)
    | none => False := rfl
theorem goDX_index (ops : Array Oper) (j : Nat) (d : Option Tmp) (t : Nat) (x y : Operand) (ty : Nat) (pos : String) (af : Array Edge) (g : Option (Nat × Bool)) (r : List Oper) : GoDX P C K ops j ⟨d, .index t x y, ty, pos, af, g⟩ r k s = match eff C ⟨d, .index t x y, ty, pos, af, g⟩ s with
    | some ⟨c, v, s'⟩ => c ∧ GoD P C K ops j r k (s'.put d v)
    | none => False := rfl
theorem goDX_build (ops : Array Oper) (j : Nat) (d : Option Tmp) (t : Nat) (ps : Array (Nat × Operand)) (ty : Nat) (pos : String) (af : Array Edge) (g : Option (Nat × Bool)) (r : List Oper) : GoDX P C K ops j ⟨d, .build t ps, ty, pos, af, g⟩ r k s = match eff C ⟨d, .build t ps, ty, pos, af, g⟩ s with
    | some ⟨c, v, s'⟩ => c ∧ GoD P C K ops j r k (s'.put d v)
    | none => False := rfl
theorem goDX_buildSlice (ops : Array Oper) (j : Nat) (d : Option Tmp) (t n : Nat) (ps : Array (Nat × Operand)) (ty : Nat) (pos : String) (af : Array Edge) (g : Option (Nat × Bool)) (r : List Oper) : GoDX P C K ops j ⟨d, .buildSlice t n ps, ty, pos, af, g⟩ r k s = match eff C ⟨d, .buildSlice t n ps, ty, pos, af, g⟩ s with
    | some ⟨c, v, s'⟩ => c ∧ GoD P C K ops j r k (s'.put d v)
    | none => False := rfl
theorem goDX_makeSlice (ops : Array Oper) (j : Nat) (d : Option Tmp) (t : Nat) (x y : Operand) (ty : Nat) (pos : String) (af : Array Edge) (g : Option (Nat × Bool)) (r : List Oper) : GoDX P C K ops j ⟨d, .makeSlice t x y, ty, pos, af, g⟩ r k s = match eff C ⟨d, .makeSlice t x y, ty, pos, af, g⟩ s with
    | some ⟨c, v, s'⟩ => c ∧ GoD P C K ops j r k (s'.put d v)
    | none => False := rfl
theorem goDX_slice (ops : Array Oper) (j : Nat) (d : Option Tmp) (t : Nat) (x : Operand) (lo hi mx : Option Operand) (ty : Nat) (pos : String) (af : Array Edge) (g : Option (Nat × Bool)) (r : List Oper) : GoDX P C K ops j ⟨d, .slice t x lo hi mx, ty, pos, af, g⟩ r k s = match eff C ⟨d, .slice t x lo hi mx, ty, pos, af, g⟩ s with
    | some ⟨c, v, s'⟩ => c ∧ GoD P C K ops j r k (s'.put d v)
    | none => False := rfl
theorem goDX_extract (ops : Array Oper) (j : Nat) (d : Option Tmp) (x : Operand) (i : Nat) (ty : Nat) (pos : String) (af : Array Edge) (g : Option (Nat × Bool)) (r : List Oper) : GoDX P C K ops j ⟨d, .extract x i, ty, pos, af, g⟩ r k s = match eff C ⟨d, .extract x i, ty, pos, af, g⟩ s with
    | some ⟨c, v, s'⟩ => c ∧ GoD P C K ops j r k (s'.put d v)
    | none => False := rfl
theorem goDX_makeMap (ops : Array Oper) (j : Nat) (d : Option Tmp) (t : Nat) (q : Option Operand) (ty : Nat) (pos : String) (af : Array Edge) (g : Option (Nat × Bool)) (r : List Oper) : GoDX P C K ops j ⟨d, .makeMap t q, ty, pos, af, g⟩ r k s = match eff C ⟨d, .makeMap t q, ty, pos, af, g⟩ s with
    | some ⟨c, v, s'⟩ => c ∧ GoD P C K ops j r k (s'.put d v)
    | none => False := rfl
theorem goDX_lookup (ops : Array Oper) (j : Nat) (d : Option Tmp) (t : Nat) (x y : Operand) (b : Bool) (ty : Nat) (pos : String) (af : Array Edge) (g : Option (Nat × Bool)) (r : List Oper) : GoDX P C K ops j ⟨d, .lookup t x y b, ty, pos, af, g⟩ r k s = match eff C ⟨d, .lookup t x y b, ty, pos, af, g⟩ s with
    | some ⟨c, v, s'⟩ => c ∧ GoD P C K ops j r k (s'.put d v)
    | none => False := rfl
theorem goDX_mapUpdate (ops : Array Oper) (j : Nat) (d : Option Tmp) (t : Nat) (x y z : Operand) (ty : Nat) (pos : String) (af : Array Edge) (g : Option (Nat × Bool)) (r : List Oper) : GoDX P C K ops j ⟨d, .mapUpdate t x y z, ty, pos, af, g⟩ r k s = match eff C ⟨d, .mapUpdate t x y z, ty, pos, af, g⟩ s with
    | some ⟨c, v, s'⟩ => c ∧ GoD P C K ops j r k (s'.put d v)
    | none => False := rfl
theorem goDX_builtin (ops : Array Oper) (j : Nat) (d : Option Tmp) (b : Builtin) (args : Array Operand) (ts : Array Nat) (ty : Nat) (pos : String) (af : Array Edge) (g : Option (Nat × Bool)) (r : List Oper) : GoDX P C K ops j ⟨d, .call ⟨.builtin b, args, ts⟩, ty, pos, af, g⟩ r k s = match eff C ⟨d, .call ⟨.builtin b, args, ts⟩, ty, pos, af, g⟩ s with
    | some ⟨c, v, s'⟩ => c ∧ GoD P C K ops j r k (s'.put d v)
    | none => False := rfl
end
end Go.Ab
