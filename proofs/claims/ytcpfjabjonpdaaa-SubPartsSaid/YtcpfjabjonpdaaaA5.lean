/- The executor on abstract values: drawn regions, last part, rules for walks. Conditions stand ahead of each part. -/
import Derived.Test.YtcpfjabjonpdaaaA5p

/- Regions whose order the world draws, fourth part: the executor, step by step. Condition: the executor's table of types is the program's. -/
set_option linter.unusedSimpArgs false
namespace Go.Ab
open Go.RowKit (Below)

section
variable {P : Program} {C : Cfg} {K : Exit → AState → Prop} {k : List KI} {s : AState} {ops : Array Oper}

def num (base : Nat) (ops : Array Oper) (i : Nat) : Nat := (ops.toList.take i).foldl nxt base

theorem run_of_xops {base : Nat} {K : AState → Prop} : ∀ (m i : Nat) {s : AState}, ops.size - i = m → i ≤ ops.size → xopsD P C ops (num base ops i) (ops.toList.drop i) K s → ∃ s', Run P C ops (num base ops) (List.range' i m) s s' ∧ K s'
  | 0, i, s, hm, hi, h => by
    rw [List.drop_of_length_le (by simp; omega)] at h
    exact ⟨s, rfl, h⟩
  | m + 1, i, s, hm, hi, h => by
    have hlt : i < ops.size := by omega
    have hl : i < ops.toList.length := by simpa using hlt
    rw [List.drop_eq_getElem_cons hl] at h
    simp only [xopsD] at h
    obtain ⟨s1, h1, h2⟩ := xguardD_ex h
    have hn : nxt (num base ops i) ops.toList[i] = num base ops (i + 1) := by
      simp only [num]
      rw [List.take_succ_eq_append_getElem hl, List.foldl_append]; rfl
    rw [hn] at h2
    obtain ⟨s', h3, h4⟩ := run_of_xops m (i + 1) (by omega) (by omega) h2
    refine ⟨s', ⟨ops.toList[i], s1, ?_, h1, h3⟩, h4⟩
    simp [hlt]

theorem Rel.reserve {V : View} {a : Act} {w : World} (hr : Rel V a w s) (m : Nat) : Rel V a w { s with L := s.L ++ List.replicate m .dead } := by
  have hobj : ∀ r, ({ s with L := s.L ++ List.replicate m .dead } : AState).obj r = s.obj r ∨ (s.obj r = none ∧ ({ s with L := s.L ++ List.replicate m .dead } : AState).obj r = some .dead) := by
    intro r
    unfold AState.obj
    split
    · exact .inl rfl
    · simp only
      rw [List.getElem?_append]
      split
      · exact .inl rfl
      · rename_i h
        rw [List.getElem?_replicate]
        rw [List.getElem?_eq_none (by omega)]
        split
        · exact .inr ⟨rfl, rfl⟩
        · exact .inl rfl
  have hnone : ∀ r, s.obj r = none → ∀ n, V.loc r n = none := by
    intro r h n
    cases hl : V.loc r n with
    | none => rfl
    | some x => have := hr.inv.dom r n x hl; rw [h] at this; cases this
  refine ⟨hr.hb, hr.bel, ⟨hr.inv.base, hr.inv.imm, ?_, ?_, ?_⟩, hr.size, hr.defers, hr.env⟩
  · intro r n x hx
    rcases hobj r with h | h
    · rw [h]; exact hr.inv.dom r n x hx
    · rw [h.2]; rfl
  · intro r x hx
    rcases hobj r with h | h
    · rw [h] at hx; exact hr.inv.objs r x hx
    · rw [h.2] at hx; cases hx; exact hnone r h.1
  · intro r r' x x' b h1 h2 h3 h4
    rcases hobj r with h | h
    · rcases hobj r' with h' | h'
      · rw [h] at h1; rw [h'] at h2; exact hr.inv.sep r r' x x' b h1 h2 h3 h4
      · rw [h'.2] at h2; cases h2; simp [own] at h4
    · rw [h.2] at h1; cases h1; simp [own] at h3

theorem todo_all (ops : Array Oper) : todo ops (Array.replicate ops.size false) = List.range' 0 ops.size := by
  unfold todo
  rw [List.filter_eq_self.2, List.range_eq_range']
  intro i hi
  have := List.mem_range.1 hi
  simp [this]

theorem closed_none (ops : Array Oper) : Closed ops (Array.replicate ops.size false) := by
  intro i j h hi
  simp [hi] at h

/-- A place among the locals. -/
def pos (b j : Nat) : Nat := b + j

theorem awp_draw (hC : CfgOK P C) (hm : P.follows .mixedOrders = true) {id : Nat} {Q : Exit → AState → Prop} (m : Nat) (hchk : chk C ops = true) (hok : codeOK s.n (.region id ops true) = true)
    (h : xopsD P C ops (pos s.b s.L.length) ops.toList (Q .normal) { s with L := s.L ++ List.replicate m .dead }) : AWp P (.region id ops true) Q s := by
  intro V a w hr
  refine wp_region_any hm ?_
  simp only [codeOK, List.all_eq_true, Bool.and_eq_true] at hok
  have hr1 : Rel V a w.drew { s with L := s.L ++ List.replicate m .dead } := by
    have := hr.reserve m
    exact ⟨this.hb, this.bel, this.inv.drew, this.size, this.defers, this.env⟩
  obtain ⟨s', h1, h2⟩ := run_of_xops (ops := ops) (base := pos s.b s.L.length) ops.size 0 (by omega) (by omega) (by simpa [num] using h)
  exact wpAny_run (s := { s with L := s.L ++ List.replicate m .dead }) hC hchk (n := s.n) (b := s.b) (num := num (pos s.b s.L.length) ops) hok ops.size (V0 := V) (w0 := w) (by rw [todo_all]; simp) (by simp) (closed_none ops) rfl rfl hr1 (.refl _ V) (by
    exact ⟨rfl, rfl, rfl, Nat.le_refl _, fun _ _ => rfl⟩) (by rw [todo_all]; exact h1) h2

def GoD (P : Program) (C : Cfg) (K : Exit → AState → Prop) (ops : Array Oper) (j : Nat) (todo : List Oper) (k : List KI) (s : AState) : Prop := xopsD P C ops j todo (Go P C K k) s
def GoDCall (P : Program) (C : Cfg) (K : Exit → AState → Prop) (f : Nat) (args : List AV) (dst : Option Tmp) (ops : Array Oper) (j : Nat) (todo : List Oper) (k : List KI) (s : AState) : Prop :=
  ∃ r args', PCalls P f args' r ∧ (args' = args ∨ args' = AV.normL args) ∧ GoD P C K ops j todo k (s.put dst r)
def GoDX (P : Program) (C : Cfg) (K : Exit → AState → Prop) (ops : Array Oper) (j : Nat) (o : Oper) (todo : List Oper) (k : List KI) (s : AState) : Prop := xopD P C j o (GoD P C K ops (nxt j o) todo k) s
def GoDGb (P : Program) (C : Cfg) (K : Exit → AState → Prop) (b want : Bool) (ops : Array Oper) (j : Nat) (o : Oper) (todo : List Oper) (k : List KI) (s : AState) : Prop :=
  if b = want then GoDX P C K ops j o todo k s else GoD P C K ops (nxt j o) todo k (s.put o.dst (.tup []))
/-- A guard's slot holds a value. -/
def GoDGv (P : Program) (C : Cfg) (K : Exit → AState → Prop) (v : AV) (want : Bool) (ops : Array Oper) (j : Nat) (o : Oper) (todo : List Oper) (k : List KI) (s : AState) : Prop :=
  match v with
  | .bool b => GoDGb P C K b want ops j o todo k s
  | .tup [] => GoD P C K ops (nxt j o) todo k (s.put o.dst (.tup []))
  | _ => False
def GoDG (P : Program) (C : Cfg) (K : Exit → AState → Prop) (g : Option (Option Tmp × Bool)) (ops : Array Oper) (j : Nat) (o : Oper) (todo : List Oper) (k : List KI) (s : AState) : Prop :=
  match g with
  | none => GoDX P C K ops j o todo k s
  | some (some t, want) => match s.env t with
    | .bool b => GoDGb P C K b want ops j o todo k s
    | .tup [] => GoD P C K ops (nxt j o) todo k (s.put o.dst (.tup []))
    | _ => False
  | some (none, _) => False

/-- A drawn region, and what is to come behind it: m places for new variables. -/
theorem go_draw (hC : CfgOK P C) (hm : P.follows .mixedOrders = true) {id : Nat} (m n : Nat) (hn : s.n = n) (hchk : chk C ops = true) (hok : codeOK n (.region id ops true) = true)
    (h : GoD P C K ops (pos s.b s.L.length) ops.toList k { s with L := s.L ++ List.replicate m .dead }) : Go P C K (.code (.region id ops true) :: k) s := by
  subst hn
  show X P C (.region id ops true) (Un P C K k) s
  rw [X]
  · exact awp_draw hC hm m hchk hok h
  all_goals simp

theorem goD_nil (ops : Array Oper) (j : Nat) : GoD P C K ops j [] k s = Go P C K k s := rfl
theorem goD_cons (ops : Array Oper) (j : Nat) (o : Oper) (r : List Oper) : GoD P C K ops j (o :: r) k s = GoDG P C K (guardOf ops o) ops j o r k s := rfl
theorem goDG_none (ops : Array Oper) (j : Nat) (o : Oper) (r : List Oper) : GoDG P C K none ops j o r k s = GoDX P C K ops j o r k s := rfl
theorem goDG_some (t : Nat) (want : Bool) (ops : Array Oper) (j : Nat) (o : Oper) (r : List Oper) : GoDG P C K (some (some t, want)) ops j o r k s = GoDGv P C K (s.env t) want ops j o r k s := rfl
theorem goDGv_bool (b want : Bool) (ops : Array Oper) (j : Nat) (o : Oper) (r : List Oper) : GoDGv P C K (.bool b) want ops j o r k s = GoDGb P C K b want ops j o r k s := rfl
theorem goDGv_skip (want : Bool) (ops : Array Oper) (j : Nat) (o : Oper) (r : List Oper) : GoDGv P C K (.tup []) want ops j o r k s = GoD P C K ops (nxt j o) r k (s.put o.dst (.tup [])) := rfl
theorem goDGb_tt (ops : Array Oper) (j : Nat) (o : Oper) (r : List Oper) : GoDGb P C K true true ops j o r k s = GoDX P C K ops j o r k s := rfl
theorem goDGb_ff (ops : Array Oper) (j : Nat) (o : Oper) (r : List Oper) : GoDGb P C K false false ops j o r k s = GoDX P C K ops j o r k s := rfl
theorem goDGb_tf (ops : Array Oper) (j : Nat) (o : Oper) (r : List Oper) : GoDGb P C K true false ops j o r k s = GoD P C K ops (nxt j o) r k (s.put o.dst (.tup [])) := rfl
theorem goDGb_ft (ops : Array Oper) (j : Nat) (o : Oper) (r : List Oper) : GoDGb P C K false true ops j o r k s = GoD P C K ops (nxt j o) r k (s.put o.dst (.tup [])) := rfl
theorem goDGb_split {b want : Bool} {ops : Array Oper} {j : Nat} {o : Oper} {r : List Oper} (h : b = true → GoDGb P C K true want ops j o r k s) (h' : b = false → GoDGb P C K false want ops j o r k s) : GoDGb P C K b want ops j o r k s := by
  cases b
  · exact h' rfl
  · exact h rfl
theorem nxt_pos (b j : Nat) (o : Oper) : nxt (pos b j) o = if isAl o = true then pos b (j + 1) else pos b j := rfl
theorem goDX_call (ops : Array Oper) (j : Nat) (d : Option Tmp) (f : Operand) (args : Array Operand) (ts : Array Nat) (ty : Nat) (pos : String) (af : Array Edge) (g : Option (Nat × Bool)) (r : List Oper) :
    GoDX P C K ops j ⟨d, .call ⟨.value f, args, ts⟩, ty, pos, af, g⟩ r k s = match s.ev f with
      | .fn i => GoDCall P C K i (args.toList.map s.ev) d ops j r k s
      | _ => False := rfl
theorem goDX_alloc (ops : Array Oper) (b j : Nat) (d : Option Tmp) (t : Nat) (ty : Nat) (ps : String) (af : Array Edge) (g : Option (Nat × Bool)) (r : List Oper) : GoDX P C K ops (pos b j) ⟨d, .alloc t, ty, ps, af, g⟩ r k s =
    match C.ty t, s.obj (b + j) with
    | some l, some .dead => s.b ≤ b + j ∧ GoD P C K ops (pos b (j + 1)) r k ((s.setObj (b + j) (.box (cellsOf l.zero))).put d (.bptr (b + j) 0))
    | _, _ => False := by
  simp only [GoDX, xopD, effD, pos]
  split <;> rename_i h
  · split at h
    · rename_i h1 h2
      simp only [Option.some.injEq, Out.mk.injEq] at h
      obtain ⟨rfl, rfl, rfl⟩ := h
      simp only [h1, h2]; rfl
    · cases h
  · split at h
    · cases h
    · rename_i h1
      split
      · rename_i h2 h3; exact absurd h3 (h1 _ h2)
      · rfl
theorem goDX_box (ops : Array Oper) (b j : Nat) (d : Option Tmp) (t : Nat) (x : Operand) (ty : Nat) (ps : String) (af : Array Edge) (g : Option (Nat × Bool)) (r : List Oper) : GoDX P C K ops (pos b j) ⟨d, .box t x, ty, ps, af, g⟩ r k s =
    match s.obj (b + j) with
    | some .dead => (s.b ≤ b + j ∧ (s.ev x).solid = true) ∧ GoD P C K ops (pos b (j + 1)) r k ((s.setObj (b + j) (.box (cellsOf (s.ev x)))).put d (.bptr (b + j) 0))
    | _ => False := by
  simp only [GoDX, xopD, effD, pos]
  split <;> rename_i h
  · split at h
    · rename_i h1
      simp only [Option.some.injEq, Out.mk.injEq] at h
      obtain ⟨rfl, rfl, rfl⟩ := h
      simp only [h1]; rfl
    · cases h
  · split at h
    · cases h
    · rename_i h1
      split
      · rename_i h3; exact absurd h3 h1
      · rfl
/-- A pure call. -/
theorem goDCall_p {f : Nat} {args args' : List AV} {dst : Option Tmp} {ops : Array Oper} {j : Nat} {todo : List Oper} {r : AV} (h : PCalls P f args' r) (ha : args' = args ∨ args' = AV.normL args) (hK : GoD P C K ops j todo k (s.put dst r)) :
    GoDCall P C K f args dst ops j todo k s := ⟨r, args', h, ha, hK⟩
theorem goDX_move (ops : Array Oper) (j : Nat) (d : Option Tmp) (x : Operand) (ty : Nat) (pos : String) (af : Array Edge) (g : Option (Nat × Bool)) (r : List Oper) : GoDX P C K ops j ⟨d, .move x, ty, pos, af, g⟩ r k s = match eff C ⟨d, .move x, ty, pos, af, g⟩ s with
    | some ⟨c, v, s'⟩ => c ∧ GoD P C K ops j r k (s'.put d v)
    | none => False := rfl
theorem goDX_assign (ops : Array Oper) (j : Nat) (d : Option Tmp) (x : Operand) (ty : Nat) (pos : String) (af : Array Edge) (g : Option (Nat × Bool)) (r : List Oper) : GoDX P C K ops j ⟨d, .assign x, ty, pos, af, g⟩ r k s = match eff C ⟨d, .assign x, ty, pos, af, g⟩ s with
    | some ⟨c, v, s'⟩ => c ∧ GoD P C K ops j r k (s'.put d v)
    | none => False := rfl
theorem goDX_pick (ops : Array Oper) (j : Nat) (d : Option Tmp) (x y z : Operand) (ty : Nat) (pos : String) (af : Array Edge) (g : Option (Nat × Bool)) (r : List Oper) : GoDX P C K ops j ⟨d, .pick x y z, ty, pos, af, g⟩ r k s = match eff C ⟨d, .pick x y z, ty, pos, af, g⟩ s with
    | some ⟨c, v, s'⟩ => c ∧ GoD P C K ops j r k (s'.put d v)
    | none => False := rfl
theorem goDX_load (ops : Array Oper) (j : Nat) (d : Option Tmp) (t : Nat) (x : Operand) (ty : Nat) (pos : String) (af : Array Edge) (g : Option (Nat × Bool)) (r : List Oper) : GoDX P C K ops j ⟨d, .load t x, ty, pos, af, g⟩ r k s = match eff C ⟨d, .load t x, ty, pos, af, g⟩ s with
    | some ⟨c, v, s'⟩ => c ∧ GoD P C K ops j r k (s'.put d v)
    | none => False := rfl
theorem goDX_store (ops : Array Oper) (j : Nat) (d : Option Tmp) (t : Nat) (x y : Operand) (ty : Nat) (pos : String) (af : Array Edge) (g : Option (Nat × Bool)) (r : List Oper) : GoDX P C K ops j ⟨d, .store t x y, ty, pos, af, g⟩ r k s = match eff C ⟨d, .store t x y, ty, pos, af, g⟩ s with
    | some ⟨c, v, s'⟩ => c ∧ GoD P C K ops j r k (s'.put d v)
    | none => False := rfl
theorem goDX_nilCheck (ops : Array Oper) (j : Nat) (d : Option Tmp) (x : Operand) (ty : Nat) (pos : String) (af : Array Edge) (g : Option (Nat × Bool)) (r : List Oper) : GoDX P C K ops j ⟨d, .nilCheck x, ty, pos, af, g⟩ r k s = match eff C ⟨d, .nilCheck x, ty, pos, af, g⟩ s with
    | some ⟨c, v, s'⟩ => c ∧ GoD P C K ops j r k (s'.put d v)
    | none => False := rfl
theorem goDX_binOp (ops : Array Oper) (j : Nat) (d : Option Tmp) (op : BinOp) (t u : Nat) (x y : Operand) (ty : Nat) (pos : String) (af : Array Edge) (g : Option (Nat × Bool)) (r : List Oper) : GoDX P C K ops j ⟨d, .binOp op t x y u, ty, pos, af, g⟩ r k s = match eff C ⟨d, .binOp op t x y u, ty, pos, af, g⟩ s with
    | some ⟨c, v, s'⟩ => c ∧ GoD P C K ops j r k (s'.put d v)
    | none => False := rfl
theorem goDX_unOp (ops : Array Oper) (j : Nat) (d : Option Tmp) (op : UnOp) (t : Nat) (x : Operand) (ty : Nat) (pos : String) (af : Array Edge) (g : Option (Nat × Bool)) (r : List Oper) : GoDX P C K ops j ⟨d, .unOp op t x, ty, pos, af, g⟩ r k s = match eff C ⟨d, .unOp op t x, ty, pos, af, g⟩ s with
    | some ⟨c, v, s'⟩ => c ∧ GoD P C K ops j r k (s'.put d v)
    | none => False := rfl
theorem goDX_convert (ops : Array Oper) (j : Nat) (d : Option Tmp) (t u : Nat) (x : Operand) (ty : Nat) (pos : String) (af : Array Edge) (g : Option (Nat × Bool)) (r : List Oper) : GoDX P C K ops j ⟨d, .convert t u x, ty, pos, af, g⟩ r k s = match eff C ⟨d, .convert t u x, ty, pos, af, g⟩ s with
    | some ⟨c, v, s'⟩ => c ∧ GoD P C K ops j r k (s'.put d v)
    | none => False := rfl
theorem goDX_fieldAddr (ops : Array Oper) (j : Nat) (d : Option Tmp) (t f : Nat) (x : Operand) (ty : Nat) (pos : String) (af : Array Edge) (g : Option (Nat × Bool)) (r : List Oper) : GoDX P C K ops j ⟨d, .fieldAddr t x f, ty, pos, af, g⟩ r k s = match eff C ⟨d, .fieldAddr t x f, ty, pos, af, g⟩ s with
    | some ⟨c, v, s'⟩ => c ∧ GoD P C K ops j r k (s'.put d v)
    | none => False := rfl
theorem goDX_field (ops : Array Oper) (j : Nat) (d : Option Tmp) (t f : Nat) (x : Operand) (ty : Nat) (pos : String) (af : Array Edge) (g : Option (Nat × Bool)) (r : List Oper) : GoDX P C K ops j ⟨d, .field t x f, ty, pos, af, g⟩ r k s = match eff C ⟨d, .field t x f, ty, pos, af, g⟩ s with
    | some ⟨c, v, s'⟩ => c ∧ GoD P C K ops j r k (s'.put d v)
    | none => False := rfl
theorem goDX_indexAddr (ops : Array Oper) (j : Nat) (d : Option Tmp) (t : Nat) (x y : Operand) (ty : Nat) (pos : String) (af : Array Edge) (g : Option (Nat × Bool)) (r : List Oper) : GoDX P C K ops j ⟨d, .indexAddr t x y, ty, pos, af, g⟩ r k s = match eff C ⟨d, .indexAddr t x y, ty, pos, af, g⟩ s with
    | some ⟨c, v, s'⟩ => c ∧ GoD P C K ops j r k (s'.put d v)
    | none => False := rfl
theorem goDX_index (ops : Array Oper) (j : Nat) (d : Option Tmp) (t : Nat) (x y : Operand) (ty : Nat) (pos : String) (af : Array Edge) (g : Option (Nat × Bool)) (r : List Oper) : GoDX P C K ops j ⟨d, .index t x y, ty, pos, af, g⟩ r k s = match eff C ⟨d, .index t x y, ty, pos, af, g⟩ s with
    | some ⟨c, v, s'⟩ => c ∧ GoD P C K ops j r k (s'.put d v)
    | none => False := rfl
theorem goDX_build (ops : Array Oper) (j : Nat) (d : Option Tmp) (t : Nat) (ps : Array (Nat × Operand)) (ty : Nat) (pos : String) (af : Array Edge) (g : Option (Nat × Bool)) (r : List Oper) : GoDX P C K ops j ⟨d, .build t ps, ty, pos, af, g⟩ r k s = match eff C ⟨d, .build t ps, ty, pos, af, g⟩ s with
    | some ⟨c, v, s'⟩ => c ∧ GoD P C K ops j r k (s'.put d v)
    | none => False := rfl
theorem goDX_buildSlice (ops : Array Oper) (j : Nat) (d : Option Tmp) (t n : Nat) (ps : Array (Nat × Operand)) (ty : Nat) (pos : String) (af : Array Edge) (g : Option (Nat × Bool)) (r : List Oper) : GoDX P C K ops j ⟨d, .buildSlice t n ps, ty, pos, af, g⟩ r k s = match eff C ⟨d, .buildSlice t n ps, ty, pos, af, g⟩ s with
    | some ⟨c, v, s'⟩ => c ∧ GoD P C K ops j r k (s'.put d v)
    | none => False := rfl
theorem goDX_makeSlice (ops : Array Oper) (j : Nat) (d : Option Tmp) (t : Nat) (x y : Operand) (ty : Nat) (pos : String) (af : Array Edge) (g : Option (Nat × Bool)) (r : List Oper) : GoDX P C K ops j ⟨d, .makeSlice t x y, ty, pos, af, g⟩ r k s = match eff C ⟨d, .makeSlice t x y, ty, pos, af, g⟩ s with
    | some ⟨c, v, s'⟩ => c ∧ GoD P C K ops j r k (s'.put d v)
    | none => False := rfl
theorem goDX_slice (ops : Array Oper) (j : Nat) (d : Option Tmp) (t : Nat) (x : Operand) (lo hi mx : Option Operand) (ty : Nat) (pos : String) (af : Array Edge) (g : Option (Nat × Bool)) (r : List Oper) : GoDX P C K ops j ⟨d, .slice t x lo hi mx, ty, pos, af, g⟩ r k s = match eff C ⟨d, .slice t x lo hi mx, ty, pos, af, g⟩ s with
    | some ⟨c, v, s'⟩ => c ∧ GoD P C K ops j r k (s'.put d v)
    | none => False := rfl
theorem goDX_extract (ops : Array Oper) (j : Nat) (d : Option Tmp) (x : Operand) (i : Nat) (ty : Nat) (pos : String) (af : Array Edge) (g : Option (Nat × Bool)) (r : List Oper) : GoDX P C K ops j ⟨d, .extract x i, ty, pos, af, g⟩ r k s = match eff C ⟨d, .extract x i, ty, pos, af, g⟩ s with
    | some ⟨c, v, s'⟩ => c ∧ GoD P C K ops j r k (s'.put d v)
    | none => False := rfl
theorem goDX_makeMap (ops : Array Oper) (j : Nat) (d : Option Tmp) (t : Nat) (q : Option Operand) (ty : Nat) (pos : String) (af : Array Edge) (g : Option (Nat × Bool)) (r : List Oper) : GoDX P C K ops j ⟨d, .makeMap t q, ty, pos, af, g⟩ r k s = match eff C ⟨d, .makeMap t q, ty, pos, af, g⟩ s with
    | some ⟨c, v, s'⟩ => c ∧ GoD P C K ops j r k (s'.put d v)
    | none => False := rfl
theorem goDX_lookup (ops : Array Oper) (j : Nat) (d : Option Tmp) (t : Nat) (x y : Operand) (b : Bool) (ty : Nat) (pos : String) (af : Array Edge) (g : Option (Nat × Bool)) (r : List Oper) : GoDX P C K ops j ⟨d, .lookup t x y b, ty, pos, af, g⟩ r k s = match eff C ⟨d, .lookup t x y b, ty, pos, af, g⟩ s with
    | some ⟨c, v, s'⟩ => c ∧ GoD P C K ops j r k (s'.put d v)
    | none => False := rfl
theorem goDX_mapUpdate (ops : Array Oper) (j : Nat) (d : Option Tmp) (t : Nat) (x y z : Operand) (ty : Nat) (pos : String) (af : Array Edge) (g : Option (Nat × Bool)) (r : List Oper) : GoDX P C K ops j ⟨d, .mapUpdate t x y z, ty, pos, af, g⟩ r k s = match eff C ⟨d, .mapUpdate t x y z, ty, pos, af, g⟩ s with
    | some ⟨c, v, s'⟩ => c ∧ GoD P C K ops j r k (s'.put d v)
    | none => False := rfl
theorem goDX_builtin (ops : Array Oper) (j : Nat) (d : Option Tmp) (b : Builtin) (args : Array Operand) (ts : Array Nat) (ty : Nat) (pos : String) (af : Array Edge) (g : Option (Nat × Bool)) (r : List Oper) : GoDX P C K ops j ⟨d, .call ⟨.builtin b, args, ts⟩, ty, pos, af, g⟩ r k s = match eff C ⟨d, .call ⟨.builtin b, args, ts⟩, ty, pos, af, g⟩ s with
    | some ⟨c, v, s'⟩ => c ∧ GoD P C K ops j r k (s'.put d v)
    | none => False := rfl
end
end Go.Ab

/- Rules for the walks: arguments made plain, slots that are no longer looked at, loops. No condition. -/
set_option linter.unusedSimpArgs false
set_option linter.defProp false
namespace Go.Ab
open Go.RowKit (Below)

section
variable {P : Program} {C : Cfg} {K : Exit → AState → Prop} {k : List KI} {s : AState}

/-- The slots, into which simp does not look but for a slot's value. -/
def frz (e : Nat → AV) : Nat → AV := e
theorem frz_app (e : Nat → AV) (t : Nat) : frz e t = e t := rfl
theorem frz_upd (e : Nat → AV) (d : Nat) (v : AV) : upd (frz e) d v = frz (upd e d v) := rfl
theorem frz_congr (e : Nat → AV) : frz e = frz e := rfl
attribute [congr] frz_congr
theorem initS_frz (args : List AV) (H : List AObj) (n : Nat) : initS args H n = ⟨frz fun t => args.getD t .any, H.length, H, [], n⟩ := rfl
theorem envL_frz (l : List (Nat × AV)) (b : Nat) (H L : List AObj) (n : Nat) : AState.mk (envL l) b H L n = AState.mk (frz (envL l)) b H L n := rfl

theorem goO_congr {ops : Array Oper} {todo : List Oper} {s' : AState} (h : s = s') : GoO P C K ops todo k s = GoO P C K ops todo k s' := by rw [h]
theorem goX_congr {ops : Array Oper} {o : Oper} {todo : List Oper} {s' : AState} (h : s = s') : GoX P C K ops o todo k s = GoX P C K ops o todo k s' := by rw [h]
theorem goCall_congr {f : Nat} {args args' : List AV} {dst : Option Tmp} {ops : Array Oper} {todo : List Oper} {s' : AState} (ha : args = args') (h : s = s') : GoCall P C K f args dst ops todo k s = GoCall P C K f args' dst ops todo k s' := by rw [ha, h]
theorem goGv_congr {v v' : AV} {want : Bool} {ops : Array Oper} {o : Oper} {todo : List Oper} {s' : AState} (hv : v = v') (h : s = s') : GoGv P C K v want ops o todo k s = GoGv P C K v' want ops o todo k s' := by rw [hv, h]
theorem goDGv_congr {v v' : AV} {want : Bool} {ops : Array Oper} {j j' : Nat} {o : Oper} {todo : List Oper} {s' : AState} (hv : v = v') (hj : j = j') (h : s = s') : GoDGv P C K v want ops j o todo k s = GoDGv P C K v' want ops j' o todo k s' := by rw [hv, hj, h]
theorem goG_congr {g g' : Option (Option Tmp × Bool)} {ops : Array Oper} {o : Oper} {todo : List Oper} {s' : AState} (hg : g = g') (h : s = s') : GoG P C K g ops o todo k s = GoG P C K g' ops o todo k s' := by rw [hg, h]
theorem goGb_congr {b b' want : Bool} {ops : Array Oper} {o : Oper} {todo : List Oper} {s' : AState} (hb : b = b') (h : s = s') : GoGb P C K b want ops o todo k s = GoGb P C K b' want ops o todo k s' := by rw [hb, h]
theorem goIf_congr {b b' : Bool} {x y : Code} {s' : AState} (hb : b = b') (h : s = s') : GoIf P C K b x y k s = GoIf P C K b' x y k s' := by rw [hb, h]
theorem go_congr {s' : AState} (h : s = s') : Go P C K k s = Go P C K k s' := by rw [h]
theorem goD_congr {ops : Array Oper} {j j' : Nat} {todo : List Oper} {s' : AState} (hj : j = j') (h : s = s') : GoD P C K ops j todo k s = GoD P C K ops j' todo k s' := by rw [hj, h]
theorem goDX_congr {ops : Array Oper} {j j' : Nat} {o : Oper} {todo : List Oper} {s' : AState} (hj : j = j') (h : s = s') : GoDX P C K ops j o todo k s = GoDX P C K ops j' o todo k s' := by rw [hj, h]
theorem goDCall_congr {f : Nat} {args args' : List AV} {dst : Option Tmp} {ops : Array Oper} {j j' : Nat} {todo : List Oper} {s' : AState} (ha : args = args') (hj : j = j') (h : s = s') : GoDCall P C K f args dst ops j todo k s = GoDCall P C K f args' dst ops j' todo k s' := by rw [ha, hj, h]
theorem goDG_congr {g g' : Option (Option Tmp × Bool)} {ops : Array Oper} {j j' : Nat} {o : Oper} {todo : List Oper} {s' : AState} (hg : g = g') (hj : j = j') (h : s = s') : GoDG P C K g ops j o todo k s = GoDG P C K g' ops j' o todo k s' := by rw [hg, hj, h]
theorem goDGb_congr {b b' want : Bool} {ops : Array Oper} {j j' : Nat} {o : Oper} {todo : List Oper} {s' : AState} (hb : b = b') (hj : j = j') (h : s = s') : GoDGb P C K b want ops j o todo k s = GoDGb P C K b' want ops j' o todo k s' := by rw [hb, hj, h]
attribute [congr] goGv_congr goDGv_congr goO_congr goX_congr goCall_congr goG_congr goGb_congr goIf_congr go_congr goD_congr goDX_congr goDCall_congr goDG_congr goDGb_congr

theorem goCall_norm {f : Nat} {args : List AV} {dst : Option Tmp} {ops : Array Oper} {todo : List Oper} (h : GoCall P C K f (AV.normL args) dst ops todo k s) : GoCall P C K f args dst ops todo k s := by
  refine ⟨h.1, fun V w vs h1 h2 h3 h4 h5 => h.2 V w vs h1 h2 h3 (by rw [normL_length]; exact h4) fun i hi => ?_⟩
  rw [normL_length] at hi
  rw [normL_getD]
  exact (h5 i hi).normed

mutual
theorem norm_norm : ∀ a : AV, a.norm.norm = a.norm
  | .any => rfl
  | .int _ _ => rfl
  | .bool _ => rfl
  | .str _ => rfl
  | .nilp => rfl
  | .agg cs => by simp only [AV.norm, normL_normL cs]
  | .tup cs => by simp only [AV.norm, normL_normL cs]
  | .sl es t => by simp only [AV.norm, normL_normL es]
  | .eptr e _ => by simp only [AV.norm, normL_normL e]
  | .bptr _ _ => rfl
  | .ms _ _ _ => rfl
  | .aptr _ _ _ _ _ => rfl
  | .mp _ => rfl
  | .nilm => rfl
  | .fn _ => rfl
  | .nilf => rfl
theorem normL_normL : ∀ l : List AV, AV.normL (AV.normL l) = AV.normL l
  | [] => rfl
  | a :: as => by simp only [AV.normL, norm_norm a, normL_normL as]
end

theorem goDCall_norm {f : Nat} {args : List AV} {dst : Option Tmp} {ops : Array Oper} {j : Nat} {todo : List Oper} (h : GoDCall P C K f (AV.normL args) dst ops j todo k s) : GoDCall P C K f args dst ops j todo k s := by
  obtain ⟨r, as, h1, h2, h3⟩ := h
  refine ⟨r, as, h1, .inr ?_, h3⟩
  rcases h2 with h2 | h2
  · exact h2
  · rw [h2, normL_normL]

/-- Only these slots are still looked at. -/
theorem aloop_trim (ts : List Nat) {b : Code} {Q : Exit → AState → Prop} (h : ALoop P b Q ⟨envL (ts.map fun t => (t, s.env t)), s.b, s.H, s.L, s.n⟩) : ALoop P b Q s := by
  refine ALoop.weak (weak_of rfl rfl rfl rfl fun p hp => ?_) h
  obtain ⟨t, _, rfl⟩ := List.mem_map.1 hp
  exact .inl rfl

/-- A loop: S: the first m slots' and the locals' values, by a parameter; all other slots stay. -/
theorem goLoopS {ι : Type} (m : Nat) (chg : ι → List (Nat × AV)) (Lx : ι → List AObj) (I : ι → Prop) (μ : ι → Nat) {l : List (Nat × AV)} {b n : Nat} {H L : List AObj} {c : Code} (hC : CfgOK P C) (x : ι) (h0 : chg x = l.take m) (hL : Lx x = L) (hx : I x)
    (hok : codeOK n c = true)
    (h : ∀ x, I x → Go P C (cutNormal (Un P C K k) fun s' => ∃ y, I y ∧ μ y < μ x ∧ Weak s' ⟨envL (chg y ++ l.drop m), b, H, Lx y, n⟩) [.code c] ⟨envL (chg x ++ l.drop m), b, H, Lx x, n⟩) :
    ALoop P c (Un P C K k) ⟨envL l, b, H, L, n⟩ := by
  refine goLoop (s := ⟨envL l, b, H, L, n⟩) (fun x => ⟨envL (chg x ++ l.drop m), b, H, Lx x, n⟩) I μ hC x hx ?_ hok h
  rw [h0, hL, List.take_append_drop]
  exact ⟨rfl, rfl, rfl, by simp, fun t => .inr (.inl rfl), .inl rfl⟩

/-- The same, the locals from a number on by the parameter. -/
theorem goLoopP {ι : Type} (m p : Nat) (chg : ι → List (Nat × AV)) (ext : ι → List AObj) (I : ι → Prop) (μ : ι → Nat) {l : List (Nat × AV)} {b n : Nat} {H L : List AObj} {c : Code} (hC : CfgOK P C) (x : ι) (h0 : chg x = l.take m) (hL : ext x = L.drop p) (hx : I x)
    (hok : codeOK n c = true)
    (h : ∀ x, I x → Go P C (cutNormal (Un P C K k) fun s' => ∃ y, I y ∧ μ y < μ x ∧ Weak s' ⟨envL (chg y ++ l.drop m), b, H, L.take p ++ ext y, n⟩) [.code c] ⟨envL (chg x ++ l.drop m), b, H, L.take p ++ ext x, n⟩) :
    ALoop P c (Un P C K k) ⟨envL l, b, H, L, n⟩ :=
  goLoopS m chg (fun y => L.take p ++ ext y) I μ hC x h0 (by rw [hL, List.take_append_drop]) hx hok h

/-- One round. -/
theorem goRound {b : Code} (h : Go P C (cutNormal (Un P C K k) (ALoop P b (Un P C K k))) [.code b] s) (hC : CfgOK P C) (n : Nat) (hn : s.n = n) (hok : codeOK n b = true) : ALoop P b (Un P C K k) s :=
  aloop_round (X_sound hC callK_fn n b hok hn h)

theorem wrap_1 : IntKind.wrap .i64 1 = 1 := by decide
theorem wrap_2 : IntKind.wrap .i64 2 = 2 := by decide
theorem wrap_3 : IntKind.wrap .i64 3 = 3 := by decide
theorem goIf_b {α : Type} [BEq α] {u v : α} {x y : Code} (h : (u == v) = true → Go P C K (.code x :: k) s) (h' : (u == v) = false → Go P C K (.code y :: k) s) : GoIf P C K (u == v) x y k s := goIf_split h h'
theorem goIf_n {α : Type} [BEq α] {u v : α} {x y : Code} (h : (u != v) = true → Go P C K (.code x :: k) s) (h' : (u != v) = false → Go P C K (.code y :: k) s) : GoIf P C K (u != v) x y k s := goIf_split h h'
theorem goIf_d {p : Prop} [Decidable p] {x y : Code} (h : p → Go P C K (.code x :: k) s) (h' : ¬ p → Go P C K (.code y :: k) s) : GoIf P C K (decide p) x y k s := goIf_split (fun e => h (by simpa using e)) (fun e => h' (by simpa using e))
theorem goGb_b {α : Type} [BEq α] {u v : α} {want : Bool} {ops : Array Oper} {o : Oper} {r : List Oper} (h : (u == v) = true → GoGb P C K true want ops o r k s) (h' : (u == v) = false → GoGb P C K false want ops o r k s) : GoGb P C K (u == v) want ops o r k s := goGb_split h h'
theorem goGb_n {α : Type} [BEq α] {u v : α} {want : Bool} {ops : Array Oper} {o : Oper} {r : List Oper} (h : (u != v) = true → GoGb P C K true want ops o r k s) (h' : (u != v) = false → GoGb P C K false want ops o r k s) : GoGb P C K (u != v) want ops o r k s := goGb_split h h'
theorem goGb_d {p : Prop} [Decidable p] {want : Bool} {ops : Array Oper} {o : Oper} {r : List Oper} (h : p → GoGb P C K true want ops o r k s) (h' : ¬ p → GoGb P C K false want ops o r k s) : GoGb P C K (decide p) want ops o r k s := goGb_split (fun e => h (by simpa using e)) (fun e => h' (by simpa using e))
theorem goDGb_b {α : Type} [BEq α] {u v : α} {want : Bool} {ops : Array Oper} {j : Nat} {o : Oper} {r : List Oper} (h : (u == v) = true → GoDGb P C K true want ops j o r k s) (h' : (u == v) = false → GoDGb P C K false want ops j o r k s) : GoDGb P C K (u == v) want ops j o r k s := goDGb_split h h'
theorem goDGb_n {α : Type} [BEq α] {u v : α} {want : Bool} {ops : Array Oper} {j : Nat} {o : Oper} {r : List Oper} (h : (u != v) = true → GoDGb P C K true want ops j o r k s) (h' : (u != v) = false → GoDGb P C K false want ops j o r k s) : GoDGb P C K (u != v) want ops j o r k s := goDGb_split h h'
theorem goDGb_d {p : Prop} [Decidable p] {want : Bool} {ops : Array Oper} {j : Nat} {o : Oper} {r : List Oper} (h : p → GoDGb P C K true want ops j o r k s) (h' : ¬ p → GoDGb P C K false want ops j o r k s) : GoDGb P C K (decide p) want ops j o r k s := goDGb_split (fun e => h (by simpa using e)) (fun e => h' (by simpa using e))

theorem mem_nil_all {α : Type} {p : α → Prop} : (∀ x, x ∈ ([] : List α) → p x) = True := by simp
theorem maxLen_val : maxLen = 9223372036854775807 := rfl
theorem bytesMax_val : bytesMax = 140737488355328 := rfl
theorem app_cons {α : Type} (a : α) (l m : List α) : List.append (a :: l) m = a :: List.append l m := rfl
theorem app_nil {α : Type} (m : List α) : List.append [] m = m := rfl
theorem toList_arr {α : Type} (l : List α) : (List.toArray l).toList = l := rfl
theorem lt_is {i n : Nat} (h : i < n) : (i < n) = True := eq_true h
theorem aresL_c (x t : Nat) (rs : List ResultVar) : aresL C s (.cell x t :: rs) = match C.ty t, cellsAt s (s.env x), aresL C s rs with
    | some l, some (cs, off, c), some (c', vs) => some ((c ∧ (partA l cs off).1) ∧ c', (partA l cs off).2 :: vs)
    | _, _, _ => none := by
  simp only [aresL, ares1]
  cases C.ty t <;> cases cellsAt s (s.env x) <;> cases aresL C s rs <;> rfl

end

def W0d := And.intro @go_nil (And.intro @go_blk (And.intro @go_skip (And.intro @go_seq (And.intro @go_block (And.intro @go_cond (And.intro @go_exit (And.intro @go_ret (And.intro @go_region (And.intro @go_loop (And.intro @goO_nil (And.intro @goO_cons (And.intro @goG_none (And.intro @goG_some (And.intro @goGv_bool (And.intro @goGv_skip (And.intro @goGb_tt (And.intro @goGb_ff (And.intro @goGb_tf (And.intro @goGb_ft (And.intro @goIf_true (And.intro @goIf_false (And.intro @goIf_not (And.intro @cutNormal_normal (And.intro @cutNormal_ret (And.intro @cutNormal_exit (And.intro @goX_call (And.intro @goX_move (And.intro @goX_assign (And.intro @goX_pick (And.intro @goX_alloc (And.intro @goX_box (And.intro @goX_load (And.intro @goX_store (And.intro @goX_nilCheck (And.intro @goX_binOp (And.intro @goX_unOp (And.intro @goX_convert (And.intro @goX_fieldAddr (And.intro @goX_field (And.intro @goX_indexAddr (And.intro @goX_index (And.intro @goX_build (And.intro @goX_buildSlice (And.intro @goX_makeSlice (And.intro @goX_slice (And.intro @goX_extract (And.intro @goX_makeMap (And.intro @goX_lookup (And.intro @goX_mapUpdate (And.intro @goX_builtin (And.intro @un_nil (And.intro @un_exit_code (And.intro @un_exit_blk (And.intro @un_ret_code (And.intro @un_ret_blk (And.intro @un_normal (And.intro @partA_int (And.intro @partA_bool (And.intro @partA_str (And.intro @partA_sl (And.intro @partA_map (And.intro @partA_ptr (And.intro @partA_other (And.intro @partA_st (And.intro @partA_arr (And.intro @initS_frz (And.intro @obj_loc (And.intro @obj_loc0 (And.intro @setObj_loc (And.intro @setObj_loc0 (And.intro @envL_nil (And.intro @cellsOf_agg (And.intro @cellsOf_int (And.intro @cellsOf_bool (And.intro @cellsOf_str (And.intro @cellsOf_sl (And.intro @cellsOf_ms (And.intro @cellsOf_bptr (And.intro @cellsOf_mp (And.intro @cellsOf_nilp (And.intro @cellsOf_nilm (And.intro @cellsOf_fn (And.intro @solid_agg (And.intro @solid_int (And.intro @solid_bool (And.intro @solid_str (And.intro @solid_sl (And.intro @solid_ms (And.intro @solid_bptr (And.intro @solid_mp (And.intro @solid_nilp (And.intro @solid_fn (And.intro @one_int (And.intro @one_bool (And.intro @one_str (And.intro @one_sl (And.intro @one_ms (And.intro @one_bptr (And.intro @one_mp (And.intro @one_nilp (And.intro @one_fn (And.intro @Option.map_none.{0, 0} (And.intro @Option.map_some.{0, 0} (And.intro @Option.bind_some.{0, 0} (And.intro @true_and (And.intro @and_true (And.intro @List.getD_cons_zero.{0} (And.intro @List.getD_cons_succ.{0} (And.intro @Bool.false_eq_true (And.intro @List.length_nil.{0} (And.intro @List.length_cons.{0} (And.intro @Nat.add_zero (And.intro @List.nil_append.{0} (And.intro @List.cons_append.{0} (And.intro @List.getElem?_cons_zero.{0} (And.intro @List.getElem?_cons_succ.{0} (And.intro @Nat.zero_add (And.intro @Nat.lt_add_one (And.intro @Nat.zero_lt_succ (And.intro @List.map_nil.{0, 0} (And.intro @List.map_cons.{0, 0} (And.intro @List.getElem?_toArray.{0} (And.intro @List.all_cons.{0} (And.intro @List.all_nil.{0} (And.intro @Bool.and_self (And.intro @Bool.and_true (And.intro @Bool.true_and (And.intro @List.set_cons_zero.{0} (And.intro @List.set_cons_succ.{0} (And.intro @List.take_succ_cons.{0} (And.intro @List.take_zero.{0} (And.intro @List.drop_zero.{0} (And.intro @List.drop_succ_cons.{0} (And.intro @List.take_nil.{0} (And.intro @Nat.le_refl (And.intro @decide_true (And.intro @decide_false (And.intro @Bool.not_true (And.intro @Bool.not_false (And.intro @Nat.succ_ne_self (And.intro @lt_off (And.intro @nn (And.intro @Int.toNat_natCast (And.intro @false_implies (And.intro @Int.ofNat_lt (And.intro @List.length_map.{0, 0} (And.intro @app_cons (And.intro @app_nil (And.intro @toList_arr (And.intro @Nat.lt_irrefl (And.intro @beq_self_eq_true.{0} (And.intro @Bool.false_and (And.intro @Bool.and_false (And.intro @List.forall_mem_cons.{0} (And.intro @mem_nil_all (And.intro @Option.isSome_some.{0} (And.intro @List.replicate_zero.{0} (And.intro @List.not_mem_nil.{0} (And.intro @List.mem_cons.{0} (And.intro @or_false (And.intro @List.headD_cons.{0} (And.intro @goD_nil (And.intro @goD_cons (And.intro @goDG_none (And.intro @goDG_some (And.intro @goDGv_bool (And.intro @goDGv_skip (And.intro @goDGb_tt (And.intro @goDGb_ff (And.intro @goDGb_tf (And.intro @goDGb_ft (And.intro @nxt_pos (And.intro @goDX_call (And.intro @goDX_alloc (And.intro @goDX_box (And.intro @goDX_assign (And.intro @goDX_binOp (And.intro @goDX_build (And.intro @goDX_buildSlice (And.intro @goDX_builtin (And.intro @goDX_convert (And.intro @goDX_extract (And.intro @goDX_field (And.intro @goDX_fieldAddr (And.intro @goDX_index (And.intro @goDX_indexAddr (And.intro @goDX_load (And.intro @goDX_lookup (And.intro @goDX_makeMap (And.intro @goDX_makeSlice (And.intro @goDX_mapUpdate (And.intro @goDX_move (And.intro @goDX_nilCheck (And.intro @goDX_pick (And.intro @goDX_slice (And.intro @goDX_store (And.intro @goDX_unOp (And.intro @List.replicate_succ.{0} (And.intro @List.append_nil.{0} (And.intro @Nat.le_add_right (And.intro @aresL_nil (And.intro @aresL_tmp (And.intro @aresL_c (And.intro @tupOf_one (And.intro @tupOf_two (And.intro @tupOf_three (And.intro @tupOf_four (And.intro @frz_app (And.intro @frz_upd (And.intro @envL_frz (And.intro @AV.int.injEq (And.intro @AV.bool.injEq (And.intro @AV.tup.injEq (And.intro @AV.agg.injEq (And.intro @AV.sl.injEq (And.intro @List.cons.injEq.{0} (And.intro @maxLen_val (And.intro @bytesMax_val (@List.length_range)))))))))))))))))))))))))))))))))))))))))))))))))))))))))))))))))))))))))))))))))))))))))))))))))))))))))))))))))))))))))))))))))))))))))))))))))))))))))))))))))))))))))))))))))))))))))))))))))))))))))))))))))))))))))))
theorem W0 : type_of% W0d := W0d

def W3d := And.intro @wrap_1 (And.intro @wrap_2 (And.intro @wrap_3 (And.intro @Int.zero_add (And.intro @Int.natCast_zero (And.intro @Int.natCast_one (And.intro @Int.cast_ofNat_Int (And.intro @Int.toNat_zero (And.intro @Int.toNat_one (And.intro @Nat.lt_irrefl (And.intro @Int.lt_irrefl (And.intro @true_or (And.intro @or_true (And.intro @and_false (And.intro @false_and (@false_or)))))))))))))))
theorem W3 : type_of% W3d := W3d

end Go.Ab

