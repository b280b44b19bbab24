/- The executor, step by step, the rest of the text as data. No condition. -/
import Derived.Test.YtcpfjabjonpdaaaAbK
set_option linter.unusedSimpArgs false
namespace Go.Ab
open Go.RowKit (Below)

inductive KI where
  | code (c : Code)
  | blk (id : Nat)

/-- What is to come, behind an exit. -/
def Un (P : Program) (C : Cfg) (K : Exit → AState → Prop) : List KI → Exit → AState → Prop
  | [], e, s => K e s
  | .code c :: k, e, s => cutNormal (Un P C K k) (X P C c (Un P C K k)) e s
  | .blk id :: k, e, s => inBlk id (Un P C K k) e s

/-- What is to come. -/
def Go (P : Program) (C : Cfg) (K : Exit → AState → Prop) (k : List KI) (s : AState) : Prop := Un P C K k .normal s

def GoO (P : Program) (C : Cfg) (K : Exit → AState → Prop) (ops : Array Oper) (todo : List Oper) (k : List KI) (s : AState) : Prop := xops P C ops todo (Go P C K k) s

section
variable {P : Program} {C : Cfg} {K : Exit → AState → Prop} {k : List KI} {s : AState}

/-- A call, and what is to come behind it, as data. -/
def GoCall (P : Program) (C : Cfg) (K : Exit → AState → Prop) (f : Nat) (args : List AV) (dst : Option Tmp) (ops : Array Oper) (todo : List Oper) (k : List KI) (s : AState) : Prop :=
  CallK P f args s fun r s' => GoO P C K ops todo k (s'.put dst r)

def GoX (P : Program) (C : Cfg) (K : Exit → AState → Prop) (ops : Array Oper) (o : Oper) (todo : List Oper) (k : List KI) (s : AState) : Prop := xop P C o (GoO P C K ops todo k) s

def GoGb (P : Program) (C : Cfg) (K : Exit → AState → Prop) (b want : Bool) (ops : Array Oper) (o : Oper) (todo : List Oper) (k : List KI) (s : AState) : Prop :=
  if b = want then GoX P C K ops o todo k s else GoO P C K ops todo k (s.put o.dst (.tup []))

def GoG (P : Program) (C : Cfg) (K : Exit → AState → Prop) (g : Option (Option Tmp × Bool)) (ops : Array Oper) (o : Oper) (todo : List Oper) (k : List KI) (s : AState) : Prop :=
  match g with
  | none => GoX P C K ops o todo k s
  | some (some t, want) => match s.env t with
    | .bool b => GoGb P C K b want ops o todo k s
    | .tup [] => GoO P C K ops todo k (s.put o.dst (.tup []))
    | _ => False
  | some (none, _) => False

def GoIf (P : Program) (C : Cfg) (K : Exit → AState → Prop) (b : Bool) (x y : Code) (k : List KI) (s : AState) : Prop :=
  if b = true then Go P C K (.code x :: k) s else Go P C K (.code y :: k) s

theorem inBlk_un (id : Nat) : (inBlk id (Un P C K k)) = Un P C K (.blk id :: k) := rfl
theorem cut_un (c : Code) : (cutNormal (Un P C K k) (X P C c (Un P C K k))) = Un P C K (.code c :: k) := rfl

theorem X_go (c : Code) : X P C c K s = Go P C K [.code c] s := rfl
theorem go_nil : Go P C K [] s = K .normal s := rfl
theorem go_blk (id : Nat) : Go P C K (.blk id :: k) s = Go P C K k s := rfl
theorem go_skip : Go P C K (.code .skip :: k) s = Go P C K k s := rfl
theorem go_seq (x y : Code) : Go P C K (.code (.seq x y) :: k) s = Go P C K (.code x :: .code y :: k) s := rfl
theorem go_block (id : Nat) (b : Code) : Go P C K (.code (.block id b) :: k) s = Go P C K (.code b :: .blk id :: k) s := rfl
theorem go_cond (c : Operand) (x y : Code) : Go P C K (.code (.cond c x y) :: k) s = match s.ev c with
    | .bool t => GoIf P C K t x y k s
    | _ => False := rfl
theorem goIf_true (x y : Code) : GoIf P C K true x y k s = Go P C K (.code x :: k) s := rfl
theorem goIf_false (x y : Code) : GoIf P C K false x y k s = Go P C K (.code y :: k) s := rfl
theorem goIf_not (b : Bool) (x y : Code) : GoIf P C K (!b) x y k s = GoIf P C K b y x k s := by cases b <;> rfl
theorem goIf_split {b : Bool} {x y : Code} (h : b = true → Go P C K (.code x :: k) s) (h' : b = false → Go P C K (.code y :: k) s) : GoIf P C K b x y k s := by
  cases b
  · exact h' rfl
  · exact h rfl
theorem go_exit (id : Nat) : Go P C K (.code (.exit id) :: k) s = Un P C K k (.exit id) s := rfl
theorem go_ret : Go P C K (.code .ret :: k) s = Un P C K k .ret s := rfl
theorem go_region (id : Nat) (ops : Array Oper) : Go P C K (.code (.region id ops false) :: k) s = GoO P C K ops ops.toList k s := rfl
theorem go_loop (b : Code) : Go P C K (.code (.loop b) :: k) s = ALoop P b (Un P C K k) s := rfl
theorem goO_nil (ops : Array Oper) : GoO P C K ops [] k s = Go P C K k s := rfl
theorem goO_cons (ops : Array Oper) (o : Oper) (r : List Oper) : GoO P C K ops (o :: r) k s = GoG P C K (guardOf ops o) ops o r k s := rfl
theorem goG_none (ops : Array Oper) (o : Oper) (r : List Oper) : GoG P C K none ops o r k s = GoX P C K ops o r k s := rfl
theorem goG_some (t : Nat) (want : Bool) (ops : Array Oper) (o : Oper) (r : List Oper) : GoG P C K (some (some t, want)) ops o r k s = match s.env t with
    | .bool b => GoGb P C K b want ops o r k s
    | .tup [] => GoO P C K ops r k (s.put o.dst (.tup []))
    | _ => False := rfl
theorem goGb_tt (ops : Array Oper) (o : Oper) (r : List Oper) : GoGb P C K true true ops o r k s = GoX P C K ops o r k s := rfl
theorem goGb_ff (ops : Array Oper) (o : Oper) (r : List Oper) : GoGb P C K false false ops o r k s = GoX P C K ops o r k s := rfl
theorem goGb_tf (ops : Array Oper) (o : Oper) (r : List Oper) : GoGb P C K true false ops o r k s = GoO P C K ops r k (s.put o.dst (.tup [])) := rfl
theorem goGb_ft (ops : Array Oper) (o : Oper) (r : List Oper) : GoGb P C K false true ops o r k s = GoO P C K ops r k (s.put o.dst (.tup [])) := rfl
theorem goGb_split {b want : Bool} {ops : Array Oper} {o : Oper} {r : List Oper} (h : b = true → GoGb P C K true want ops o r k s) (h' : b = false → GoGb P C K false want ops o r k s) : GoGb P C K b want ops o r k s := by
  cases b
  · exact h' rfl
  · exact h rfl
theorem goX_call (ops : Array Oper) (d : Option Tmp) (f : Operand) (args : Array Operand) (ts : Array Nat) (ty : Nat) (pos : String) (af : Array Edge) (g : Option (Nat × Bool)) (r : List Oper) :
    GoX P C K ops ⟨d, .call ⟨.value f, args, ts⟩, ty, pos, af, g⟩ r k s = match s.ev f with
      | .fn i => GoCall P C K i (args.toList.map s.ev) d ops r k s
      | _ => False := rfl
theorem goX_move (ops : Array Oper) (d : Option Tmp) (x : Operand) (ty : Nat) (pos : String) (af : Array Edge) (g : Option (Nat × Bool)) (r : List Oper) : GoX P C K ops ⟨d, .move x, ty, pos, af, g⟩ r k s = match eff C ⟨d, .move x, ty, pos, af, g⟩ s with
    | some ⟨c, v, s'⟩ => c ∧ GoO P C K ops r k (s'.put d v)
    | none => False := rfl
theorem goX_assign (ops : Array Oper) (d : Option Tmp) (x : Operand) (ty : Nat) (pos : String) (af : Array Edge) (g : Option (Nat × Bool)) (r : List Oper) : GoX P C K ops ⟨d, .assign x, ty, pos, af, g⟩ r k s = match eff C ⟨d, .assign x, ty, pos, af, g⟩ s with
    | some ⟨c, v, s'⟩ => c ∧ GoO P C K ops r k (s'.put d v)
    | none => False := rfl
theorem goX_pick (ops : Array Oper) (d : Option Tmp) (x y z : Operand) (ty : Nat) (pos : String) (af : Array Edge) (g : Option (Nat × Bool)) (r : List Oper) : GoX P C K ops ⟨d, .pick x y z, ty, pos, af, g⟩ r k s = match eff C ⟨d, .pick x y z, ty, pos, af, g⟩ s with
    | some ⟨c, v, s'⟩ => c ∧ GoO P C K ops r k (s'.put d v)
    | none => False := rfl
theorem goX_alloc (ops : Array Oper) (d : Option Tmp) (t : Nat) (ty : Nat) (pos : String) (af : Array Edge) (g : Option (Nat × Bool)) (r : List Oper) : GoX P C K ops ⟨d, .alloc t, ty, pos, af, g⟩ r k s = match eff C ⟨d, .alloc t, ty, pos, af, g⟩ s with
    | some ⟨c, v, s'⟩ => c ∧ GoO P C K ops r k (s'.put d v)
    | none => False := rfl
theorem goX_box (ops : Array Oper) (d : Option Tmp) (t : Nat) (x : Operand) (ty : Nat) (pos : String) (af : Array Edge) (g : Option (Nat × Bool)) (r : List Oper) : GoX P C K ops ⟨d, .box t x, ty, pos, af, g⟩ r k s = match eff C ⟨d, .box t x, ty, pos, af, g⟩ s with
    | some ⟨c, v, s'⟩ => c ∧ GoO P C K ops r k (s'.put d v)
    | none => False := rfl
theorem goX_load (ops : Array Oper) (d : Option Tmp) (t : Nat) (x : Operand) (ty : Nat) (pos : String) (af : Array Edge) (g : Option (Nat × Bool)) (r : List Oper) : GoX P C K ops ⟨d, .load t x, ty, pos, af, g⟩ r k s = match eff C ⟨d, .load t x, ty, pos, af, g⟩ s with
    | some ⟨c, v, s'⟩ => c ∧ GoO P C K ops r k (s'.put d v)
    | none => False := rfl
theorem goX_store (ops : Array Oper) (d : Option Tmp) (t : Nat) (x y : Operand) (ty : Nat) (pos : String) (af : Array Edge) (g : Option (Nat × Bool)) (r : List Oper) : GoX P C K ops ⟨d, .store t x y, ty, pos, af, g⟩ r k s = match eff C ⟨d, .store t x y, ty, pos, af, g⟩ s with
    | some ⟨c, v, s'⟩ => c ∧ GoO P C K ops r k (s'.put d v)
    | none => False := rfl
theorem goX_nilCheck (ops : Array Oper) (d : Option Tmp) (x : Operand) (ty : Nat) (pos : String) (af : Array Edge) (g : Option (Nat × Bool)) (r : List Oper) : GoX P C K ops ⟨d, .nilCheck x, ty, pos, af, g⟩ r k s = match eff C ⟨d, .nilCheck x, ty, pos, af, g⟩ s with
    | some ⟨c, v, s'⟩ => c ∧ GoO P C K ops r k (s'.put d v)
    | none => False := rfl
theorem goX_binOp (ops : Array Oper) (d : Option Tmp) (op : BinOp) (t u : Nat) (x y : Operand) (ty : Nat) (pos : String) (af : Array Edge) (g : Option (Nat × Bool)) (r : List Oper) : GoX P C K ops ⟨d, .binOp op t x y u, ty, pos, af, g⟩ r k s = match eff C ⟨d, .binOp op t x y u, ty, pos, af, g⟩ s with
    | some ⟨c, v, s'⟩ => c ∧ GoO P C K ops r k (s'.put d v)
    | none => False := rfl
theorem goX_unOp (ops : Array Oper) (d : Option Tmp) (op : UnOp) (t : Nat) (x : Operand) (ty : Nat) (pos : String) (af : Array Edge) (g : Option (Nat × Bool)) (r : List Oper) : GoX P C K ops ⟨d, .unOp op t x, ty, pos, af, g⟩ r k s = match eff C ⟨d, .unOp op t x, ty, pos, af, g⟩ s with
    | some ⟨c, v, s'⟩ => c ∧ GoO P C K ops r k (s'.put d v)
    | none => False := rfl
theorem goX_convert (ops : Array Oper) (d : Option Tmp) (t u : Nat) (x : Operand) (ty : Nat) (pos : String) (af : Array Edge) (g : Option (Nat × Bool)) (r : List Oper) : GoX P C K ops ⟨d, .convert t u x, ty, pos, af, g⟩ r k s = match eff C ⟨d, .convert t u x, ty, pos, af, g⟩ s with
    | some ⟨c, v, s'⟩ => c ∧ GoO P C K ops r k (s'.put d v)
    | none => False := rfl
theorem goX_fieldAddr (ops : Array Oper) (d : Option Tmp) (t f : Nat) (x : Operand) (ty : Nat) (pos : String) (af : Array Edge) (g : Option (Nat × Bool)) (r : List Oper) : GoX P C K ops ⟨d, .fieldAddr t x f, ty, pos, af, g⟩ r k s = match eff C ⟨d, .fieldAddr t x f, ty, pos, af, g⟩ s with
    | some ⟨c, v, s'⟩ => c ∧ GoO P C K ops r k (s'.put d v)
    | none => False := rfl
theorem goX_field (ops : Array Oper) (d : Option Tmp) (t f : Nat) (x : Operand) (ty : Nat) (pos : String) (af : Array Edge) (g : Option (Nat × Bool)) (r : List Oper) : GoX P C K ops ⟨d, .field t x f, ty, pos, af, g⟩ r k s = match eff C ⟨d, .field t x f, ty, pos, af, g⟩ s with
    | some ⟨c, v, s'⟩ => c ∧ GoO P C K ops r k (s'.put d v)
    | none => False := rfl
theorem goX_indexAddr (ops : Array Oper) (d : Option Tmp) (t : Nat) (x y : Operand) (ty : Nat) (pos : String) (af : Array Edge) (g : Option (Nat × Bool)) (r : List Oper) : GoX P C K ops ⟨d, .indexAddr t x y, ty, pos, af, g⟩ r k s = match eff C ⟨d, .indexAddr t x y, ty, pos, af, g⟩ s with
    | some ⟨c, v, s'⟩ => c ∧ GoO P C K ops r k (s'.put d v)
    | none => False := rfl
theorem goX_index (ops : Array Oper) (d : Option Tmp) (t : Nat) (x y : Operand) (ty : Nat) (pos : String) (af : Array Edge) (g : Option (Nat × Bool)) (r : List Oper) : GoX P C K ops ⟨d, .index t x y, ty, pos, af, g⟩ r k s = match eff C ⟨d, .index t x y, ty, pos, af, g⟩ s with
    | some ⟨c, v, s'⟩ => c ∧ GoO P C K ops r k (s'.put d v)
    | none => False := rfl
theorem goX_build (ops : Array Oper) (d : Option Tmp) (t : Nat) (ps : Array (Nat × Operand)) (ty : Nat) (pos : String) (af : Array Edge) (g : Option (Nat × Bool)) (r : List Oper) : GoX P C K ops ⟨d, .build t ps, ty, pos, af, g⟩ r k s = match eff C ⟨d, .build t ps, ty, pos, af, g⟩ s with
    | some ⟨c, v, s'⟩ => c ∧ GoO P C K ops r k (s'.put d v)
    | none => False := rfl
theorem goX_buildSlice (ops : Array Oper) (d : Option Tmp) (t n : Nat) (ps : Array (Nat × Operand)) (ty : Nat) (pos : String) (af : Array Edge) (g : Option (Nat × Bool)) (r : List Oper) : GoX P C K ops ⟨d, .buildSlice t n ps, ty, pos, af, g⟩ r k s = match eff C ⟨d, .buildSlice t n ps, ty, pos, af, g⟩ s with
    | some ⟨c, v, s'⟩ => c ∧ GoO P C K ops r k (s'.put d v)
    | none => False := rfl
theorem goX_makeSlice (ops : Array Oper) (d : Option Tmp) (t : Nat) (x y : Operand) (ty : Nat) (pos : String) (af : Array Edge) (g : Option (Nat × Bool)) (r : List Oper) : GoX P C K ops ⟨d, .makeSlice t x y, ty, pos, af, g⟩ r k s = match eff C ⟨d, .makeSlice t x y, ty, pos, af, g⟩ s with
    | some ⟨c, v, s'⟩ => c ∧ GoO P C K ops r k (s'.put d v)
    | none => False := rfl
theorem goX_slice (ops : Array Oper) (d : Option Tmp) (t : Nat) (x : Operand) (lo hi mx : Option Operand) (ty : Nat) (pos : String) (af : Array Edge) (g : Option (Nat × Bool)) (r : List Oper) : GoX P C K ops ⟨d, .slice t x lo hi mx, ty, pos, af, g⟩ r k s = match eff C ⟨d, .slice t x lo hi mx, ty, pos, af, g⟩ s with
    | some ⟨c, v, s'⟩ => c ∧ GoO P C K ops r k (s'.put d v)
    | none => False := rfl
theorem goX_extract (ops : Array Oper) (d : Option Tmp) (x : Operand) (i : Nat) (ty : Nat) (pos : String) (af : Array Edge) (g : Option (Nat × Bool)) (r : List Oper) : GoX P C K ops ⟨d, .extract x i, ty, pos, af, g⟩ r k s = match eff C ⟨d, .extract x i, ty, pos, af, g⟩ s with
    | some ⟨c, v, s'⟩ => c ∧ GoO P C K ops r k (s'.put d v)
    | none => False := rfl
theorem goX_makeMap (ops : Array Oper) (d : Option Tmp) (t : Nat) (q : Option Operand) (ty : Nat) (pos : String) (af : Array Edge) (g : Option (Nat × Bool)) (r : List Oper) : GoX P C K ops ⟨d, .makeMap t q, ty, pos, af, g⟩ r k s = match eff C ⟨d, .makeMap t q, ty, pos, af, g⟩ s with
    | some ⟨c, v, s'⟩ => c ∧ GoO P C K ops r k (s'.put d v)
    | none => False := rfl
theorem goX_lookup (ops : Array Oper) (d : Option Tmp) (t : Nat) (x y : Operand) (b : Bool) (ty : Nat) (pos : String) (af : Array Edge) (g : Option (Nat × Bool)) (r : List Oper) : GoX P C K ops ⟨d, .lookup t x y b, ty, pos, af, g⟩ r k s = match eff C ⟨d, .lookup t x y b, ty, pos, af, g⟩ s with
    | some ⟨c, v, s'⟩ => c ∧ GoO P C K ops r k (s'.put d v)
    | none => False := rfl
theorem goX_mapUpdate (ops : Array Oper) (d : Option Tmp) (t : Nat) (x y z : Operand) (ty : Nat) (pos : String) (af : Array Edge) (g : Option (Nat × Bool)) (r : List Oper) : GoX P C K ops ⟨d, .mapUpdate t x y z, ty, pos, af, g⟩ r k s = match eff C ⟨d, .mapUpdate t x y z, ty, pos, af, g⟩ s with
    | some ⟨c, v, s'⟩ => c ∧ GoO P C K ops r k (s'.put d v)
    | none => False := rfl
theorem goX_builtin (ops : Array Oper) (d : Option Tmp) (b : Builtin) (args : Array Operand) (ts : Array Nat) (ty : Nat) (pos : String) (af : Array Edge) (g : Option (Nat × Bool)) (r : List Oper) : GoX P C K ops ⟨d, .call ⟨.builtin b, args, ts⟩, ty, pos, af, g⟩ r k s = match eff C ⟨d, .call ⟨.builtin b, args, ts⟩, ty, pos, af, g⟩ s with
    | some ⟨c, v, s'⟩ => c ∧ GoO P C K ops r k (s'.put d v)
    | none => False := rfl
/-- A loop, and what is to come behind it, by an invariant with a measure. -/
theorem goLoop {ι : Type} (S : ι → AState) (I : ι → Prop) (μ : ι → Nat) {b : Code} (hC : CfgOK P C) (x : ι) (hx : I x) (hs : Weak s (S x)) (hok : codeOK s.n b = true)
    (h : ∀ x, I x → Go P C (cutNormal (Un P C K k) fun s' => ∃ y, I y ∧ μ y < μ x ∧ Weak s' (S y)) [.code b] (S x)) : ALoop P b (Un P C K k) s :=
  aloop_inv S I μ hC callK_fn x hx hs hok h
theorem cutNormal_normal (next : AState → Prop) : cutNormal K next .normal s = next s := rfl
theorem cutNormal_ret (next : AState → Prop) : cutNormal K next .ret s = K .ret s := rfl
theorem cutNormal_exit (next : AState → Prop) (i : Nat) : cutNormal K next (.exit i) s = K (.exit i) s := rfl

/-- A pure call. -/
theorem goCall_p {f : Nat} {args args' : List AV} {dst : Option Tmp} {ops : Array Oper} {todo : List Oper} {r : AV} (h : PCalls P f args' r) (ha : args' = args ∨ args' = AV.normL args) (hK : GoO P C K ops todo k (s.put dst r)) :
    GoCall P C K f args dst ops todo k s := callK_p h ha hK
theorem un_nil (e : Exit) : Un P C K [] e s = K e s := rfl
theorem un_exit_code (id : Nat) (c : Code) : Un P C K (.code c :: k) (.exit id) s = Un P C K k (.exit id) s := rfl
theorem un_exit_blk (id i : Nat) : Un P C K (.blk i :: k) (.exit id) s = if id = i then Go P C K k s else Un P C K k (.exit id) s := rfl
theorem un_ret_code (c : Code) : Un P C K (.code c :: k) .ret s = Un P C K k .ret s := rfl
theorem un_ret_blk (i : Nat) : Un P C K (.blk i :: k) .ret s = Un P C K k .ret s := rfl
theorem un_normal : Un P C K k .normal s = Go P C K k s := rfl

theorem xops_mono {P : Program} {C : Cfg} {ops : Array Oper} : ∀ (l : List Oper) {K K' : AState → Prop} {s : AState}, (∀ s', K s' → K' s') → xops P C ops l K s → xops P C ops l K' s
  | [], K, K', s, hk, h => hk s h
  | o :: l, K, K', s, hk, h => by
    have hop : ∀ {s : AState}, xop P C o (xops P C ops l K) s → xop P C o (xops P C ops l K') s := by
      intro s h
      unfold xop at h ⊢
      split at h
      · split at h
        case h_2 => cases h
        exact ⟨h.1, fun V w vs h1 h2 h3 h4 h5 => (h.2 V w vs h1 h2 h3 h4 h5).mono fun _ _ ⟨V', v, r, s', g1, g2, g3, g4, g5, g6, g7, g8, g9, g10, g11⟩ =>
          ⟨V', v, r, s', g1, g2, g3, g4, g5, g6, g7, g8, g9, g10, xops_mono l hk g11⟩⟩
      · split at h
        case h_2 => cases h
        exact ⟨h.1, xops_mono l hk h.2⟩
    simp only [xops] at h ⊢
    unfold xguard at h ⊢
    split at h
    · exact hop h
    · split at h
      case h_3 => cases h
      · split at h
        · rename_i hb; rw [if_pos hb]; exact hop h
        · rename_i hb; rw [if_neg hb]; exact xops_mono l hk h
      · exact xops_mono l hk h
    · cases h

theorem X_mono {P : Program} {C : Cfg} : ∀ (c : Code) {K K' : Exit → AState → Prop} {s : AState}, (∀ e s', K e s' → K' e s') → X P C c K s → X P C c K' s
  | .skip, K, K', s, hk, h => hk _ _ h
  | .region _ ops false, K, K', s, hk, h => xops_mono _ (hk .normal) h
  | .region _ ops true, K, K', s, hk, h => by simp only [X] at h ⊢; exact h.mono fun e s' _ _ hq => hk _ _ hq
  | .seq x y, K, K', s, hk, h => X_mono x (fun e s' hq => by
      cases e with
      | normal => exact X_mono y hk hq
      | _ => exact hk _ _ hq) h
  | .cond c x y, K, K', s, hk, h => by
    simp only [X] at h ⊢
    split at h
    · split at h
      · rename_i ht; rw [if_pos ht]; exact X_mono x hk h
      · rename_i ht; rw [if_neg ht]; exact X_mono y hk h
    · cases h
  | .block id b, K, K', s, hk, h => X_mono b (fun e s' hq => by
      cases e with
      | exit i =>
        simp only [inBlk] at hq ⊢
        split
        · rename_i hi; rw [if_pos hi] at hq; exact hk _ _ hq
        · rename_i hi; rw [if_neg hi] at hq; exact hk _ _ hq
      | _ => exact hk _ _ hq) h
  | .loop b, K, K', s, hk, h => fun V a w hr bf k cs =>
    let ⟨e, a', w', ⟨V', s', g1, g2, g3, g4, g5, g6⟩, harr⟩ := h V a w hr bf k cs
    ⟨e, a', w', ⟨V', s', g1, g2, g3, g4, g5, hk _ _ g6⟩, harr⟩
  | .exit _, K, K', s, hk, h => hk _ _ h
  | .ret, K, K', s, hk, h => hk _ _ h
  | .rangeFunc _ _ _ _, K, K', s, hk, h => by simp only [X] at h ⊢; exact h.mono fun e s' _ _ hq => hk _ _ hq
  | .scope _, K, K', s, hk, h => by simp only [X] at h ⊢; exact h.mono fun e s' _ _ hq => hk _ _ hq
  | .label _, K, K', s, hk, h => by simp only [X] at h ⊢; exact h.mono fun e s' _ _ hq => hk _ _ hq
  | .goto _, K, K', s, hk, h => by simp only [X] at h ⊢; exact h.mono fun e s' _ _ hq => hk _ _ hq
  | .refuse _, K, K', s, hk, h => by simp only [X] at h ⊢; exact h.mono fun e s' _ _ hq => hk _ _ hq

theorem callK_congr {P : Program} {f f' : Nat} {args args' : List AV} {s s' : AState} {K : AV → AState → Prop} (h0 : f = f') (h1 : args = args') (h2 : s = s') : CallK P f args s K = CallK P f' args' s' K := by rw [h0, h1, h2]
theorem aloop_congr {P : Program} {b : Code} {K : Exit → AState → Prop} {s s' : AState} (h2 : s = s') : ALoop P b K s = ALoop P b K s' := by rw [h2]
attribute [congr] callK_congr aloop_congr

theorem cellsOf_agg (cs : List AV) : cellsOf (.agg cs) = cs := rfl
theorem cellsOf_int (k : IntKind) (n : Int) : cellsOf (.int k n) = [.int k n] := rfl
theorem cellsOf_bool (b : Bool) : cellsOf (.bool b) = [.bool b] := rfl
theorem cellsOf_str (b : ByteArray) : cellsOf (.str b) = [.str b] := rfl
theorem cellsOf_sl (es : List AV) (t : Tk) : cellsOf (.sl es t) = [.sl es t] := rfl
theorem cellsOf_ms (r v l : Nat) : cellsOf (.ms r v l) = [.ms r v l] := rfl
theorem cellsOf_bptr (r o : Nat) : cellsOf (.bptr r o) = [.bptr r o] := rfl
theorem cellsOf_mp (r : Nat) : cellsOf (.mp r) = [.mp r] := rfl
theorem cellsOf_nilp : cellsOf .nilp = [.nilp] := rfl
theorem cellsOf_nilm : cellsOf .nilm = [.nilm] := rfl
theorem cellsOf_fn (f : Nat) : cellsOf (.fn f) = [.fn f] := rfl
theorem solid_agg (cs : List AV) : (AV.agg cs).solid = cs.all AV.one := rfl
theorem solid_int (k : IntKind) (n : Int) : (AV.int k n).solid = true := rfl
theorem solid_bool (b : Bool) : (AV.bool b).solid = true := rfl
theorem solid_str (b : ByteArray) : (AV.str b).solid = true := rfl
theorem solid_sl (es : List AV) (t : Tk) : (AV.sl es t).solid = true := rfl
theorem solid_ms (r v l : Nat) : (AV.ms r v l).solid = true := rfl
theorem solid_bptr (r o : Nat) : (AV.bptr r o).solid = true := rfl
theorem solid_mp (r : Nat) : (AV.mp r).solid = true := rfl
theorem solid_nilp : AV.nilp.solid = true := rfl
theorem solid_fn (f : Nat) : (AV.fn f).solid = true := rfl
theorem one_int (k : IntKind) (n : Int) : (AV.int k n).one = true := rfl
theorem one_bool (b : Bool) : (AV.bool b).one = true := rfl
theorem one_str (b : ByteArray) : (AV.str b).one = true := rfl
theorem one_sl (es : List AV) (t : Tk) : (AV.sl es t).one = true := rfl
theorem one_ms (r v l : Nat) : (AV.ms r v l).one = true := rfl
theorem one_bptr (r o : Nat) : (AV.bptr r o).one = true := rfl
theorem one_mp (r : Nat) : (AV.mp r).one = true := rfl
theorem one_nilp : AV.nilp.one = true := rfl
theorem one_fn (f : Nat) : (AV.fn f).one = true := rfl
theorem partA_int (z b : Nat) (zr : AV) (cs : List AV) (off : Nat) (k : IntKind) : partA ⟨.int k, z, b, zr⟩ cs off = (off < cs.length, cs.getD off .any) := rfl
theorem partA_bool (z b : Nat) (zr : AV) (cs : List AV) (off : Nat)  : partA ⟨.bool, z, b, zr⟩ cs off = (off < cs.length, cs.getD off .any) := rfl
theorem partA_str (z b : Nat) (zr : AV) (cs : List AV) (off : Nat)  : partA ⟨.str, z, b, zr⟩ cs off = (off < cs.length, cs.getD off .any) := rfl
theorem partA_sl (z b : Nat) (zr : AV) (cs : List AV) (off : Nat) (e : Nat) : partA ⟨.sl e, z, b, zr⟩ cs off = (off < cs.length, cs.getD off .any) := rfl
theorem partA_map (z b : Nat) (zr : AV) (cs : List AV) (off : Nat) (x y : Nat) : partA ⟨.map x y, z, b, zr⟩ cs off = (off < cs.length, cs.getD off .any) := rfl
theorem partA_ptr (z b : Nat) (zr : AV) (cs : List AV) (off : Nat)  : partA ⟨.ptr, z, b, zr⟩ cs off = (off < cs.length, cs.getD off .any) := rfl
theorem partA_other (z b : Nat) (zr : AV) (cs : List AV) (off : Nat)  : partA ⟨.other, z, b, zr⟩ cs off = (off < cs.length, cs.getD off .any) := rfl
theorem partA_st (z b : Nat) (zr : AV) (cs : List AV) (off : Nat) (fs : List (Nat × Nat)) : partA ⟨.st fs, z, b, zr⟩ cs off = (off + z ≤ cs.length, .agg ((cs.drop off).take z)) := rfl
theorem partA_arr (z b : Nat) (zr : AV) (cs : List AV) (off : Nat) (n e : Nat) : partA ⟨.arr n e, z, b, zr⟩ cs off = (off + z ≤ cs.length, .agg ((cs.drop off).take z)) := rfl
theorem isAgg_st (fs : List (Nat × Nat)) : (TD.st fs).isAgg = true := rfl
theorem isAgg_arr (n e : Nat) : (TD.arr n e).isAgg = true := rfl
theorem isAgg_int (k : IntKind) : (TD.int k).isAgg = false := rfl
theorem isAgg_sl (e : Nat) : (TD.sl e).isAgg = false := rfl
theorem isAgg_bool : TD.bool.isAgg = false := rfl
theorem isAgg_str : TD.str.isAgg = false := rfl
theorem isAgg_map (k v : Nat) : (TD.map k v).isAgg = false := rfl
theorem isAgg_ptr : TD.ptr.isAgg = false := rfl
theorem isAgg_other : TD.other.isAgg = false := rfl

mutual
/-- What every value of the model has: its integers are in range, its slices not too long. -/
def AV.okay : AV → Prop
  | .int k n => k.min ≤ n ∧ n ≤ k.max
  | .str s => s.size ≤ maxLen
  | .agg cs => AV.okayL cs
  | .tup cs => AV.okayL cs
  | .sl es _ => es.length ≤ maxLen ∧ AV.okayL es
  | .eptr e _ => AV.okayL e
  | _ => True
def AV.okayL : List AV → Prop
  | [] => True
  | a :: as => AV.okay a ∧ AV.okayL as
end

theorem okayL_iff : ∀ l : List AV, AV.okayL l ↔ ∀ x ∈ l, x.okay
  | [] => by simp [AV.okayL]
  | a :: as => by simp [AV.okayL, okayL_iff as]

theorem okayL_of_get {l : List AV} (h : ∀ i, i < l.length → (l.getD i .any).okay) : AV.okayL l := by
  rw [okayL_iff]; intro x hx
  obtain ⟨i, hi, rfl⟩ := List.mem_iff_getElem.1 hx
  have := h i hi
  rwa [getD_lt _ hi] at this

theorem Rep.okay {V : View} {v : Value} {a : AV} (h : Rep V v a) : a.okay := by
  induction h with
  | int k n h1 h2 => exact ⟨h1, h2⟩
  | str s h => exact h
  | agg cs as hl _ ih => exact okayL_of_get fun i hi => ih i hi
  | tup cs as hl _ ih => exact okayL_of_get fun i hi => ih i hi
  | sl bse len cap es tok size b o val hl hc hm hb' hs hi _ ht hf ih =>
    refine ⟨by omega, okayL_of_get fun i hi' => ?_⟩
    have h1 := hs i (by omega)
    have h2 := fun j hj => ih i j (by omega) hj
    generalize es.getD i .any = x at h1 h2
    cases x with
    | agg cs =>
      simp only [cellsOf] at h1 h2
      exact okayL_of_get fun j hj => h2 j (by omega)
    | _ =>
      simp only [cellsOf, List.length_cons, List.length_nil, Nat.zero_add] at h1 h2
      have := h2 0 (by omega)
      simpa using this
  | eptr e off b o val hi _ ih => exact okayL_of_get fun j hj => ih j hj
  | _ => trivial

theorem acalls_okay {P : Program} {f : Nat} {args : List AV} {H : List AObj} {R : AV → List AObj → Prop} (hf : FnOK P f) (h : AV.okayL args → ACalls P f args H R) : ACalls P f args H R :=
  ⟨hf, fun V w vs h1 h2 h3 h4 => (h (okayL_of_get fun i hi => (h4 i hi).okay)).2 V w vs h1 h2 h3 h4⟩

/-- What a pure call hands back. -/
def retP (C : Cfg) (rs : List ResultVar) (r : AV) (H : List AObj) (e : Exit) (s : AState) : Prop :=
  (match e with | .normal | .ret => True | _ => False) ∧
  match aresL C s rs with
  | some (c, vs) => c ∧ (tupOf vs).norm = r ∧ s.H = H
  | none => False

theorem pcalls_text {P : Program} {C : Cfg} (hC : CfgOK P C) {f : Nat} {fn : Func} {c : Code} {args : List AV} {r : AV} (hf : P.funcs[f]? = some fn) (hb : fn.body = some c) (hname : (fn.name == "runtime.NumGoroutine") = false)
    (hn : args.length ≤ fn.ntmps) (hok : codeOK fn.ntmps c = true) (hr : r.bel 0 = true) (h : AV.okayL args → ∀ H, Go P C (retP C fn.results.toList r H) [.code c] (initS args H fn.ntmps)) : PCalls P f args r := by
  refine pcalls hr fun H => acalls_okay ⟨fn, hf, by simp [hb], hname⟩ fun hok' => acalls hC hf hb hname hn hok ?_
  have h1 := h hok' H
  exact X_mono c (fun e s' h2 => by
    obtain ⟨h3, h4⟩ := h2
    refine ⟨h3, ?_⟩
    split at h4
    · rename_i c vs hares
      rw [hares]
      exact ⟨h4.1, .inl ⟨by rw [h4.2.1]; exact bel_mono (Nat.zero_le _) r hr, h4.2.1, h4.2.2⟩⟩
    · exact h4.elim) h1

theorem aresL_nil {C : Cfg} {s : AState} : aresL C s [] = some (True, []) := rfl
theorem aresL_tmp {C : Cfg} {s : AState} (t : Nat) (rs : List ResultVar) : aresL C s (.tmp t :: rs) = match aresL C s rs with
    | some (c', vs) => some (True ∧ c', s.env t :: vs)
    | none => none := by
  simp only [aresL, ares1]
  cases aresL C s rs <;> rfl
theorem aresL_cell {C : Cfg} {s : AState} (x t : Nat) (rs : List ResultVar) {l : TL} {cs : List AV} {off : Nat} {c : Prop} (h1 : C.ty t = some l) (h2 : cellsAt s (s.env x) = some (cs, off, c)) : aresL C s (.cell x t :: rs) = match aresL C s rs with
    | some (c', vs) => some ((c ∧ (partA l cs off).1) ∧ c', (partA l cs off).2 :: vs)
    | none => none := by
  simp only [aresL, ares1, h1, h2]
  cases aresL C s rs <;> rfl
theorem tupOf_one (v : AV) : tupOf [v] = v := rfl
theorem tupOf_two (v u : AV) : tupOf [v, u] = .tup [v, u] := rfl
theorem tupOf_three (v u x : AV) : tupOf [v, u, x] = .tup [v, u, x] := rfl
theorem tupOf_four (v u x y : AV) : tupOf [v, u, x, y] = .tup [v, u, x, y] := rfl

/-- Slots by a list. -/
def envL : List (Nat × AV) → Nat → AV
  | [], _ => .any
  | (k, v) :: r, t => if t = k then v else envL r t

theorem envL_cons (k : Nat) (v : AV) (r : List (Nat × AV)) (t : Nat) : envL ((k, v) :: r) t = if t = k then v else envL r t := rfl
theorem envL_nil (t : Nat) : envL [] t = .any := rfl

theorem weak_of {s : AState} {l : List (Nat × AV)} {L' : List AObj} {b n : Nat} {H : List AObj} (hb : b = s.b) (hn : n = s.n) (hH : H = s.H) (hL : L' = s.L) (h : ∀ p ∈ l, s.env p.1 = p.2 ∨ (s.env p.1).norm = p.2) : Weak s ⟨envL l, b, H, L', n⟩ := by
  subst hb; subst hn; subst hH; subst hL
  refine ⟨rfl, rfl, rfl, by simp, fun t => ?_, .inl rfl⟩
  simp only
  induction l with
  | nil => exact .inl rfl
  | cons p l ih =>
    simp only [List.forall_mem_cons] at h
    obtain ⟨k, v⟩ := p
    rw [envL_cons]
    split
    · rename_i ht; subst ht
      rcases h.1 with e | e
      · exact .inr (.inl e.symm)
      · exact .inr (.inr e.symm)
    · exact ih h.2

/-- The same, and the last of the locals are forgotten. -/
theorem weak_drop {s : AState} {l : List (Nat × AV)} {L' : List AObj} {b n : Nat} {H : List AObj} (hb : b = s.b) (hn : n = s.n) (hH : H = s.H) (hL : s.L.take L'.length = L') (h : ∀ p ∈ l, s.env p.1 = p.2 ∨ (s.env p.1).norm = p.2)
    (h1 : ∀ p ∈ l, p.2.bel (b + L'.length) = true) (h2 : ∀ x ∈ L', x.bel (b + L'.length) = true) : Weak s ⟨envL l, b, H, L', n⟩ := by
  subst hb; subst hn; subst hH
  refine ⟨rfl, rfl, rfl, hL.symm, fun t => ?_, .inr ⟨fun t => ?_, h2⟩⟩
  · simp only
    clear h1
    induction l with
    | nil => exact .inl rfl
    | cons p l ih =>
      simp only [List.forall_mem_cons] at h
      obtain ⟨k, v⟩ := p
      rw [envL_cons]
      split
      · rename_i ht; subst ht
        rcases h.1 with e | e
        · exact .inr (.inl e.symm)
        · exact .inr (.inr e.symm)
      · exact ih h.2
  · simp only
    clear h
    induction l with
    | nil => rfl
    | cons p l ih =>
      simp only [List.forall_mem_cons] at h1
      obtain ⟨k, v⟩ := p
      rw [envL_cons]
      split
      · exact h1.1
      · exact ih h1.2

theorem dec_t {p : Prop} {i : Decidable p} : (@decide p i = true) = p := by simp
theorem dec_f {p : Prop} {i : Decidable p} : (@decide p i = false) = ¬ p := by simp

theorem lt_off (a k : Nat) : (a + k < a) = False := by simp
theorem nn (n : Nat) : (0 ≤ (n : Int)) = True := by simp

theorem wrap_succ {i m : Nat} (h : i < m) (hm : m ≤ maxLen) : IntKind.wrap .i64 ((i : Int) + 1) = ((i + 1 : Nat) : Int) := by
  have h1 : maxLen = 9223372036854775807 := rfl
  rw [wrap_id .i64 _ (by show (-9223372036854775808 : Int) ≤ _; omega) (by show _ ≤ (9223372036854775807 : Int); omega)]
  omega

end
end Go.Ab
