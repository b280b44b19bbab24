/- An abstract executor for the model's code, on abstract values: definitions alone. No condition. -/
import Derived.Test.YtcpfjabjonpdaaaAb1
namespace Go.Ab
open Go.RowKit (Below)

mutual
/-- All objects that it names have numbers below m. -/
def AV.bel (m : Nat) : AV → Bool
  | .agg cs => AV.belL m cs
  | .tup cs => AV.belL m cs
  | .sl es t => AV.belL m es && (match t with | .own r => decide (r < m) | _ => true)
  | .eptr e _ => AV.belL m e
  | .bptr r _ => decide (r < m)
  | .ms r _ _ => decide (r < m)
  | .aptr r _ _ _ _ => decide (r < m)
  | .mp r => decide (r < m)
  | _ => true
def AV.belL (m : Nat) : List AV → Bool
  | [] => true
  | a :: as => AV.bel m a && AV.belL m as
end

def AObj.bel (m : Nat) : AObj → Bool
  | .box cs => AV.belL m cs
  | .tok _ _ => true
  | .arr _ _ es => AV.belL m es
  | .map es => AV.belL m (es.map (·.1)) && AV.belL m (es.map (·.2))
  | .dead => true

mutual
/-- What is known of its slices' room is forgotten. -/
def AV.norm : AV → AV
  | .agg cs => .agg (AV.normL cs)
  | .tup cs => .tup (AV.normL cs)
  | .sl es _ => .sl (AV.normL es) .no
  | .eptr e o => .eptr (AV.normL e) o
  | a => a
def AV.normL : List AV → List AV
  | [] => []
  | a :: as => AV.norm a :: AV.normL as
end

def ofVal1 : Value → AV
  | .int k n => .int k n
  | .bool b => .bool b
  | .string s => .str s
  | .pointer none => .nilp
  | .slice none 0 0 => .sl [] .full
  | .map none => .nilm
  | .nilFunc => .nilf
  | _ => .any

def ofVal : Value → AV
  | .agg cs => .agg (cs.toList.map ofVal1)
  | v => ofVal1 v

def valOK1 : Value → Bool
  | .int k n => decide (k.min ≤ n) && decide (n ≤ k.max)
  | .string s => decide (s.size ≤ maxLen)
  | _ => true

def valOK : Value → Bool
  | .agg cs => cs.toList.all valOK1
  | v => valOK1 v

inductive TD where
  | other
  | int (k : IntKind)
  | bool
  | str
  | sl (e : Nat)
  | arr (n e : Nat)
  | st (fs : List (Nat × Nat))
  | map (k v : Nat)
  | ptr

def TD.isAgg : TD → Bool
  | .arr _ _ | .st _ => true
  | _ => false

structure TL where
  d : TD
  size : Nat
  bytes : Nat
  zero : AV

/-- What the executor is told: of the types; which slots' slices are written in place. -/
structure Cfg where
  ty : Nat → Option TL
  inpl : Nat → Bool := fun _ => false

structure AState where
  env : Nat → AV
  b : Nat
  H : List AObj
  L : List AObj
  n : Nat

def upd (e : Nat → AV) (d : Nat) (v : AV) : Nat → AV := fun t => if t = d then v else e t

namespace AState
def put (s : AState) (dst : Option Tmp) (v : AV) : AState :=
  match dst with
  | some d => { s with env := upd s.env d v }
  | none => s
def obj (s : AState) (r : Nat) : Option AObj := if r < s.b then s.H[r]? else s.L[r - s.b]?
def setObj (s : AState) (r : Nat) (x : AObj) : AState :=
  if r < s.b then { s with H := s.H.set r x } else { s with L := s.L.set (r - s.b) x }
def new (s : AState) (x : AObj) : AState := { s with L := s.L ++ [x] }
def ev (s : AState) : Operand → AV
  | .tmp t => s.env t
  | .const v => ofVal v
  | .global _ => .any
  | .func f => .fn f
end AState

def setRange : List AV → Nat → List AV → List AV
  | cs, _, [] => cs
  | cs, o, v :: vs => setRange (cs.set o v) (o + 1) vs

def reCells : AV → List AV → AV
  | .agg _, cs => .agg cs
  | _, cs => cs.headD .any

structure Out where
  c : Prop
  v : AV
  s : AState

/-- The cells in which an address lies, its place among them, and when this is so. -/
def cellsAt (s : AState) : AV → Option (List AV × Nat × Prop)
  | .eptr e off => some (e, off, True)
  | .bptr r off => match s.obj r with
    | some (.box cs) => some (cs, off, True)
    | _ => none
  | .aptr r ver size i off => match s.obj r with
    | some (.arr v' sz es) => some (cellsOf (es.getD i .any), off, v' = ver ∧ sz = size ∧ i < es.length)
    | _ => none
  | _ => none

def partA (l : TL) (cs : List AV) (off : Nat) : Prop × AV :=
  if l.d.isAgg then (off + l.size ≤ cs.length, .agg ((cs.drop off).take l.size)) else (off < cs.length, cs.getD off .any)

def shift (o : Nat) : AV → Option AV
  | .eptr e off => some (.eptr e (off + o))
  | .bptr r off => some (.bptr r (off + o))
  | .aptr r ver size i off => some (.aptr r ver size i (off + o))
  | _ => none

def abinInt (op : BinOp) (k : IntKind) (a b : Int) : Option (Prop × AV) :=
  match op with
  | .add => some (True, .int k (k.wrap (a + b)))
  | .sub => some (True, .int k (k.wrap (a - b)))
  | .mul => some (True, .int k (k.wrap (a * b)))
  | .quo => some (b ≠ 0, .int k (k.wrap (a.tdiv b)))
  | .rem => some (b ≠ 0, .int k (a.tmod b))
  | .eql => some (True, .bool (a == b))
  | .neq => some (True, .bool (a != b))
  | .lss => some (True, .bool (decide (a < b)))
  | .leq => some (True, .bool (decide (a ≤ b)))
  | .gtr => some (True, .bool (decide (a > b)))
  | .geq => some (True, .bool (decide (a ≥ b)))
  | _ => none

def abin (d : TD) (op : BinOp) : AV → AV → Option (Prop × AV)
  | .int k a, .int k' b => if k = k' then abinInt op k a b else none
  | .bool a, .bool b => match d, op with
    | .bool, .eql => some (True, .bool (a == b))
    | .bool, .neq => some (True, .bool (!(a == b)))
    | _, _ => none
  | .str a, .str b => match op with
    | .eql => some (True, .bool (a.toList == b.toList))
    | .neq => some (True, .bool (!(a.toList == b.toList)))
    | _ => none
  | .bptr _ _, .nilp => match d, op with
    | .ptr, .eql => some (True, .bool false)
    | .ptr, .neq => some (True, .bool true)
    | _, _ => none
  | _, _ => none

def fillA (place : Nat → Option (Nat × Nat)) : List (Nat × AV) → List AV → Option (Prop × List AV)
  | [], cs => some (True, cs)
  | (i, v) :: rest, cs =>
    match place i with
    | none => none
    | some (off, size) =>
      match fillA place rest (setRange cs off (cellsOf v)) with
      | none => none
      | some (c, out) => some ((v.solid = true ∧ (cellsOf v).length = size ∧ off + size ≤ cs.length) ∧ c, out)

/-- The places of a struct's fields. -/
def placeSt (C : Cfg) (fs : List (Nat × Nat)) (i : Nat) : Option (Nat × Nat) :=
  match fs[i]? with
  | some (o, ft) => match C.ty ft with
    | some l => some (o, l.size)
    | none => none
  | none => none

def fillE (size : Nat) : List (Nat × AV) → List AV → Prop × List AV
  | [], es => (True, es)
  | (i, v) :: rest, es => ((v.solid = true ∧ (cellsOf v).length = size ∧ i < es.length) ∧ (fillE size rest (es.set i v)).1, (fillE size rest (es.set i v)).2)

/-- The elements that a slice has now. -/
def elemsOf (s : AState) : AV → Option (List AV × Prop)
  | .sl es _ => some (es, True)
  | .ms r ver len => match s.obj r with
    | some (.arr v' _ es) => some (es.take len, v' = ver ∧ len ≤ es.length)
    | _ => none
  | _ => none

def keyEq : TD → AV → AV → Option Bool
  | .int _, .int k a, .int k' b => if k = k' then some (a == b) else none
  | .str, .str a, .str b => some (a == b)
  | _, _, _ => none

def findA (d : TD) (k : AV) : List (AV × AV) → Nat → Option (Option (Nat × AV))
  | [], _ => some none
  | e :: es, i => match keyEq d k e.1 with
    | some true => some (some (i, e.2))
    | some false => findA d k es (i + 1)
    | none => none

/-- A key that the executor takes. -/
def keyOK : TD → AV → Bool
  | .int _, .int _ _ => true
  | .str, .str _ => true
  | _, _ => false

def foundOr (z : AV) : Option (Nat × AV) → AV
  | some (_, v) => v
  | none => z

def mapPut (es : List (AV × AV)) (f : Option (Nat × AV)) (k x : AV) : List (AV × AV) :=
  match f with
  | some (i, _) => es.set i (k, x)
  | none => es ++ [(k, x)]

def bytesMax : Nat := 140737488355328

def effAppend (C : Cfg) (inpl : Bool) (t : Nat) (s : AState) (a x : AV) : Option Out :=
  match C.ty t with
  | some { d := .sl e, .. } => match C.ty e, elemsOf s x with
    | some le, some (xs, cx) => match a with
      | .sl es tk => match tk with
        | .own r => match s.obj r with
          | some (.tok n size) => some ⟨cx ∧ n = es.length ∧ size = le.size ∧ es.length + xs.length ≤ maxLen ∧ (es.length + xs.length) * le.bytes ≤ bytesMax ∧ (∀ y ∈ es, (cellsOf y).length = le.size) ∧ (∀ y ∈ xs, y.solid = true ∧ (cellsOf y).length = le.size),
              .sl (es ++ xs) (.own r), s.setObj r (.tok (es.length + xs.length) size)⟩
          | _ => none
        | .full => match xs with
          | [] => some ⟨cx, .sl es .full, s⟩
          | x0 :: xs0 =>
            if inpl then some ⟨cx ∧ es.length + (x0 :: xs0).length ≤ maxLen ∧ (es.length + (x0 :: xs0).length) * le.bytes ≤ bytesMax ∧ (∀ y ∈ es, (cellsOf y).length = le.size) ∧ (∀ y ∈ x0 :: xs0, y.solid = true ∧ (cellsOf y).length = le.size),
                .ms (s.b + s.L.length) 0 (es.length + (x0 :: xs0).length), s.new (.arr 0 le.size (es ++ x0 :: xs0))⟩
            else some ⟨cx ∧ es.length + (x0 :: xs0).length ≤ maxLen ∧ (es.length + (x0 :: xs0).length) * le.bytes ≤ bytesMax ∧ (∀ y ∈ es, (cellsOf y).length = le.size) ∧ (∀ y ∈ x0 :: xs0, y.solid = true ∧ (cellsOf y).length = le.size),
                .sl (es ++ x0 :: xs0) (.own (s.b + s.L.length)), s.new (.tok (es.length + (x0 :: xs0).length) le.size)⟩
        | .no => none
      | .ms r ver len => match s.obj r with
        | some (.arr v' size es) => some ⟨cx ∧ v' = ver ∧ len ≤ es.length ∧ size = le.size ∧ len + xs.length ≤ maxLen ∧ (len + xs.length) * le.bytes ≤ bytesMax ∧ (∀ y ∈ xs, y.solid = true ∧ (cellsOf y).length = le.size) ∧ (r < s.b → AV.belL s.b xs = true),
            .ms r (ver + 1) (len + xs.length), s.setObj r (.arr (ver + 1) size (es.take len ++ xs))⟩
        | _ => none
      | _ => none
    | _, _ => none
  | _ => none

def ints : List AV → Option (IntKind × List Int)
  | [] => none
  | [.int k n] => some (k, [n])
  | .int k n :: rest => match ints rest with
    | some (k', ns) => if k = k' then some (k, n :: ns) else none
    | none => none
  | _ => none

def effBuiltin (C : Cfg) (inpl : Bool) (s : AState) (b : Builtin) (ts : List Nat) (args : List AV) : Option Out :=
  match b, ts, args with
  | .len, [t], [.sl es _] => match C.ty t with
    | some { d := .sl _, .. } => some ⟨True, .int .i64 es.length, s⟩
    | _ => none
  | .len, [t], [.ms _ _ n] => match C.ty t with
    | some { d := .sl _, .. } => some ⟨True, .int .i64 n, s⟩
    | _ => none
  | .len, [t], [.str x] => match C.ty t with
    | some { d := .str, .. } => some ⟨True, .int .i64 x.size, s⟩
    | _ => none
  | .len, [t], [.mp r] => match C.ty t, s.obj r with
    | some { d := .map _ _, .. }, some (.map es) => some ⟨es.length ≤ maxLen, .int .i64 es.length, s⟩
    | _, _ => none
  | .append, [t, t'], [a, x] => if t = t' then effAppend C inpl t s a x else none
  | .max, _, [.int k a, .int k' b] => if k = k' then some ⟨True, .int k (if b > a then b else a), s⟩ else none
  | .min, _, [.int k a, .int k' b] => if k = k' then some ⟨True, .int k (if b < a then b else a), s⟩ else none
  | _, _, _ => none

def optInt : Option AV → Int → Option Int
  | none, d => some d
  | some (.int _ n), _ => some n
  | some _, _ => none

def effSlice (size : Nat) (x : AV) (lo hi mx : Option AV) (s : AState) : Option Out :=
  match x with
  | .sl es _ => match mx with
    | none => match optInt lo 0, optInt hi es.length with
      | some l, some h => some ⟨0 ≤ l ∧ l ≤ h ∧ h ≤ es.length ∧ (∀ y ∈ es, (cellsOf y).length = size), .sl ((es.take h.toNat).drop l.toNat) .no, s⟩
      | _, _ => none
    | some (.int _ m) => match optInt lo 0, optInt hi es.length with
      | some l, some h => some ⟨0 ≤ l ∧ l = h ∧ h = m ∧ h ≤ es.length ∧ hi.isSome = true, .sl [] .full, s⟩
      | _, _ => none
    | _ => none
  | .ms r ver len => match lo, hi, mx with
    | none, some (.int _ h), none => some ⟨0 ≤ h ∧ h ≤ len, .ms r ver h.toNat, s⟩
    | _, _, _ => none
  | _ => none

def inplOf (C : Cfg) (o : Oper) : Bool := match o.dst with | some d => C.inpl d | none => false

def eff (C : Cfg) (o : Oper) (s : AState) : Option Out :=
  match o.op with
  | .move x => some ⟨True, s.ev x, s⟩
  | .assign x => some ⟨True, s.ev x, s⟩
  | .pick c a b => match s.ev c with
    | .bool t => some ⟨True, if t then s.ev a else s.ev b, s⟩
    | _ => none
  | .alloc t => match C.ty t with
    | some l => some ⟨True, .bptr (s.b + s.L.length) 0, s.new (.box (cellsOf l.zero))⟩
    | none => none
  | .box _ x => some ⟨(s.ev x).solid = true, .bptr (s.b + s.L.length) 0, s.new (.box (cellsOf (s.ev x)))⟩
  | .load t a => match C.ty t, cellsAt s (s.ev a) with
    | some l, some (cs, off, c) => some ⟨c ∧ (partA l cs off).1, (partA l cs off).2, s⟩
    | _, _ => none
  | .store t a x => match C.ty t with
    | some l => match s.ev a with
      | .bptr r off => match s.obj r with
        | some (.box cs) => some ⟨(s.ev x).solid = true ∧ (cellsOf (s.ev x)).length = l.size ∧ off + l.size ≤ cs.length ∧ (r < s.b → (s.ev x).bel s.b = true), .any,
            s.setObj r (.box (setRange cs off (cellsOf (s.ev x))))⟩
        | _ => none
      | .aptr r ver size i off => match s.obj r with
        | some (.arr v' sz es) => some ⟨(s.ev x).solid = true ∧ (cellsOf (s.ev x)).length = l.size ∧ off + l.size ≤ size ∧ v' = ver ∧ sz = size ∧ i < es.length ∧ (r < s.b → (s.ev x).bel s.b = true), .any,
            s.setObj r (.arr v' sz (es.set i (reCells (es.getD i .any) (setRange (cellsOf (es.getD i .any)) off (cellsOf (s.ev x))))))⟩
        | _ => none
      | _ => none
    | none => none
  | .nilCheck x => match s.ev x with
    | .bptr r o => some ⟨True, .bptr r o, s⟩
    | .eptr e o => some ⟨True, .eptr e o, s⟩
    | .aptr r v z i o => some ⟨True, .aptr r v z i o, s⟩
    | _ => none
  | .binOp op t x y _ => match C.ty t with
    | some l => match abin l.d op (s.ev x) (s.ev y) with
      | some (c, v) => some ⟨c, v, s⟩
      | none => none
    | none => none
  | .unOp op _ x => match op, s.ev x with
    | .not, .bool t => some ⟨True, .bool (!t), s⟩
    | .neg, .int k n => some ⟨True, .int k (k.wrap (0 - n)), s⟩
    | _, _ => none
  | .convert src dst x => match C.ty src, C.ty dst, s.ev x with
    | some _, some { d := .int k, .. }, .int _ n => some ⟨True, .int k (k.wrap n), s⟩
    | _, _, _ => none
  | .fieldAddr t x f => match C.ty t with
    | some { d := .st fs, .. } => match fs[f]? with
      | some (o, ft) => match C.ty ft, shift o (s.ev x) with
        | some _, some v => some ⟨True, v, s⟩
        | _, _ => none
      | none => none
    | _ => none
  | .field t x f => match C.ty t with
    | some { d := .st fs, .. } => match fs[f]?, s.ev x with
      | some (o, ft), .agg cs => match C.ty ft with
        | some lf => some ⟨(partA lf cs o).1, (partA lf cs o).2, s⟩
        | none => none
      | _, _ => none
    | _ => none
  | .indexAddr t x i => match C.ty t with
    | some { d := .sl e, .. } => match C.ty e, s.ev x, s.ev i with
      | some le, .sl es _, .int _ i => some ⟨0 ≤ i ∧ i < es.length ∧ (cellsOf (es.getD i.toNat .any)).length = le.size, .eptr (cellsOf (es.getD i.toNat .any)) 0, s⟩
      | some le, .ms r ver len, .int _ i => some ⟨0 ≤ i ∧ i < len, .aptr r ver le.size i.toNat 0, s⟩
      | _, _, _ => none
    | some { d := .arr n e, .. } => match C.ty e, s.ev i with
      | some le, .int _ i => match shift (i.toNat * le.size) (s.ev x) with
        | some v => some ⟨0 ≤ i ∧ i < n, v, s⟩
        | none => none
      | _, _ => none
    | _ => none
  | .index t x i => match C.ty t with
    | some { d := .arr n e, .. } => match C.ty e, s.ev x, s.ev i with
      | some le, .agg cs, .int _ i => some ⟨0 ≤ i ∧ i < n ∧ (partA le cs (i.toNat * le.size)).1, (partA le cs (i.toNat * le.size)).2, s⟩
      | _, _, _ => none
    | _ => none
  | .build t parts => match C.ty t with
    | some { d := .st fs, zero := z, .. } =>
      match fillA (placeSt C fs) (parts.toList.map fun p => (p.1, s.ev p.2)) (cellsOf z) with
      | some (c, cs) => some ⟨c ∧ (∀ p ∈ fs, (C.ty p.2).isSome = true), .agg cs, s⟩
      | none => none
    | some { d := .arr _ e, zero := z, .. } => match C.ty e with
      | some le => match fillA (fun i => some (i * le.size, le.size)) (parts.toList.map fun p => (p.1, s.ev p.2)) (cellsOf z) with
        | some (c, cs) => some ⟨c, .agg cs, s⟩
        | none => none
      | none => none
    | _ => none
  | .buildSlice t len parts => match C.ty t with
    | some { d := .sl e, .. } => match C.ty e with
      | some le =>
        let r := fillE le.size (parts.toList.map fun p => (p.1, s.ev p.2)) (List.replicate len le.zero)
        if inplOf C o then some ⟨r.1 ∧ len * le.size ≤ 2 ^ 24, .ms (s.b + s.L.length) 0 len, s.new (.arr 0 le.size r.2)⟩
        else some ⟨r.1 ∧ len * le.size ≤ 2 ^ 24, .sl r.2 .full, s⟩
      | none => none
    | _ => none
  | .makeSlice t n c => match C.ty t, s.ev n, s.ev c with
    | some { d := .sl e, .. }, .int .i64 n, .int .i64 c => match C.ty e with
      | some le =>
        if inplOf C o then some ⟨0 ≤ n ∧ n = c ∧ n * le.bytes ≤ bytesMax, .ms (s.b + s.L.length) 0 n.toNat, s.new (.arr 0 le.size (List.replicate n.toNat le.zero))⟩
        else some ⟨0 ≤ n ∧ n = c ∧ n * le.bytes ≤ bytesMax, .sl (List.replicate n.toNat le.zero) .full, s⟩
      | none => none
    | _, _, _ => none
  | .slice t x lo hi mx => match C.ty t with
    | some { d := .sl e, .. } => match C.ty e with
      | some le => effSlice le.size (s.ev x) (lo.map s.ev) (hi.map s.ev) (mx.map s.ev) s
      | none => none
    | _ => none
  | .extract x i => match s.ev x with
    | .tup vs => some ⟨i < vs.length, vs.getD i .any, s⟩
    | _ => none
  | .makeMap _ none => some ⟨True, .mp (s.b + s.L.length), s.new (.map [])⟩
  | .lookup t m k ok => match C.ty t with
    | some { d := .map kt vt, .. } => match C.ty kt, C.ty vt, s.ev m with
      | some lk, some lv, .mp r => match s.obj r with
        | some (.map es) => match findA lk.d (s.ev k) es 0 with
          | some f => some ⟨keyOK lk.d (s.ev k) = true, if ok then .tup [foundOr lv.zero f, .bool f.isSome] else foundOr lv.zero f, s⟩
          | none => none
        | _ => none
      | _, _, _ => none
    | _ => none
  | .mapUpdate t m k x => match C.ty t with
    | some { d := .map kt _, .. } => match C.ty kt, s.ev m with
      | some lk, .mp r => match s.obj r with
        | some (.map es) => match findA lk.d (s.ev k) es 0 with
          | some f => some ⟨keyOK lk.d (s.ev k) = true ∧ (r < s.b → (s.ev k).bel s.b = true ∧ (s.ev x).bel s.b = true), .any,
              s.setObj r (.map (mapPut es f (s.ev k) (s.ev x)))⟩
          | none => none
        | _ => none
      | _, _ => none
    | _ => none
  | .call { callee := .builtin b, args := args, argTypes := ts } => effBuiltin C (inplOf C o) s b ts.toList (args.toList.map s.ev)
  | _ => none

structure Rel (V : View) (a : Act) (w : World) (s : AState) : Prop where
  hb : s.b = s.H.length
  bel : ∀ x ∈ s.H, x.bel s.b = true
  inv : Inv V s.obj w
  size : a.tmps.size = s.n
  defers : a.defers = []
  env : ∀ t, Rep V (a.tmps.getD t undef) (s.env t)

/-- The code, begun where the abstract state holds, ends where Q holds. -/
def AWp (P : Program) (c : Code) (Q : Exit → AState → Prop) (s : AState) : Prop :=
  ∀ V a w, Rel V a w s → c.wp P (fun e a' w' => ∃ V' s', V.LeB s.b V' ∧ Below V.base w w' ∧ Rel V' a' w' s' ∧ s'.n = s.n ∧ s'.b = s.b ∧ Q e s') a w

/-- A function that the program has with a body. -/
def FnOK (P : Program) (f : Nat) : Prop := ∃ fn, P.funcs[f]? = some fn ∧ fn.body.isSome = true ∧ (fn.name == "runtime.NumGoroutine") = false

def heapObj (H : List AObj) (r : Nat) : Option AObj := H[r]?

/-- A call, by abstract values: over a heap of objects. -/
def ACalls (P : Program) (f : FuncId) (args : List AV) (H : List AObj) (R : AV → List AObj → Prop) : Prop :=
  FnOK P f ∧ ∀ V w vs, Inv V (heapObj H) w → (∀ x ∈ H, x.bel H.length = true) → vs.size = args.length → (∀ i, i < args.length → Rep V (vs.getD i undef) (args.getD i .any)) →
    Calls P f vs w fun e w' => ∃ V' v r H', V.Le V' ∧ Below V.base w w' ∧ e = .returned v ∧ Rep V' v r ∧ Inv V' (heapObj H') w' ∧ H.length ≤ H'.length ∧ R r H'

/-- A call whose outcome is a value alone. -/
def PCalls (P : Program) (f : FuncId) (args : List AV) (r : AV) : Prop :=
  r.bel 0 = true ∧ ∀ H, ACalls P f args H fun r' H' => r' = r ∧ H' = H

/-- A call, within a state. -/
def CallK (P : Program) (f : FuncId) (args : List AV) (s : AState) (K : AV → AState → Prop) : Prop :=
  FnOK P f ∧ ∀ V w vs, s.b = s.H.length → Inv V s.obj w → (∀ x ∈ s.H, x.bel s.b = true) → vs.size = args.length → (∀ i, i < args.length → Rep V (vs.getD i undef) (args.getD i .any)) →
    Calls P f vs w fun e w' => ∃ V' v r s', V.Le V' ∧ Below V.base w w' ∧ e = .returned v ∧ Rep V' v r ∧ Inv V' s'.obj w' ∧ (∀ x ∈ s'.H, x.bel s'.b = true) ∧ s'.b = s'.H.length ∧
      s'.env = s.env ∧ s'.n = s.n ∧ s'.b = s.b ∧ K r s'

/-- One operation, in a region whose order is the text's. -/
def xop (P : Program) (C : Cfg) (o : Oper) (K : AState → Prop) (s : AState) : Prop :=
  match o.op with
  | .call { callee := .value f, args := args, .. } => match s.ev f with
    | .fn g => CallK P g (args.toList.map s.ev) s fun r s' => K (s'.put o.dst r)
    | _ => False
  | _ => match eff C o s with
    | some ⟨c, v, s'⟩ => c ∧ K (s'.put o.dst v)
    | none => False

def guardOf (ops : Array Oper) (o : Oper) : Option (Option Tmp × Bool) := o.guard.map fun g => ((ops[g.1]?).bind (·.dst), g.2)

def xguard (P : Program) (C : Cfg) (ops : Array Oper) (o : Oper) (K : AState → Prop) (s : AState) : Prop :=
  match guardOf ops o with
  | none => xop P C o K s
  | some (some t, want) => match s.env t with
    | .bool b => if b = want then xop P C o K s else K (s.put o.dst (.tup []))
    | .tup [] => K (s.put o.dst (.tup []))
    | _ => False
  | some (none, _) => False

def xops (P : Program) (C : Cfg) (ops : Array Oper) : List Oper → (AState → Prop) → AState → Prop
  | [], K, s => K s
  | o :: rest, K, s => xguard P C ops o (xops P C ops rest K) s

end Go.Ab
