/- Abstract values and their relation to the model's values: helper definitions and laws, over any world. No condition. -/
import Derived.Calls
import Derived.Orders
import Derived.Below
import Derived.Laws.CopyRow
import Derived.Laws.AppendOwn
namespace Go.Ab
open Go.RowKit (Below)

theorem getD_lt {α : Type} {l : List α} {i : Nat} (d : α) (h : i < l.length) : l.getD i d = l[i] := by
  simp [List.getD_eq_getElem?_getD, List.getElem?_eq_getElem h]
theorem getD_app_l {α : Type} (l k : List α) (d : α) {i : Nat} (h : i < l.length) : (l ++ k).getD i d = l.getD i d := by
  simp [List.getD_eq_getElem?_getD, List.getElem?_append, h]
theorem getD_app_r {α : Type} (l k : List α) (d : α) {i : Nat} (h : l.length ≤ i) : (l ++ k).getD i d = k.getD (i - l.length) d := by
  simp [List.getD_eq_getElem?_getD, List.getElem?_append, show ¬ i < l.length by omega]

/-- What is known of a slice's room: nothing; that it is full; that it ends where the object 'r' (a 'tok') ends. -/
inductive Tk where
  | no
  | full
  | own (r : Nat)

inductive AV where
  | any
  | int (k : IntKind) (n : Int)
  | bool (b : Bool)
  | str (s : ByteArray)
  | nilp
  | agg (cs : List AV)
  | tup (vs : List AV)
  | sl (es : List AV) (tok : Tk)
  | eptr (e : List AV) (off : Nat)
  | bptr (r : Nat) (off : Nat)
  | ms (r : Nat) (ver len : Nat)
  | aptr (r : Nat) (ver size i off : Nat)
  | mp (r : Nat)
  | nilm
  | fn (f : Nat)
  | nilf

instance : Inhabited AV := ⟨.any⟩

def cellsOf : AV → List AV
  | .agg cs => cs
  | a => [a]

/-- Of one cell. -/
def AV.one : AV → Bool
  | .any | .agg _ | .tup _ => false
  | _ => true

/-- Its cells are known, each of them is one. -/
def AV.solid : AV → Bool
  | .any | .tup _ => false
  | .agg cs => cs.all AV.one
  | _ => true

inductive AObj where
  | box (cs : List AV)
  | tok (n size : Nat)
  | arr (ver size : Nat) (es : List AV)
  | map (es : List (AV × AV))
  | dead

structure View where
  base : Nat
  imm : Nat → Nat → Option Value
  loc : Nat → Nat → Option (Option Nat × Nat)

structure View.Le (V V' : View) : Prop where
  base : V'.base = V.base
  imm : ∀ b o v, V.imm b o = some v → V'.imm b o = some v
  loc : ∀ r n x, V.loc r n = some x → V'.loc r n = some x

theorem View.Le.refl (V : View) : V.Le V := ⟨rfl, fun _ _ _ h => h, fun _ _ _ h => h⟩
theorem View.Le.trans {A B C : View} (h : A.Le B) (k : B.Le C) : A.Le C :=
  ⟨k.base.trans h.base, fun b o v e => k.imm b o v (h.imm b o v e), fun r n x e => k.loc r n x (h.loc r n x e)⟩

/-- As 'Le', of the objects below a number alone. -/
structure View.LeB (m : Nat) (V V' : View) : Prop where
  base : V'.base = V.base
  imm : ∀ b o v, V.imm b o = some v → V'.imm b o = some v
  loc : ∀ r n x, r < m → V.loc r n = some x → V'.loc r n = some x

theorem View.Le.toB {V V' : View} (h : V.Le V') (m : Nat) : V.LeB m V' := ⟨h.base, h.imm, fun r n x _ => h.loc r n x⟩
theorem View.LeB.refl (m : Nat) (V : View) : V.LeB m V := ⟨rfl, fun _ _ _ h => h, fun _ _ _ _ h => h⟩
theorem View.LeB.trans {m : Nat} {A B C : View} (h : View.LeB m A B) (k : View.LeB m B C) : View.LeB m A C :=
  ⟨k.base.trans h.base, fun b o v e => k.imm b o v (h.imm b o v e), fun r n x hr e => k.loc r n x hr (h.loc r n x hr e)⟩

def baseOf (blk : Option Nat) : Option Addr := blk.map fun b => ⟨b, 0, none⟩

inductive Rep (V : View) : Value → AV → Prop
  | any (v : Value) : Rep V v .any
  | int (k : IntKind) (n : Int) (h1 : k.min ≤ n) (h2 : n ≤ k.max) : Rep V (.int k n) (.int k n)
  | bool (b : Bool) : Rep V (.bool b) (.bool b)
  | str (s : ByteArray) (h : s.size ≤ maxLen) : Rep V (.string s) (.str s)
  | nilp : Rep V (.pointer none) .nilp
  | agg (cs : Array Value) (as : List AV) (hl : cs.size = as.length) (h : ∀ i, i < as.length → Rep V (cs.getD i undef) (as.getD i .any)) :
      Rep V (.agg cs) (.agg as)
  | tup (cs : Array Value) (as : List AV) (hl : cs.size = as.length) (h : ∀ i, i < as.length → Rep V (cs.getD i undef) (as.getD i .any)) :
      Rep V (.tuple cs) (.tup as)
  | sl (bse : Option Addr) (len cap : Nat) (es : List AV) (tok : Tk) (size b o : Nat) (val : Nat → Value)
      (hl : es.length = len) (hc : len ≤ cap) (hm : cap ≤ maxLen) (hb : 0 < len → bse = some ⟨b, o, none⟩)
      (hs : ∀ i, i < len → (cellsOf (es.getD i .any)).length = size)
      (hi : ∀ j, j < len * size → V.imm b (o + j) = some (val j))
      (hr : ∀ i j, i < len → j < size → Rep V (val (i * size + j)) ((cellsOf (es.getD i .any)).getD j .any))
      (ht : ∀ r, tok = .own r → ∃ blk, V.loc r len = some (blk, cap) ∧ bse = baseOf blk) (hf : tok = .full → cap = len) :
      Rep V (.slice bse len cap) (.sl es tok)
  | eptr (e : List AV) (off b o : Nat) (val : Nat → Value) (hi : ∀ j, j < e.length → V.imm b (o + j) = some (val j))
      (hr : ∀ j, j < e.length → Rep V (val j) (e.getD j .any)) : Rep V (.pointer (some ⟨b, o + off, none⟩)) (.eptr e off)
  | bptr (r : Nat) (off b c : Nat) (h : V.loc r 0 = some (some b, c)) : Rep V (.pointer (some ⟨b, off, none⟩)) (.bptr r off)
  | ms (r : Nat) (ver len : Nat) (blk : Option Nat) (cap : Nat) (h : V.loc r ver = some (blk, cap)) (hc : len ≤ cap) (hm : cap ≤ maxLen) (hn : blk = none → cap = 0) : Rep V (.slice (baseOf blk) len cap) (.ms r ver len)
  | aptr (r : Nat) (ver size i off b cap : Nat) (h : V.loc r ver = some (some b, cap)) : Rep V (.pointer (some ⟨b, i * size + off, none⟩)) (.aptr r ver size i off)
  | mp (r : Nat) (b c : Nat) (h : V.loc r 0 = some (some b, c)) : Rep V (.map (some b)) (.mp r)
  | nilm : Rep V (.map none) .nilm
  | fn (f : Nat) : Rep V (.func (.func f) #[] #[]) (.fn f)
  | nilf : Rep V .nilFunc .nilf

theorem Rep.mono {V V' : View} (hV : V.Le V') {v : Value} {a : AV} (h : Rep V v a) : Rep V' v a := by
  induction h with
  | any v => exact .any v
  | int k n h1 h2 => exact .int k n h1 h2
  | bool b => exact .bool b
  | str s h => exact .str s h
  | nilp => exact .nilp
  | agg cs as hl _ ih => exact .agg cs as hl ih
  | tup cs as hl _ ih => exact .tup cs as hl ih
  | sl bse len cap es tok size b o val hl hc hm hb hs hi _ ht hf ih =>
    exact .sl bse len cap es tok size b o val hl hc hm hb hs (fun j hj => hV.imm _ _ _ (hi j hj)) ih
      (fun r hr => let ⟨blk, h1, h2⟩ := ht r hr; ⟨blk, hV.loc _ _ _ h1, h2⟩) hf
  | eptr e off b o val hi _ ih => exact .eptr e off b o val (fun j hj => hV.imm _ _ _ (hi j hj)) ih
  | bptr r off b c h => exact .bptr r off b c (hV.loc _ _ _ h)
  | ms r ver len blk cap h hc hm hn => exact .ms r ver len blk cap (hV.loc _ _ _ h) hc hm hn
  | aptr r ver size i off b cap h => exact .aptr r ver size i off b cap (hV.loc _ _ _ h)
  | mp r b c h => exact .mp r b c (hV.loc _ _ _ h)
  | nilm => exact .nilm
  | fn f => exact .fn f
  | nilf => exact .nilf

/-- The cells of a value whose abstract value is known. -/
theorem Rep.cells {V : View} {v : Value} {a : AV} (h : Rep V v a) (hs : a.solid = true) :
    v.cells.size = (cellsOf a).length ∧ ∀ i, i < (cellsOf a).length → Rep V (v.cells.getD i undef) ((cellsOf a).getD i .any) := by
  cases h with
  | any v => simp [AV.solid] at hs
  | tup => simp [AV.solid] at hs
  | agg cs as hl h => exact ⟨hl, h⟩
  | _ =>
    refine ⟨rfl, fun i hi => ?_⟩
    have h0 : i = 0 := by simp [cellsOf] at hi; omega
    subst h0
    simp only [Value.cells, cellsOf, List.getD_cons_zero]
    first
      | exact .int _ _ ‹_› ‹_›
      | exact .bool _
      | exact .str _ ‹_›
      | exact .nilp
      | exact .sl _ _ _ _ _ _ _ _ _ ‹_› ‹_› ‹_› ‹_› ‹_› ‹_› ‹_› ‹_› ‹_›
      | exact .eptr _ _ _ _ _ ‹_› ‹_›
      | exact .bptr _ _ _ _ ‹_›
      | exact .ms _ _ _ _ _ ‹_› ‹_› ‹_› ‹_›
      | exact .aptr _ _ _ _ _ _ _ ‹_›
      | exact .mp _ _ _ ‹_›
      | exact .nilm
      | exact .fn _
      | exact .nilf

theorem Rep.oneCell {V : View} {v : Value} {a : AV} (h : Rep V v a) (hs : a.one = true) : v.oneCell' = true := by
  cases h <;> first | rfl | (simp [AV.one] at hs)

theorem AV.solid_one {a : AV} (h : a.solid = true) : ∀ i, i < (cellsOf a).length → ((cellsOf a).getD i .any).one = true := by
  intro i hi
  cases a with
  | any => simp [AV.solid] at h
  | tup => simp [AV.solid] at h
  | agg cs =>
    simp only [AV.solid, List.all_eq_true] at h
    simp only [cellsOf] at hi ⊢
    rw [getD_lt _ hi]
    exact h _ (List.getElem_mem hi)
  | _ =>
    have h0 : i = 0 := by simp [cellsOf] at hi; omega
    subst h0
    rfl

/-- The block that an object owns. -/
def own (V : View) (r : Nat) : AObj → Option Nat
  | .box _ | .map _ => (V.loc r 0).bind (·.1)
  | .tok n _ => (V.loc r n).bind (·.1)
  | .arr ver _ _ => (V.loc r ver).bind (·.1)
  | .dead => none

def RepMap (V : View) (entries : List MapEntry) (es : List (AV × AV)) : Prop :=
  entries.length = es.length ∧ ∀ i, i < es.length → ∀ e p, entries[i]? = some e → es[i]? = some p → Rep V e.key p.1 ∧ Rep V e.val p.2

def ObjOK (V : View) (w : World) (r : Nat) : AObj → Prop
  | .box cs => ∃ b c cells ty, V.loc r 0 = some (some b, c) ∧ w.heap[b]? = some (.cells cells ty (0, 0)) ∧ V.base ≤ b ∧
      cells.size = cs.length ∧ (∀ i, i < cs.length → Rep V (cells.getD i undef) (cs.getD i .any)) ∧ ∀ o, V.imm b o = none
  | .tok n size => ∃ blk cap, V.loc r n = some (blk, cap) ∧ (∀ m, n < m → V.loc r m = none) ∧ n ≤ cap ∧ cap ≤ maxLen ∧
      match blk with
      | none => cap = 0
      | some b => V.base ≤ b ∧ ∃ cells ty, w.heap[b]? = some (.cells cells ty (0, 0)) ∧ cells.size = cap * size ∧ ∀ o, n * size ≤ o → V.imm b o = none
  | .arr ver size es => ∃ blk cap, V.loc r ver = some (blk, cap) ∧ (∀ m, ver < m → V.loc r m = none) ∧ es.length ≤ cap ∧ cap ≤ maxLen ∧
      (∀ i, i < es.length → (cellsOf (es.getD i .any)).length = size) ∧
      match blk with
      | none => cap = 0
      | some b => V.base ≤ b ∧ ∃ cells ty, w.heap[b]? = some (.cells cells ty (0, 0)) ∧ cells.size = cap * size ∧
          (∀ i j, i < es.length → j < size → Rep V (cells.getD (i * size + j) undef) ((cellsOf (es.getD i .any)).getD j .any)) ∧ ∀ o, V.imm b o = none
  | .map es => ∃ b c entries clock, V.loc r 0 = some (some b, c) ∧ w.heap[b]? = some (.map entries clock) ∧ V.base ≤ b ∧
      RepMap V entries.toList es ∧ ∀ o, V.imm b o = none
  | .dead => ∀ n, V.loc r n = none

theorem RepMap.mono {V V' : View} (hV : V.Le V') {en : List MapEntry} {es : List (AV × AV)} (h : RepMap V en es) : RepMap V' en es :=
  ⟨h.1, fun i hi e p he hp => let ⟨h1, h2⟩ := h.2 i hi e p he hp; ⟨h1.mono hV, h2.mono hV⟩⟩

theorem ObjOK.frame {V V' : View} {w w' : World} {r : Nat} {x : AObj} (h : ObjOK V w r x) (hV : V.Le V')
    (hb : ∀ b, own V r x = some b → w'.heap[b]? = w.heap[b]?)
    (hi : ∀ b, own V r x = some b → ∀ o, V.imm b o = none → V'.imm b o = none)
    (hl : ∀ n, V.loc r n = none → V'.loc r n = none) : ObjOK V' w' r x ∧ own V' r x = own V r x := by
  cases x with
  | box cs =>
    obtain ⟨b, c, cells, ty, h1, h2, h3, h4, h5, h6⟩ := h
    have ho : own V r (.box cs) = some b := by simp [own, h1]
    have h1' := hV.loc _ _ _ h1
    refine ⟨⟨b, c, cells, ty, h1', by rw [hb b ho]; exact h2, by rw [hV.base]; exact h3, h4, fun i hi => (h5 i hi).mono hV, fun o => hi b ho o (h6 o)⟩, ?_⟩
    simp [own, h1, h1']
  | tok n size =>
    obtain ⟨blk, cap, h1, h2, h3, h4, h5⟩ := h
    have h1' := hV.loc _ _ _ h1
    refine ⟨⟨blk, cap, h1', fun m hm => hl m (h2 m hm), h3, h4, ?_⟩, by simp [own, h1, h1']⟩
    cases blk with
    | none => exact h5
    | some b =>
      have ho : own V r (.tok n size) = some b := by simp [own, h1]
      obtain ⟨h6, cells, ty, h7, h8, h9⟩ := h5
      exact ⟨by rw [hV.base]; exact h6, cells, ty, by rw [hb b ho]; exact h7, h8, fun o hoo => hi b ho o (h9 o hoo)⟩
  | arr ver size es =>
    obtain ⟨blk, cap, h1, h2, h3, h4, hsz, h5⟩ := h
    have h1' := hV.loc _ _ _ h1
    refine ⟨⟨blk, cap, h1', fun m hm => hl m (h2 m hm), h3, h4, hsz, ?_⟩, by simp [own, h1, h1']⟩
    cases blk with
    | none => exact h5
    | some b =>
      have ho : own V r (.arr ver size es) = some b := by simp [own, h1]
      obtain ⟨h6, cells, ty, h7, h8, h9, h10⟩ := h5
      exact ⟨by rw [hV.base]; exact h6, cells, ty, by rw [hb b ho]; exact h7, h8, fun i j hi hj => (h9 i j hi hj).mono hV, fun o => hi b ho o (h10 o)⟩
  | map es =>
    obtain ⟨b, c, entries, clock, h1, h2, h3, h4, h6⟩ := h
    have ho : own V r (.map es) = some b := by simp [own, h1]
    have h1' := hV.loc _ _ _ h1
    refine ⟨⟨b, c, entries, clock, h1', by rw [hb b ho]; exact h2, by rw [hV.base]; exact h3, h4.mono hV, fun o => hi b ho o (h6 o)⟩, ?_⟩
    simp [own, h1, h1']
  | dead => exact ⟨fun n => hl n (h n), rfl⟩

theorem ObjOK.own_lt {V : View} {w : World} {r : Nat} {x : AObj} (h : ObjOK V w r x) {b : Nat} (ho : own V r x = some b) : V.base ≤ b ∧ b < w.heap.size := by
  have lt : ∀ {o : Obj}, w.heap[b]? = some o → b < w.heap.size := fun h => (Array.getElem?_eq_some_iff.1 h).1
  cases x with
  | box cs => obtain ⟨b', c, cells, ty, h1, h2, h3, _⟩ := h; simp [own, h1] at ho; subst ho; exact ⟨h3, lt h2⟩
  | tok n size =>
    obtain ⟨blk, cap, h1, _, _, _, h5⟩ := h
    simp [own, h1] at ho; subst ho
    obtain ⟨h6, cells, ty, h7, _⟩ := h5
    exact ⟨h6, lt h7⟩
  | arr ver size es =>
    obtain ⟨blk, cap, h1, _, _, _, _, h5⟩ := h
    simp [own, h1] at ho; subst ho
    obtain ⟨h6, cells, ty, h7, _⟩ := h5
    exact ⟨h6, lt h7⟩
  | map es => obtain ⟨b', c, cells, ty, h1, h2, h3, _⟩ := h; simp [own, h1] at ho; subst ho; exact ⟨h3, lt h2⟩
  | dead => simp [own] at ho

structure Inv (V : View) (obj : Nat → Option AObj) (w : World) : Prop where
  base : V.base ≤ w.heap.size
  imm : ∀ b o v, V.imm b o = some v → w.cell? ⟨b, o, none⟩ = some v
  dom : ∀ r n x, V.loc r n = some x → (obj r).isSome = true
  objs : ∀ r x, obj r = some x → ObjOK V w r x
  sep : ∀ r r' x x' b, obj r = some x → obj r' = some x' → own V r x = some b → own V r' x' = some b → r = r'

theorem Inv.imm_lt {V : View} {obj : Nat → Option AObj} {w : World} (h : Inv V obj w) {b o : Nat} {v : Value} (hi : V.imm b o = some v) : b < w.heap.size :=
  World.block_lt_of_cell? w ⟨b, o, none⟩ (h.imm b o v hi)

theorem Inv.imm_new {V : View} {obj : Nat → Option AObj} {w : World} (h : Inv V obj w) {b : Nat} (hb : w.heap.size ≤ b) (o : Nat) : V.imm b o = none := by
  cases hi : V.imm b o with
  | none => rfl
  | some v => have := h.imm_lt hi; omega

/-- ONE OBJECT TURNS; all else that is owned stays. -/
theorem Inv.upd {V V' : View} {obj : Nat → Option AObj} {w w' : World} (h : Inv V obj w) (hV : V.Le V') (r : Nat) (x' : AObj)
    (hsz : w.heap.size ≤ w'.heap.size) (himm : ∀ b o v, V'.imm b o = some v → w'.cell? ⟨b, o, none⟩ = some v)
    (hframe : ∀ r1 x1, r1 ≠ r → obj r1 = some x1 → ∀ b, own V r1 x1 = some b → w'.heap[b]? = w.heap[b]? ∧ ∀ o, V.imm b o = none → V'.imm b o = none)
    (hloc : ∀ r1 n, r1 ≠ r → V'.loc r1 n = V.loc r1 n) (hnew : ObjOK V' w' r x')
    (hsep : ∀ b, own V' r x' = some b → ∀ r1 x1, r1 ≠ r → obj r1 = some x1 → own V r1 x1 ≠ some b) :
    Inv V' (fun q => if q = r then some x' else obj q) w' := by
  have key : ∀ r1 x1, r1 ≠ r → obj r1 = some x1 → ObjOK V' w' r1 x1 ∧ own V' r1 x1 = own V r1 x1 := fun r1 x1 hne ho =>
    (h.objs r1 x1 ho).frame hV (fun b hb => (hframe r1 x1 hne ho b hb).1) (fun b hb => (hframe r1 x1 hne ho b hb).2) (fun n hn => by rw [hloc r1 n hne]; exact hn)
  refine ⟨by rw [hV.base]; exact Nat.le_trans h.base hsz, himm, ?_, ?_, ?_⟩
  · intro q n x hx
    by_cases hq : q = r
    · simp [hq]
    · rw [hloc q n hq] at hx
      simpa [hq] using h.dom q n x hx
  · intro q x hx
    by_cases hq : q = r
    · subst hq; simp at hx; subst hx; exact hnew
    · simp [hq] at hx; exact (key q x hq hx).1
  · intro q q' x1 x2 b h1 h2 h3 h4
    by_cases hq : q = r
    · subst hq
      simp at h1; subst h1
      by_cases hq' : q' = q
      · exact hq'.symm
      · simp [hq'] at h2
        rw [(key q' x2 hq' h2).2] at h4
        exact absurd h4 (hsep b h3 q' x2 hq' h2)
    · simp [hq] at h1
      rw [(key q x1 hq h1).2] at h3
      by_cases hq' : q' = r
      · subst hq'
        simp at h2; subst h2
        exact absurd h3 (hsep b h4 q x1 hq h1)
      · simp [hq'] at h2
        rw [(key q' x2 hq' h2).2] at h4
        exact h.sep q q' x1 x2 b h1 h2 h3 h4

/-- NO OBJECT TURNS: new blocks, more that is known to stay. -/
theorem Inv.keep {V V' : View} {obj : Nat → Option AObj} {w w' : World} (h : Inv V obj w) (hV : V.Le V')
    (hsz : w.heap.size ≤ w'.heap.size) (himm : ∀ b o v, V'.imm b o = some v → w'.cell? ⟨b, o, none⟩ = some v)
    (hframe : ∀ r1 x1, obj r1 = some x1 → ∀ b, own V r1 x1 = some b → w'.heap[b]? = w.heap[b]? ∧ ∀ o, V.imm b o = none → V'.imm b o = none)
    (hloc : ∀ r1 n, V'.loc r1 n = V.loc r1 n) : Inv V' obj w' := by
  have key : ∀ r1 x1, obj r1 = some x1 → ObjOK V' w' r1 x1 ∧ own V' r1 x1 = own V r1 x1 := fun r1 x1 ho =>
    (h.objs r1 x1 ho).frame hV (fun b hb => (hframe r1 x1 ho b hb).1) (fun b hb => (hframe r1 x1 ho b hb).2) (fun n hn => by rw [hloc r1 n]; exact hn)
  refine ⟨by rw [hV.base]; exact Nat.le_trans h.base hsz, himm, ?_, fun q x hx => (key q x hx).1, ?_⟩
  · intro q n x hx
    rw [hloc q n] at hx
    exact h.dom q n x hx
  · intro q q' x1 x2 b h1 h2 h3 h4
    rw [(key q x1 h1).2] at h3
    rw [(key q' x2 h2).2] at h4
    exact h.sep q q' x1 x2 b h1 h2 h3 h4

/-- A draw. -/
theorem Inv.drew {V : View} {obj : Nat → Option AObj} {w : World} (h : Inv V obj w) : Inv V obj w.drew :=
  h.keep (View.Le.refl V) (Nat.le_refl _) h.imm (fun _ _ _ _ _ => ⟨rfl, fun _ h => h⟩) (fun _ _ => rfl)

theorem heap_alloc_lt (w : World) (o : Obj) {b : Nat} (h : b < w.heap.size) : (w.alloc o).heap[b]? = w.heap[b]? := heap_alloc_old w o b h

/-- The view in which a block is known to stay as it is. -/
def View.withRow (V : View) (b : Nat) (f : Nat → Option Value) : View :=
  { V with imm := fun b' o => if b' = b then f o else V.imm b' o }

theorem View.withRow_le {V : View} {b : Nat} {f : Nat → Option Value} (h : ∀ o v, V.imm b o = some v → f o = some v) : V.Le (V.withRow b f) :=
  ⟨rfl, fun b' o v hv => by
    by_cases hb : b' = b
    · subst hb; simp [View.withRow, h o v hv]
    · simp [View.withRow, hb, hv], fun _ _ _ h => h⟩

/-- A NEW ROW THAT NOBODY WRITES. -/
theorem Inv.newRow {V : View} {obj : Nat → Option AObj} {w : World} (h : Inv V obj w) (cs : Array Value) (ty : TypeId) :
    V.Le (V.withRow w.heap.size fun o => cs[o]?) ∧ Inv (V.withRow w.heap.size fun o => cs[o]?) obj (w.alloc (.cells cs ty)) := by
  have hle : V.Le (V.withRow w.heap.size fun o => cs[o]?) := View.withRow_le fun o v hv => by
    rw [h.imm_new (Nat.le_refl _)] at hv; cases hv
  refine ⟨hle, h.keep hle (by simp) ?_ ?_ (fun _ _ => rfl)⟩
  · intro b o v hv
    by_cases hb : b = w.heap.size
    · subst hb
      simp only [View.withRow, if_true] at hv
      rw [World.cell?_alloc_new]; exact hv
    · simp only [View.withRow, hb, if_false] at hv
      rw [World.cell?_alloc_old w _ ⟨b, o, none⟩ hb]
      exact h.imm b o v hv
  · intro r1 x1 ho b hb
    have hlt := ((h.objs r1 x1 ho).own_lt hb).2
    refine ⟨heap_alloc_lt w _ hlt, fun o hn => ?_⟩
    have : b ≠ w.heap.size := by omega
    simp [View.withRow, this, hn]

/-- A NEW OBJECT IN A NEW BLOCK. -/
theorem Inv.newObj {V : View} {obj : Nat → Option AObj} {w : World} (h : Inv V obj w) (r : Nat) (hr : obj r = none ∨ obj r = some .dead) (x : AObj) (ob : Obj) (c n : Nat)
    (hx : ∀ V' : View, V.Le V' → V'.base = V.base → V'.loc r n = some (some w.heap.size, c) → (∀ m, m ≠ n → V'.loc r m = none) → (∀ o, V'.imm w.heap.size o = none) →
      ObjOK V' (w.alloc ob) r x ∧ own V' r x = some w.heap.size) :
    ∃ V', V.Le V' ∧ V'.loc r n = some (some w.heap.size, c) ∧ Inv V' (fun q => if q = r then some x else obj q) (w.alloc ob) := by
  have hnone : ∀ m, V.loc r m = none := fun m => by
    cases hm : V.loc r m with
    | none => rfl
    | some y => rcases hr with hr | hr
                · have := h.dom r m y hm; simp [hr] at this
                · have := h.objs r _ hr m; rw [hm] at this; cases this
  let V' : View := { V with loc := fun q m => if q = r then (if m = n then some (some w.heap.size, c) else none) else V.loc q m }
  have hle : V.Le V' := ⟨rfl, fun _ _ _ h => h, fun q m y hy => by
    by_cases hq : q = r
    · subst hq; rw [hnone m] at hy; cases hy
    · simp [V', hq, hy]⟩
  obtain ⟨hok, hown⟩ := hx V' hle rfl (by simp [V']) (fun m hm => by simp [V', hm]) (fun o => h.imm_new (Nat.le_refl _) o)
  refine ⟨V', hle, by simp [V'], h.upd hle r x (by simp) ?_ ?_ ?_ hok ?_⟩
  · intro b o v hv
    have hlt := h.imm_lt (show V.imm b o = some v from hv)
    rw [World.cell?_alloc_old w _ ⟨b, o, none⟩ (by simp; omega)]
    exact h.imm b o v hv
  · intro r1 x1 hne ho b hb
    exact ⟨heap_alloc_lt w _ ((h.objs r1 x1 ho).own_lt hb).2, fun _ hn => hn⟩
  · intro r1 m hne; simp [V', hne]
  · intro b hb r1 x1 hne ho hb1
    rw [hown] at hb
    simp at hb; subst hb
    exact absurd ((h.objs r1 x1 ho).own_lt hb1).2 (by omega)

/-- AN OWNED BLOCK IS WRITTEN, its object turns; what is known to stay is in other blocks (or 'himm' tells). -/
theorem Inv.write {V : View} {obj : Nat → Option AObj} {w w' : World} (h : Inv V obj w) (r : Nat) (x x' : AObj) (hr : obj r = some x) (b : Nat) (hb : own V r x = some b)
    (hsz : w'.heap.size = w.heap.size) (hoth : ∀ k, k ≠ b → w'.heap[k]? = w.heap[k]?) (V' : View) (hV : V.Le V')
    (himm : ∀ b1 o, b1 ≠ b → V'.imm b1 o = V.imm b1 o) (himmb : ∀ o v, V'.imm b o = some v → w'.cell? ⟨b, o, none⟩ = some v)
    (hloc : ∀ r1 n, r1 ≠ r → V'.loc r1 n = V.loc r1 n) (hnew : ObjOK V' w' r x') (hown : own V' r x' = some b) :
    Inv V' (fun q => if q = r then some x' else obj q) w' := by
  have hother : ∀ r1 x1, r1 ≠ r → obj r1 = some x1 → ∀ b1, own V r1 x1 = some b1 → b1 ≠ b := fun r1 x1 hne ho b1 hb1 he =>
    hne (h.sep r1 r x1 x b ho hr (he ▸ hb1) hb)
  refine h.upd hV r x' (by omega) ?_ ?_ hloc hnew ?_
  · intro b1 o v hv
    by_cases h1 : b1 = b
    · subst h1; exact himmb o v hv
    · rw [himm b1 o h1] at hv
      have := h.imm b1 o v hv
      simp only [World.cell?, hoth b1 h1] at this ⊢
      exact this
  · intro r1 x1 hne ho b1 hb1
    have h1 := hother r1 x1 hne ho b1 hb1
    exact ⟨hoth b1 h1, fun o hn => by rw [himm b1 o h1]; exact hn⟩
  · intro b1 hb1 r1 x1 hne ho hb2
    rw [hown] at hb1
    simp at hb1; subst hb1
    exact hother r1 x1 hne ho b hb2 rfl

end Go.Ab
