/- Lemmas: patterns and values in plain Lean. No condition. -/
import Derived.Test.YtofogicgnldfhaaPMa
import Derived.Test.YtofogicgnldfhaaA9
import Derived.Laws.Strings

section
/- Patterns as trees, and as abstract values; texts. No condition. -/
set_option linter.defProp false
set_option linter.unusedSimpArgs false
set_option linter.unusedVariables false
namespace Go.Proofs.Ytofogicgnldfhaa
open Go Go.Ab

inductive Pt where
  | mk (kind from_ to_ : Int) (name : ByteArray) (n : Int) (s : ByteArray) (kids : List Pt)
def Pt.kind : Pt → Int | .mk k _ _ _ _ _ _ => k
def Pt.fr : Pt → Int | .mk _ f _ _ _ _ _ => f
def Pt.to_ : Pt → Int | .mk _ _ t _ _ _ _ => t
def Pt.name : Pt → ByteArray | .mk _ _ _ m _ _ _ => m
def Pt.num : Pt → Int | .mk _ _ _ _ n _ _ => n
def Pt.str : Pt → ByteArray | .mk _ _ _ _ _ s _ => s
def Pt.kids : Pt → List Pt | .mk _ _ _ _ _ _ ks => ks
instance : Inhabited Pt := ⟨.mk 0 0 0 ByteArray.empty 0 ByteArray.empty []⟩
def Pt.kid (p : Pt) (i : Nat) : Pt := p.kids.getD i default
theorem Pt.eta (p : Pt) : Pt.mk p.kind p.fr p.to_ p.name p.num p.str p.kids = p := by cases p; rfl
theorem Pt.kind_mk (k f t : Int) (m : ByteArray) (n : Int) (s : ByteArray) (l : List Pt) : (Pt.mk k f t m n s l).kind = k := rfl
theorem Pt.fr_mk (k f t : Int) (m : ByteArray) (n : Int) (s : ByteArray) (l : List Pt) : (Pt.mk k f t m n s l).fr = f := rfl
theorem Pt.to_mk (k f t : Int) (m : ByteArray) (n : Int) (s : ByteArray) (l : List Pt) : (Pt.mk k f t m n s l).to_ = t := rfl
theorem Pt.name_mk (k f t : Int) (m : ByteArray) (n : Int) (s : ByteArray) (l : List Pt) : (Pt.mk k f t m n s l).name = m := rfl
theorem Pt.num_mk (k f t : Int) (m : ByteArray) (n : Int) (s : ByteArray) (l : List Pt) : (Pt.mk k f t m n s l).num = n := rfl
theorem Pt.str_mk (k f t : Int) (m : ByteArray) (n : Int) (s : ByteArray) (l : List Pt) : (Pt.mk k f t m n s l).str = s := rfl
theorem Pt.kids_mk (k f t : Int) (m : ByteArray) (n : Int) (s : ByteArray) (l : List Pt) : (Pt.mk k f t m n s l).kids = l := rfl

theorem Pt.ind {p : Pt → Prop} (h : ∀ t, (∀ x ∈ t.kids, p x) → p t) : ∀ t, p t := by
  intro t
  have key : ∀ (n : Nat) (t : Pt), SizeOf.sizeOf t ≤ n → p t := by
    intro n
    induction n with
    | zero => intro t hs; cases t; simp at hs
    | succ n ih =>
      rintro ⟨k, f, to_, m, nn, s, ks⟩ hs
      refine h _ fun x hx => ih x ?_
      have := List.sizeOf_lt_of_mem (show x ∈ ks from hx)
      simp only [Pt.mk.sizeOf_spec] at hs; omega
  exact key _ t (Nat.le_refl _)
theorem ptkid_mem {p : Pt} {i : Nat} (h : i < p.kids.length) : p.kid i ∈ p.kids := by simp [h, Pt.kid]

mutual
def embP : Pt → AV
  | .mk k f t m n s l => .agg [.int .i64 k, .int .i64 f, .int .i64 t, .str m, .int .i64 n, .str s, .sl (embPL l) .no]
def embPL : List Pt → List AV
  | [] => []
  | t :: l => embP t :: embPL l
end
theorem embPL_map : ∀ l : List Pt, embPL l = l.map embP
  | [] => rfl
  | t :: l => by simp [embPL, embPL_map l]
theorem embP_eq (t : Pt) : embP t = .agg [.int .i64 t.kind, .int .i64 t.fr, .int .i64 t.to_, .str t.name, .int .i64 t.num, .str t.str, .sl (t.kids.map embP) .no] := by
  cases t with | mk k f t m n s l => simp only [embP, embPL_map, Pt.kind, Pt.fr, Pt.to_, Pt.name, Pt.num, Pt.str, Pt.kids]
theorem embP_mkl (k f t : Int) (m : ByteArray) (n : Int) (s : ByteArray) (l : List Pt) : AV.agg [.int .i64 k, .int .i64 f, .int .i64 t, .str m, .int .i64 n, .str s, .sl (l.map embP) .no] = embP (.mk k f t m n s l) := by simp only [embP, embPL_map]
theorem embP_mk0 (k f t : Int) (m : ByteArray) (n : Int) (s : ByteArray) : AV.agg [.int .i64 k, .int .i64 f, .int .i64 t, .str m, .int .i64 n, .str s, .sl [] .no] = embP (.mk k f t m n s []) := embP_mkl k f t m n s []
theorem embP_mk1 (k f t : Int) (m : ByteArray) (n : Int) (s : ByteArray) (a : Pt) : AV.agg [.int .i64 k, .int .i64 f, .int .i64 t, .str m, .int .i64 n, .str s, .sl [embP a] .no] = embP (.mk k f t m n s [a]) := embP_mkl k f t m n s [a]
theorem embP_mk2 (k f t : Int) (m : ByteArray) (n : Int) (s : ByteArray) (a b : Pt) : AV.agg [.int .i64 k, .int .i64 f, .int .i64 t, .str m, .int .i64 n, .str s, .sl [embP a, embP b] .no] = embP (.mk k f t m n s [a, b]) := embP_mkl k f t m n s [a, b]
theorem embP_cells (t : Pt) : cellsOf (embP t) = [.int .i64 t.kind, .int .i64 t.fr, .int .i64 t.to_, .str t.name, .int .i64 t.num, .str t.str, .sl (t.kids.map embP) .no] := by rw [embP_eq]; rfl
theorem embP_solid (t : Pt) : (embP t).solid = true := by rw [embP_eq]; rfl
theorem all_embP7 (l : List Pt) : (∀ y, y ∈ l.map embP → (cellsOf y).length = 7) = True := by
  simp only [eq_iff_iff, iff_true]; intro y hy; obtain ⟨t, _, rfl⟩ := List.mem_map.1 hy; rw [embP_cells]; rfl
mutual
theorem embP_norm : ∀ t : Pt, (embP t).norm = embP t
  | .mk k f t m n s l => by simp only [embP, AV.norm, AV.normL, embPL_norm l]
theorem embPL_norm : ∀ l : List Pt, AV.normL (embPL l) = embPL l
  | [] => rfl
  | t :: l => by simp only [embPL, AV.normL, embP_norm t, embPL_norm l]
end
mutual
theorem embP_bel (m : Nat) : ∀ t : Pt, (embP t).bel m = true
  | .mk k f t mm n s l => by simp only [embP, AV.bel, AV.belL, embPL_bel m l, Bool.and_self]
theorem embPL_bel (m : Nat) : ∀ l : List Pt, AV.belL m (embPL l) = true
  | [] => rfl
  | t :: l => by simp only [embPL, AV.belL, embP_bel m t, embPL_bel m l, Bool.and_self]
end
theorem mapP_norm (l : List Pt) : AV.normL (l.map embP) = l.map embP := by rw [← embPL_map]; exact embPL_norm l
theorem mapP_bel (m : Nat) (l : List Pt) : AV.belL m (l.map embP) = true := by rw [← embPL_map]; exact embPL_bel m l
theorem mapP_kid {t : Pt} {i : Nat} (h : i < t.kids.length) : (t.kids.map embP).getD i .any = embP (t.kid i) := by simp [h, Pt.kid]
theorem embP_okay {t : Pt} (h : (embP t).okay) : t.kids.length ≤ maxLen ∧ t.name.size ≤ maxLen ∧ t.str.size ≤ maxLen ∧ ∀ x ∈ t.kids, (embP x).okay := by
  rw [embP_eq] at h
  simp only [AV.okay, AV.okayL, List.length_map, and_true] at h
  exact ⟨h.2.2.2.2.2.2.1, h.2.2.2.1, h.2.2.2.2.2.1, fun x hx => (okayL_iff _).1 h.2.2.2.2.2.2.2 _ (List.mem_map_of_mem hx)⟩

def W1Pd := And.intro @Pt.kind_mk (And.intro @Pt.fr_mk (And.intro @Pt.to_mk (And.intro @Pt.name_mk (And.intro @Pt.num_mk (And.intro @Pt.str_mk (And.intro @Pt.kids_mk (And.intro @all_embP7 (And.intro @embP_solid (And.intro @embP_cells (And.intro @embP_mk0 (And.intro @embP_mkl (And.intro @embP_mk1 (And.intro @embP_mk2 (And.intro @Pt.eta (And.intro @embP_norm (@mapP_norm))))))))))))))))
theorem W1P : type_of% W1Pd := W1Pd
def W2Pd := And.intro @embP_norm (And.intro @mapP_norm (And.intro @embP_mk0 (And.intro @embP_mkl (And.intro @embP_mk1 (And.intro @embP_mk2 (@Pt.eta))))))
theorem W2P : type_of% W2Pd := W2Pd

/-! Texts. -/
/-- The key words. -/
def keys : List (List UInt8) := [[108, 101, 116], [114, 101, 99], [105, 110], [102, 117, 110], [105, 102], [116, 104, 101, 110], [101, 108, 115, 101], [109, 97, 116, 99, 104], [119, 105, 116, 104], [101, 110, 100], [116, 114, 117, 101], [102, 97, 108, 115, 101], [105, 110, 116], [98, 111, 111, 108], [115, 116, 114, 105, 110, 103], [117, 110, 105, 116], [108, 105, 115, 116]]
def keyS (s : ByteArray) : Bool := keys.contains s.data.toList
def lowerB (c : Nat) : Bool := decide (97 ≤ c) && decide (c ≤ 122)
def innerB (c : Nat) : Bool := lowerB c || (decide (65 ≤ c) && decide (c ≤ 90)) || (decide (48 ≤ c) && decide (c ≤ 57)) || decide (c = 95) || decide (c = 39)
/-- A right name. -/
def nameS (s : ByteArray) : Bool := decide (1 ≤ s.size) && decide (s.size ≤ 32) && lowerB (byteAt s 0) && !keyS s && allN s.size fun i => i == 0 || innerB (byteAt s i)

/-- A pattern's own fields are right. -/
def okP (p : Pt) : Bool :=
  (if p.kind = 2 then nameS p.name else decide (p.name.data.toList = [])) && (if p.kind = 3 then true else if p.kind = 4 then decide (p.num = 0) || decide (p.num = 1) else decide (p.num = 0)) &&
  (if p.kind = 5 then decide (p.str.size ≤ 200) else decide (p.str.data.toList = [])) && decide ((p.kids.length : Int) = if p.kind = 7 ∨ p.kind = 9 then 2 else 0) && decide (1 ≤ p.kind) && decide (p.kind ≤ 9)

end Go.Proofs.Ytofogicgnldfhaa
end

section
/- Values as trees, and as abstract values. No condition. -/
set_option linter.defProp false
set_option linter.unusedSimpArgs false
set_option linter.unusedVariables false
namespace Go.Proofs.Ytofogicgnldfhaa
open Go Go.Ab

inductive Vl where
  | mk (kind n : Int) (s : ByteArray) (c : Co) (kids : List Vl)
def Vl.kind : Vl → Int | .mk k _ _ _ _ => k
def Vl.num : Vl → Int | .mk _ n _ _ _ => n
def Vl.str : Vl → ByteArray | .mk _ _ s _ _ => s
def Vl.co : Vl → Co | .mk _ _ _ c _ => c
def Vl.kids : Vl → List Vl | .mk _ _ _ _ ks => ks
abbrev noneC : Co := .mk 0 0 0 false []
instance : Inhabited Vl := ⟨.mk 0 0 ByteArray.empty noneC []⟩
abbrev noneV : Vl := .mk 0 0 ByteArray.empty noneC []
def Vl.kid (v : Vl) (i : Nat) : Vl := v.kids.getD i default
theorem Vl.eta (v : Vl) : Vl.mk v.kind v.num v.str v.co v.kids = v := by cases v; rfl
theorem Vl.kind_mk (k n : Int) (s : ByteArray) (c : Co) (l : List Vl) : (Vl.mk k n s c l).kind = k := rfl
theorem Vl.num_mk (k n : Int) (s : ByteArray) (c : Co) (l : List Vl) : (Vl.mk k n s c l).num = n := rfl
theorem Vl.str_mk (k n : Int) (s : ByteArray) (c : Co) (l : List Vl) : (Vl.mk k n s c l).str = s := rfl
theorem Vl.co_mk (k n : Int) (s : ByteArray) (c : Co) (l : List Vl) : (Vl.mk k n s c l).co = c := rfl
theorem Vl.kids_mk (k n : Int) (s : ByteArray) (c : Co) (l : List Vl) : (Vl.mk k n s c l).kids = l := rfl

theorem Vl.ind {p : Vl → Prop} (h : ∀ t, (∀ x ∈ t.kids, p x) → p t) : ∀ t, p t := by
  intro t
  have key : ∀ (n : Nat) (t : Vl), SizeOf.sizeOf t ≤ n → p t := by
    intro n
    induction n with
    | zero => intro t hs; cases t; simp at hs
    | succ n ih =>
      rintro ⟨k, m, s, c, ks⟩ hs
      refine h _ fun x hx => ih x ?_
      have := List.sizeOf_lt_of_mem (show x ∈ ks from hx)
      simp only [Vl.mk.sizeOf_spec] at hs; omega
  exact key _ t (Nat.le_refl _)
theorem vlkid_mem {v : Vl} {i : Nat} (h : i < v.kids.length) : v.kid i ∈ v.kids := by simp [h, Vl.kid]

/-- The cells of a value, its kids' apart. -/
def cellsV (k n : Int) (s : ByteArray) (c : Co) (l : AV) : List AV := [.int .i64 k, .int .i64 n, .str s, .int .i64 c.kind, .int .i64 c.head, .int .i64 c.label, .bool c.neg, .sl (c.kids.map embC) .no, l]
mutual
def embV : Vl → AV
  | .mk k n s c l => .agg (cellsV k n s c (.sl (embVL l) .no))
def embVL : List Vl → List AV
  | [] => []
  | t :: l => embV t :: embVL l
end
theorem embVL_map : ∀ l : List Vl, embVL l = l.map embV
  | [] => rfl
  | t :: l => by simp [embVL, embVL_map l]
theorem embV_eq (v : Vl) : embV v = .agg [.int .i64 v.kind, .int .i64 v.num, .str v.str, .int .i64 v.co.kind, .int .i64 v.co.head, .int .i64 v.co.label, .bool v.co.neg, .sl (v.co.kids.map embC) .no, .sl (v.kids.map embV) .no] := by
  cases v with | mk k n s c l => simp only [embV, cellsV, embVL_map, Vl.kind, Vl.num, Vl.str, Vl.co, Vl.kids]
theorem embV_mk (k n : Int) (s : ByteArray) (ck ch cl : Int) (cn : Bool) (cks : List Co) (l : List Vl) :
    AV.agg [.int .i64 k, .int .i64 n, .str s, .int .i64 ck, .int .i64 ch, .int .i64 cl, .bool cn, .sl (cks.map embC) .no, .sl (l.map embV) .no] = embV (.mk k n s (.mk ck ch cl cn cks) l) := by rw [embV_eq]; rfl
theorem embV_m0 (k n : Int) (s : ByteArray) (ck ch cl : Int) (cn : Bool) (cks : List Co) :
    AV.agg [.int .i64 k, .int .i64 n, .str s, .int .i64 ck, .int .i64 ch, .int .i64 cl, .bool cn, .sl (cks.map embC) .no, .sl [] .no] = embV (.mk k n s (.mk ck ch cl cn cks) []) := embV_mk k n s ck ch cl cn cks []
theorem embV_m2 (k n : Int) (s : ByteArray) (ck ch cl : Int) (cn : Bool) (cks : List Co) (a b : Vl) :
    AV.agg [.int .i64 k, .int .i64 n, .str s, .int .i64 ck, .int .i64 ch, .int .i64 cl, .bool cn, .sl (cks.map embC) .no, .sl [embV a, embV b] .no] = embV (.mk k n s (.mk ck ch cl cn cks) [a, b]) := embV_mk k n s ck ch cl cn cks [a, b]
theorem embV_0m (k n : Int) (s : ByteArray) (ck ch cl : Int) (cn : Bool) (l : List Vl) :
    AV.agg [.int .i64 k, .int .i64 n, .str s, .int .i64 ck, .int .i64 ch, .int .i64 cl, .bool cn, .sl [] .no, .sl (l.map embV) .no] = embV (.mk k n s (.mk ck ch cl cn []) l) := embV_mk k n s ck ch cl cn [] l
theorem embV_00 (k n : Int) (s : ByteArray) (ck ch cl : Int) (cn : Bool) :
    AV.agg [.int .i64 k, .int .i64 n, .str s, .int .i64 ck, .int .i64 ch, .int .i64 cl, .bool cn, .sl [] .no, .sl [] .no] = embV (.mk k n s (.mk ck ch cl cn []) []) := embV_mk k n s ck ch cl cn [] []
theorem embV_02 (k n : Int) (s : ByteArray) (ck ch cl : Int) (cn : Bool) (a b : Vl) :
    AV.agg [.int .i64 k, .int .i64 n, .str s, .int .i64 ck, .int .i64 ch, .int .i64 cl, .bool cn, .sl [] .no, .sl [embV a, embV b] .no] = embV (.mk k n s (.mk ck ch cl cn []) [a, b]) := embV_mk k n s ck ch cl cn [] [a, b]
theorem embV_1m (k n : Int) (s : ByteArray) (ck ch cl : Int) (cn : Bool) (x : Co) (l : List Vl) :
    AV.agg [.int .i64 k, .int .i64 n, .str s, .int .i64 ck, .int .i64 ch, .int .i64 cl, .bool cn, .sl [embC x] .no, .sl (l.map embV) .no] = embV (.mk k n s (.mk ck ch cl cn [x]) l) := embV_mk k n s ck ch cl cn [x] l
theorem embV_2m (k n : Int) (s : ByteArray) (ck ch cl : Int) (cn : Bool) (x y : Co) (l : List Vl) :
    AV.agg [.int .i64 k, .int .i64 n, .str s, .int .i64 ck, .int .i64 ch, .int .i64 cl, .bool cn, .sl [embC x, embC y] .no, .sl (l.map embV) .no] = embV (.mk k n s (.mk ck ch cl cn [x, y]) l) := embV_mk k n s ck ch cl cn [x, y] l
theorem embV_cells (v : Vl) : cellsOf (embV v) = [.int .i64 v.kind, .int .i64 v.num, .str v.str, .int .i64 v.co.kind, .int .i64 v.co.head, .int .i64 v.co.label, .bool v.co.neg, .sl (v.co.kids.map embC) .no, .sl (v.kids.map embV) .no] := by rw [embV_eq]; rfl
theorem embV_solid (v : Vl) : (embV v).solid = true := by rw [embV_eq]; rfl
theorem all_embV9 (l : List Vl) : (∀ y, y ∈ l.map embV → (cellsOf y).length = 9) = True := by
  simp only [eq_iff_iff, iff_true]; intro y hy; obtain ⟨t, _, rfl⟩ := List.mem_map.1 hy; rw [embV_cells]; rfl
mutual
theorem embV_norm : ∀ v : Vl, (embV v).norm = embV v
  | .mk k n s c l => by simp only [embV, cellsV, AV.norm, AV.normL, mapC_norm, embVL_norm l]
theorem embVL_norm : ∀ l : List Vl, AV.normL (embVL l) = embVL l
  | [] => rfl
  | t :: l => by simp only [embVL, AV.normL, embV_norm t, embVL_norm l]
end
mutual
theorem embV_bel (m : Nat) : ∀ v : Vl, (embV v).bel m = true
  | .mk k n s c l => by simp only [embV, cellsV, AV.bel, AV.belL, mapC_bel, embVL_bel m l, Bool.and_self]
theorem embVL_bel (m : Nat) : ∀ l : List Vl, AV.belL m (embVL l) = true
  | [] => rfl
  | t :: l => by simp only [embVL, AV.belL, embV_bel m t, embVL_bel m l, Bool.and_self]
end
theorem mapV_norm (l : List Vl) : AV.normL (l.map embV) = l.map embV := by rw [← embVL_map]; exact embVL_norm l
theorem mapV_bel (m : Nat) (l : List Vl) : AV.belL m (l.map embV) = true := by rw [← embVL_map]; exact embVL_bel m l
theorem mapV_kid {v : Vl} {i : Nat} (h : i < v.kids.length) : (v.kids.map embV).getD i .any = embV (v.kid i) := by simp [h, Vl.kid]
theorem mapV_get {l : List Vl} {i : Nat} (h : i < l.length) : (l.map embV).getD i .any = embV (l.getD i default) := by simp [h]
theorem embV_okay {v : Vl} (h : (embV v).okay) : v.kids.length ≤ maxLen ∧ v.str.size ≤ maxLen ∧ (∀ x ∈ v.kids, (embV x).okay) ∧ (embC v.co).okay := by
  rw [embV_eq] at h
  simp only [AV.okay, AV.okayL, List.length_map, and_true] at h
  refine ⟨h.2.2.2.2.2.2.2.2.1, h.2.2.1, fun x hx => (okayL_iff _).1 h.2.2.2.2.2.2.2.2.2 _ (List.mem_map_of_mem hx), ?_⟩
  rw [embC_eq]
  simp only [AV.okay, AV.okayL, List.length_map, and_true]
  exact ⟨h.2.2.2.1, h.2.2.2.2.1, h.2.2.2.2.2.1, trivial, h.2.2.2.2.2.2.2.1⟩

def W1Vd := And.intro @Vl.kind_mk (And.intro @Vl.num_mk (And.intro @Vl.str_mk (And.intro @Vl.co_mk (And.intro @Vl.kids_mk (And.intro @all_embV9 (And.intro @embV_solid (And.intro @embV_cells (And.intro @embV_mk (And.intro @embV_m0 (And.intro @embV_m2 (And.intro @embV_0m (And.intro @embV_00 (And.intro @embV_02 (And.intro @embV_1m (And.intro @embV_2m (And.intro @Vl.eta (And.intro @embV_norm (@mapV_norm))))))))))))))))))
theorem W1V : type_of% W1Vd := W1Vd
def W2Vd := And.intro @embV_norm (And.intro @mapV_norm (And.intro @embV_mk (And.intro @embV_m0 (And.intro @embV_m2 (And.intro @embV_0m (And.intro @embV_00 (And.intro @embV_02 (And.intro @embV_1m (And.intro @embV_2m (@Vl.eta))))))))))
theorem W2V : type_of% W2Vd := W2Vd

theorem bytes_ext {a b : ByteArray} (h : a.data.toList = b.data.toList) : a = b := by
  cases a; cases b; simp only [ByteArray.mk.injEq]; exact Array.toList_inj.1 h

/-! Plain functions. -/
def noneB (c : Co) : Bool := decide (c.kind = 0) && decide (c.head = 0) && decide (c.label = 0) && !c.neg && decide (c.kids.length = 0)
def headV (k : Int) : Int := if k = 1 then 1 else if k = 2 then 2 else if k = 3 then 3 else if k = 4 then 4 else if k = 5 then 7 else if k = 6 ∨ k = 7 then 8 else 9
/-- A value may have this coercion. -/
def aroundV (v : Vl) : Bool :=
  noneB v.co || (rightC v.co && (if v.co.kind = 5 then decide (v.co.head = headV v.kind) else if v.co.kind = 3 then decide (v.kind = 5) else if v.co.kind = 4 then decide (v.kind = 6) || decide (v.kind = 7) else if v.co.kind = 2 then decide (v.kind = 8) else false))
def restV (v : Vl) : Bool := (decide (v.kind = 6) || decide (v.kind = 7)) && decide (v.co.kind ≠ 5)
/-- A value's own fields. -/
def oneV (v : Vl) : Bool :=
  decide (1 ≤ v.kind) && decide (v.kind ≤ 8) && (if v.kind = 1 then true else if v.kind = 2 then decide (v.num = 0) || decide (v.num = 1) else if v.kind = 8 then decide (0 ≤ v.num) else decide (v.num = 0)) &&
  (if v.kind = 3 then decide (v.str.size ≤ 200) else decide (v.str.data.toList = [])) && decide ((v.kids.length : Int) = if v.kind = 5 ∨ v.kind = 7 then 2 else 0) && aroundV v
/-- With a list's rest. -/
def ownV (v : Vl) : Bool := oneV v && (if v.kind = 7 then restV (v.kid 1) else true)
mutual
def rightV : Vl → Bool
  | .mk k n s c l => ownV (.mk k n s c l) && rightVL l
def rightVL : List Vl → Bool
  | [] => true
  | t :: l => rightV t && rightVL l
end
theorem rightVL_all : ∀ l, rightVL l = allN l.length fun i => rightV (l.getD i default)
  | [] => rfl
  | t :: l => by rw [rightVL, List.length_cons, allN_succ, rightVL_all l]; rfl
theorem rightV_eq (v : Vl) : rightV v = (ownV v && allN v.kids.length fun i => rightV (v.kid i)) := by
  cases v with | mk k n s c l => rw [rightV, rightVL_all]; rfl
def bareN (v : Vl) : Bool := noneB v.co && (if v.kind = 8 then decide (v.num = 0) else true)
mutual
def bareV : Vl → Bool
  | .mk k n s c l => bareN (.mk k n s c l) && bareVL l
def bareVL : List Vl → Bool
  | [] => true
  | t :: l => bareV t && bareVL l
end
theorem bareVL_all : ∀ l, bareVL l = allN l.length fun i => bareV (l.getD i default)
  | [] => rfl
  | t :: l => by rw [bareVL, List.length_cons, allN_succ, bareVL_all l]; rfl
theorem bareV_eq (v : Vl) : bareV v = (bareN v && allN v.kids.length fun i => bareV (v.kid i)) := by
  cases v with | mk k n s c l => rw [bareV, bareVL_all]; rfl
def toldV (v : Vl) : Bool := rightV v && bareV v
def sameN (a b : Vl) : Bool := decide (a.kind = b.kind) && decide (a.num = b.num) && decide (a.str.data.toList = b.str.data.toList) && sameC a.co b.co
mutual
def sameV : Vl → Vl → Bool
  | .mk k n s c l, .mk k' n' s' c' l' => sameN (.mk k n s c l) (.mk k' n' s' c' l') && sameVL l l'
def sameVL : List Vl → List Vl → Bool
  | [], [] => true
  | a :: l, b :: l' => sameV a b && sameVL l l'
  | _, _ => false
end
theorem sameVL_all : ∀ l l', sameVL l l' = (decide (l.length = l'.length) && allN l.length fun i => sameV (l.getD i default) (l'.getD i default))
  | [], [] => rfl
  | [], _ :: _ => rfl
  | _ :: _, [] => rfl
  | a :: l, b :: l' => by
    rw [sameVL, List.length_cons, List.length_cons, allN_succ, sameVL_all l l']
    simp [Bool.and_left_comm]
theorem sameV_eq (a b : Vl) : sameV a b = (sameN a b && (decide (a.kids.length = b.kids.length) && allN a.kids.length fun i => sameV (a.kid i) (b.kid i))) := by
  cases a; cases b; rw [sameV, sameVL_all]; rfl
theorem sameV_true {a b : Vl} : sameV a b = true ↔ a = b := by
  induction a using Vl.ind generalizing b with
  | h a ih =>
    rw [sameV_eq]
    simp only [sameN, Bool.and_eq_true, decide_eq_true_eq, allN_iff, sameC_true]
    constructor
    · rintro ⟨⟨⟨⟨h1, h2⟩, h3⟩, h4⟩, h5, h6⟩
      obtain ⟨k, n, s, c, l⟩ := a
      obtain ⟨k', n', s', c', l'⟩ := b
      simp only [Vl.kind, Vl.num, Vl.str, Vl.co, Vl.kids] at h1 h2 h3 h4 h5
      have := bytes_ext h3
      subst h1 h2 this h4
      congr 1
      refine List.ext_getElem h5 fun i hi hi' => ?_
      have := h6 i hi
      rw [ih _ (vlkid_mem hi)] at this
      simpa [Vl.kid, Vl.kids, hi, hi'] using this
    · rintro rfl
      exact ⟨⟨⟨⟨rfl, rfl⟩, rfl⟩, rfl⟩, rfl, fun i hi => (ih _ (vlkid_mem hi)).2 rfl⟩

end Go.Proofs.Ytofogicgnldfhaa
end

