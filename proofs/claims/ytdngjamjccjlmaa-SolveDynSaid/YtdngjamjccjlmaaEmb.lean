/- Types as trees, and as abstract values. No condition. -/
import Derived.Test.YtdngjamjccjlmaaTab
set_option linter.defProp false
namespace Go.Proofs.Ytdngjamjccjlmaa
open Go Go.Ab

inductive Ty where
  | mk (kind n : Int) (kids : List Ty)

def Ty.kind : Ty → Int | .mk k _ _ => k
def Ty.num : Ty → Int | .mk _ n _ => n
def Ty.kids : Ty → List Ty | .mk _ _ l => l

instance : Inhabited Ty := ⟨.mk 0 0 []⟩

theorem Ty.eta (t : Ty) : Ty.mk t.kind t.num t.kids = t := by cases t; rfl
theorem Ty.kind_mk (k n : Int) (l : List Ty) : (Ty.mk k n l).kind = k := rfl
theorem Ty.num_mk (k n : Int) (l : List Ty) : (Ty.mk k n l).num = n := rfl
theorem Ty.kids_mk (k n : Int) (l : List Ty) : (Ty.mk k n l).kids = l := rfl

mutual
def emb : Ty → AV
  | .mk k n l => .agg [.int .i64 k, .int .i64 n, .sl (embL l) .no]
def embL : List Ty → List AV
  | [] => []
  | t :: l => emb t :: embL l
end

theorem embL_map : ∀ l : List Ty, embL l = l.map emb
  | [] => rfl
  | t :: l => by simp [embL, embL_map l]

theorem emb_eq (t : Ty) : emb t = .agg [.int .i64 t.kind, .int .i64 t.num, .sl (t.kids.map emb) .no] := by
  cases t with | mk k n l => simp only [emb, embL_map, Ty.kind, Ty.num, Ty.kids]

theorem emb_mkl (k n : Int) (l : List Ty) : AV.agg [.int .i64 k, .int .i64 n, .sl (l.map emb) .no] = emb (.mk k n l) := by simp only [emb, embL_map]
theorem emb_mk0 (k n : Int) : AV.agg [.int .i64 k, .int .i64 n, .sl [] .no] = emb (.mk k n []) := emb_mkl k n []
theorem emb_mk1 (k n : Int) (a : Ty) : AV.agg [.int .i64 k, .int .i64 n, .sl [emb a] .no] = emb (.mk k n [a]) := emb_mkl k n [a]
theorem emb_mk2 (k n : Int) (a b : Ty) : AV.agg [.int .i64 k, .int .i64 n, .sl [emb a, emb b] .no] = emb (.mk k n [a, b]) := emb_mkl k n [a, b]

theorem emb_cells (t : Ty) : cellsOf (emb t) = [.int .i64 t.kind, .int .i64 t.num, .sl (t.kids.map emb) .no] := by rw [emb_eq]; rfl
theorem emb_solid (t : Ty) : (emb t).solid = true := by rw [emb_eq]; rfl

theorem all_emb3 (l : List Ty) : (∀ y, y ∈ l.map emb → (cellsOf y).length = 3) = True := by
  simp only [eq_iff_iff, iff_true]; intro y hy; obtain ⟨t, _, rfl⟩ := List.mem_map.1 hy; rw [emb_cells]; rfl

mutual
theorem emb_norm : ∀ t : Ty, (emb t).norm = emb t
  | .mk k n l => by simp only [emb, AV.norm, AV.normL, embL_norm l]
theorem embL_norm : ∀ l : List Ty, AV.normL (embL l) = embL l
  | [] => rfl
  | t :: l => by simp only [embL, AV.normL, emb_norm t, embL_norm l]
end
mutual
theorem emb_bel (m : Nat) : ∀ t : Ty, (emb t).bel m = true
  | .mk k n l => by simp only [emb, AV.bel, AV.belL, embL_bel m l, Bool.and_self]
theorem embL_bel (m : Nat) : ∀ l : List Ty, AV.belL m (embL l) = true
  | [] => rfl
  | t :: l => by simp only [embL, AV.belL, emb_bel m t, embL_bel m l, Bool.and_self]
end
theorem map_norm (l : List Ty) : AV.normL (l.map emb) = l.map emb := by rw [← embL_map]; exact embL_norm l
theorem map_bel (m : Nat) (l : List Ty) : AV.belL m (l.map emb) = true := by rw [← embL_map]; exact embL_bel m l
/-- What is known of a type that the model holds. -/
theorem emb_okay {t : Ty} (h : (emb t).okay) : t.kids.length ≤ maxLen ∧ IntKind.min .i64 ≤ t.kind ∧ t.kind ≤ IntKind.max .i64 ∧ IntKind.min .i64 ≤ t.num ∧ t.num ≤ IntKind.max .i64 ∧ ∀ x ∈ t.kids, (emb x).okay := by
  rw [emb_eq] at h
  simp only [AV.okay, AV.okayL, List.length_map, and_true] at h
  exact ⟨h.2.2.1, h.1.1, h.1.2, h.2.1.1, h.2.1.2, fun x hx => (okayL_iff _).1 h.2.2.2 _ (List.mem_map_of_mem hx)⟩

def W1d := And.intro @ty_2 (And.intro @ty_3 (And.intro @ty_4 (And.intro @ty_5 (And.intro @ty_9 (And.intro @ty_12 (And.intro @ty_13 (And.intro @ty_19 (And.intro @ty_21 (And.intro @ty_22 (And.intro @ty_23 (And.intro @ty_24 (And.intro @ty_27 (And.intro @ty_29 (And.intro @ty_30 (And.intro @ty_33 (And.intro @ty_56 (And.intro @ty_57 (And.intro @ty_58 (And.intro @ty_61 (And.intro @ty_67 (And.intro @ty_68 (And.intro @ty_69 (And.intro @ty_70 (And.intro @ty_71 (And.intro @ty_72 (And.intro @ty_78 (And.intro @ty_86 (And.intro @ty_87 (And.intro @ty_88 (And.intro @ty_89 (And.intro @ty_90 (And.intro @ty_94 (And.intro @ty_98 (And.intro @ty_106 (And.intro @ty_107 (And.intro @ty_110 (And.intro @ty_111 (And.intro @ty_114 (And.intro @ty_115 (And.intro @ty_116 (And.intro @ty_117 (And.intro @ty_118 (And.intro @ty_124 (And.intro @ty_126 (And.intro @ty_127 (And.intro @ty_128 (And.intro @ty_129 (And.intro @ty_131 (And.intro @ty_132 (And.intro @ty_133 (And.intro @ty_135 (And.intro @ty_136 (And.intro @ty_138 (And.intro @ty_139 (And.intro @ty_140 (And.intro @ty_141 (And.intro @ty_142 (And.intro @ty_143 (And.intro @ty_144 (And.intro @ty_145 (And.intro @ty_149 (And.intro @ty_150 (And.intro @ty_154 (And.intro @ty_155 (And.intro @ty_156 (And.intro @ty_161 (And.intro @ty_162 (And.intro @ty_163 (And.intro @ty_173 (And.intro @ty_176 (And.intro @ty_192 (And.intro @ty_196 (And.intro @inpl_C (And.intro @Ty.kind_mk (And.intro @Ty.num_mk (And.intro @Ty.kids_mk (And.intro @all_emb3 (And.intro @emb_solid (And.intro @emb_cells (And.intro @emb_mk0 (And.intro @emb_mkl (And.intro @emb_mk1 (And.intro @emb_mk2 (And.intro @Ty.eta (And.intro @emb_norm (And.intro @map_norm (@List.length_map.{0, 0})))))))))))))))))))))))))))))))))))))))))))))))))))))))))))))))))))))))))))))))))))))))
theorem W1 : type_of% W1d := W1d

def W2d := And.intro @emb_norm (And.intro @map_norm (And.intro @emb_mk0 (And.intro @emb_mkl (And.intro @emb_mk1 (And.intro @emb_mk2 (@Ty.eta))))))
theorem W2 : type_of% W2d := W2d


end Go.Proofs.Ytdngjamjccjlmaa
