/- Types as trees, and as abstract values. No condition. -/
import Derived.Test.YtdngjamjccjlmaaTab
set_option linter.defProp false
namespace Go.Proofs.Ytdngjamjccjlmaa
open Go Go.Ab

inductive Ty where
  | mk (kind n : Int) (kids : List Ty)

def Ty.kind : Ty → Int | .mk k _ _ => k
def Ty.num : Ty → Int | .mk _ n _ => n
def Ty.kids : Ty → List Ty | .mk _ _ l => l

instance : Inhabited Ty := ⟨.mk 0 0 []⟩

theorem Ty.eta (t : Ty) : Ty.mk t.kind t.num t.kids = t := by cases t; rfl
theorem Ty.kind_mk (k n : Int) (l : List Ty) : (Ty.mk k n l).kind = k := rfl
theorem Ty.num_mk (k n : Int) (l : List Ty) : (Ty.mk k n l).num = n := rfl
theorem Ty.kids_mk (k n : Int) (l : List Ty) : (Ty.mk k n l).kids = l := rfl

mutual
def emb : Ty → AV
  | .mk k n l => .agg [.int .i64 k, .int .i64 n, .sl (embL l) .no]
def embL : List Ty → List AV
  | [] => []
  | t :: l => emb t :: embL l
end

theorem embL_map : ∀ l : List Ty, embL l = l.map emb
  | [] => rfl
  | t :: l => by simp [embL, embL_map l]

theorem emb_eq (t : Ty) : emb t = .agg [.int .i64 t.kind, .int .i64 t.num, .sl (t.kids.map emb) .no] := by
  cases t with | mk k n l => simp only [emb, embL_map, Ty.kind, Ty.num, Ty.kids]

theorem emb_mkl (k n : Int) (l : List Ty) : AV.agg [.int .i64 k, .int .i64 n, .sl (l.map emb) .no] = emb (.mk k n l) := by simp only [emb, embL_map]
theorem emb_mk0 (k n : Int) : AV.agg [.int .i64 k, .int .i64 n, .sl [] .no] = emb (.mk k n []) := emb_mkl k n []
theorem emb_mk1 (k n : Int) (a : Ty) : AV.agg [.int .i64 k, .int .i64 n, .sl [emb a] .no] = emb (.mk k n [a]) := emb_mkl k n [a]
theorem emb_mk2 (k n : Int) (a b : Ty) : AV.agg [.int .i64 k, .int .i64 n, .sl [emb a, emb b] .no] = emb (.mk k n [a, b]) := emb_mkl k n [a, b]

theorem emb_cells (t : Ty) : cellsOf (emb t) = [.int .i64 t.kind, .int .i64 t.num, .sl (t.kids.map emb) .no] := by rw [emb_eq]; rfl
theorem emb_solid (t : Ty) : (emb t).solid = true := by rw [emb_eq]; rfl

theorem all_emb3 (l : List Ty) : (∀ y, y ∈ l.map emb → (cellsOf y).length = 3) = True := by
  simp only [eq_iff_iff, iff_true]; intro y hy; obtain ⟨t, _, rfl⟩ := List.mem_map.1 hy; rw [emb_cells]; rfl

mutual
theorem emb_norm : ∀ t : Ty, (emb t).norm = emb t
  | .mk k n l => by simp only [emb, AV.norm, AV.normL, embL_norm l]
theorem embL_norm : ∀ l : List Ty, AV.normL (embL l) = embL l
  | [] => rfl
  | t :: l => by simp only [embL, AV.normL, emb_norm t, embL_norm l]
end
mutual
theorem emb_bel (m : Nat) : ∀ t : Ty, (emb t).bel m = true
  | .mk k n l => by simp only [emb, AV.bel, AV.belL, embL_bel m l, Bool.and_self]
theorem embL_bel (m : Nat) : ∀ l : List Ty, AV.belL m (embL l) = true
  | [] => rfl
  | t :: l => by simp only [embL, AV.belL, emb_bel m t, embL_bel m l, Bool.and_self]
end
theorem map_norm (l : List Ty) : AV.normL (l.map emb) = l.map emb := by rw [← embL_map]; exact embL_norm l
theorem map_bel (m : Nat) (l : List Ty) : AV.belL m (l.map emb) = true := by rw [← embL_map]; exact embL_bel m l
theorem emb_okay {t : Ty} (h : (emb t).okay) : t.kids.length ≤ maxLen ∧ IntKind.min .i64 ≤ t.kind ∧ t.kind ≤ IntKind.max .i64 ∧ IntKind.min .i64 ≤ t.num ∧ t.num ≤ IntKind.max .i64 ∧ ∀ x ∈ t.kids, (emb x).okay := by
  rw [emb_eq] at h
  simp only [AV.okay, AV.okayL, List.length_map, and_true] at h
  exact ⟨h.2.2.1, h.1.1, h.1.2, h.2.1.1, h.2.1.2, fun x hx => (okayL_iff _).1 h.2.2.2 _ (List.mem_map_of_mem hx)⟩

def W1d := cjI @ty_2 (cjI @ty_3 (cjI @ty_4 (cjI @ty_5 (cjI @ty_9 (cjI @ty_12 (cjI @ty_13 (cjI @ty_19 (cjI @ty_21 (cjI @ty_22 (cjI @ty_23 (cjI @ty_24 (cjI @ty_27 (cjI @ty_29 (cjI @ty_30 (cjI @ty_33 (cjI @ty_56 (cjI @ty_57 (cjI @ty_58 (cjI @ty_61 (cjI @ty_67 (cjI @ty_68 (cjI @ty_69 (cjI @ty_70 (cjI @ty_71 (cjI @ty_72 (cjI @ty_78 (cjI @ty_86 (cjI @ty_87 (cjI @ty_88 (cjI @ty_89 (cjI @ty_90 (cjI @ty_94 (cjI @ty_98 (cjI @ty_106 (cjI @ty_107 (cjI @ty_110 (cjI @ty_111 (cjI @ty_114 (cjI @ty_115 (cjI @ty_116 (cjI @ty_117 (cjI @ty_118 (cjI @ty_124 (cjI @ty_126 (cjI @ty_127 (cjI @ty_128 (cjI @ty_129 (cjI @ty_131 (cjI @ty_132 (cjI @ty_133 (cjI @ty_135 (cjI @ty_136 (cjI @ty_138 (cjI @ty_139 (cjI @ty_140 (cjI @ty_141 (cjI @ty_142 (cjI @ty_143 (cjI @ty_144 (cjI @ty_145 (cjI @ty_149 (cjI @ty_150 (cjI @ty_154 (cjI @ty_155 (cjI @ty_156 (cjI @ty_161 (cjI @ty_162 (cjI @ty_163 (cjI @ty_173 (cjI @ty_176 (cjI @ty_192 (cjI @ty_196 (cjI @inpl_C (cjI @Ty.kind_mk (cjI @Ty.num_mk (cjI @Ty.kids_mk (cjI @all_emb3 (cjI @emb_solid (cjI @emb_cells (cjI @emb_mk0 (cjI @emb_mkl (cjI @emb_mk1 (cjI @emb_mk2 (cjI @Ty.eta (cjI @emb_norm (cjI @map_norm (@List.length_map.{0, 0})))))))))))))))))))))))))))))))))))))))))))))))))))))))))))))))))))))))))))))))))))))))
theorem W1 : type_of% W1d := W1d

def W2d := cjI @emb_norm (cjI @map_norm (cjI @emb_mk0 (cjI @emb_mkl (cjI @emb_mk1 (cjI @emb_mk2 (@Ty.eta))))))
theorem W2 : type_of% W2d := W2d


end Go.Proofs.Ytdngjamjccjlmaa
