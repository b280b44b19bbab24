/- Plain functions of the laws of layers 3 and 9, and what they keep. No condition. -/
import Derived.Test.YtcpfjabjonpdaaaM3
set_option linter.unusedSimpArgs false
set_option linter.unusedVariables false
namespace Go.Proofs.Ytcpfjabjonpdaaa
open Go Go.Ab

mutual
def fillT : Ty → Ty → Ty
  | .mk k n l, b => if k = 5 then b else .mk k n (if k = b.kind then fillL l b.kids else l)
def fillL : List Ty → List Ty → List Ty
  | [], _ => []
  | a :: l, m => fillT a (m.getD 0 default) :: fillL l (m.drop 1)
end
theorem fillL_get : ∀ l m, fillL l m = (List.range l.length).map fun i => fillT (l.getD i default) (m.getD i default)
  | [], _ => rfl
  | a :: l, m => by
    rw [fillL, List.length_cons, List.range_succ_eq_map, List.map_cons, List.map_map, fillL_get l (m.drop 1)]
    congr 1
    refine List.map_congr_left fun i _ => ?_
    simp [List.getD_eq_getElem?_getD]
theorem fillT_eq (a b : Ty) : fillT a b = if a.kind = 5 then b else .mk a.kind a.num (if a.kind = b.kind then (List.range a.kids.length).map fun i => fillT (a.kid i) (b.kid i) else a.kids) := by
  cases a with | mk k n l => rw [fillT, fillL_get]; rfl

mutual
def putT (v : Int) : Ty → Ty
  | .mk k n l => .mk (if k = 5 then 6 else k) (if k = 5 then v else n) (putL v l)
def putL (v : Int) : List Ty → List Ty
  | [] => []
  | a :: l => putT v a :: putL v l
end
theorem putL_map (v : Int) : ∀ l, putL v l = l.map (putT v)
  | [] => rfl
  | a :: l => by rw [putL, putL_map v l]; rfl
theorem putT_eq (v : Int) (t : Ty) : putT v t = .mk (if t.kind = 5 then 6 else t.kind) (if t.kind = 5 then v else t.num) (t.kids.map (putT v)) := by
  cases t with | mk k n l => rw [putT, putL_map]; rfl

mutual
def lessT : Ty → List Bool → Ty × List Bool
  | .mk k n kids, l => if l.head? = some true then (dynT, l.tail) else (.mk k n (lessL kids l.tail).1, (lessL kids l.tail).2)
def lessL : List Ty → List Bool → List Ty × List Bool
  | [], l => ([], l)
  | a :: ks, l => ((lessT a l).1 :: (lessL ks (lessT a l).2).1, (lessL ks (lessT a l).2).2)
end

/-! What Less keeps. -/
theorem fillT_right : ∀ {a b : Ty}, right a = true → right b = true → right (fillT a b) = true ∧ below (fillT a b) a = true := by
  intro a
  refine Ty.ind (p := fun a => ∀ {b : Ty}, right a = true → right b = true → right (fillT a b) = true ∧ below (fillT a b) a = true) (fun a ih b ha hb => ?_) a
  rw [fillT_eq]
  by_cases h5 : a.kind = 5
  · simp only [h5, if_true]; exact ⟨hb, below_dyn _ h5⟩
  · simp only [h5, if_false]
    by_cases hk : a.kind = b.kind
    · have e1 := right_len ha hb hk
      simp only [hk, if_true]
      have key : ∀ i, i < a.kids.length → right (fillT (a.kid i) (b.kid i)) = true ∧ below (fillT (a.kid i) (b.kid i)) (a.kid i) = true := fun i hi => ih _ (kidmem hi) (right_kid ha hi) (right_kid hb (by omega))
      refine ⟨right_mk (okN_of (a := a) hk.symm rfl (mk_len _ _ _ _) (right_okN ha)) fun i hi => ?_, below_iff.2 (.inr ⟨h5, hk.symm, rfl, fun i hi => ?_⟩)⟩
      · rw [mk_len] at hi; rw [mk_kid _ _ _ _ hi]; exact (key i hi).1
      · rw [mk_len] at hi; rw [mk_kid _ _ _ _ hi]; exact (key i hi).2
    · simp only [hk, if_false, Ty.eta]
      exact ⟨ha, below_refl a⟩

/-- Closed types agree just if the first one, filled, is below the second one. -/
theorem fillT_agree : ∀ {a b : Ty}, right a = true → right b = true → without 6 a = true → without 6 b = true → agree a b = below (fillT a b) b := by
  intro a
  refine Ty.ind (p := fun a => ∀ {b : Ty}, right a = true → right b = true → without 6 a = true → without 6 b = true → agree a b = below (fillT a b) b) (fun a ih b ha hb wa wb => ?_) a
  rw [fillT_eq]
  by_cases h5 : a.kind = 5
  · simp only [h5, if_true]; rw [below_refl, agree_iff.2 (.inl ⟨h5, wb⟩)]
  · simp only [h5, if_false]
    by_cases hb5 : b.kind = 5
    · rw [below_dyn _ hb5, agree_iff.2 (.inr (.inl ⟨h5, hb5, wa⟩))]
    · by_cases hk : a.kind = b.kind
      · have e1 := right_len ha hb hk
        simp only [hk, if_true]
        have ha6 := without_kind wa
        have hn : a.num = b.num := by rw [right_num ha ha6, right_num hb (hk ▸ ha6)]
        have key : ∀ i, i < a.kids.length → agree (a.kid i) (b.kid i) = below (fillT (a.kid i) (b.kid i)) (b.kid i) := fun i hi => ih _ (kidmem hi) (right_kid ha hi) (right_kid hb (by omega)) (without_kid wa hi) (without_kid wb (by omega))
        rw [Bool.eq_iff_iff, agree_iff, below_iff]
        constructor
        · rintro (⟨h, _⟩ | ⟨_, h, _⟩ | ⟨_, _, _, _, h⟩)
          · exact absurd h h5
          · exact absurd h hb5
          · refine .inr ⟨hb5, rfl, hn, fun i hi => ?_⟩
            rw [mk_len] at hi; rw [mk_kid _ _ _ _ hi, ← key i hi]; exact h i hi
        · rintro (h | ⟨_, _, _, h⟩)
          · exact absurd h hb5
          · refine .inr (.inr ⟨h5, hb5, hk, hn, fun i hi => ?_⟩)
            have := h i (by rw [mk_len]; exact hi)
            rw [mk_kid _ _ _ _ hi, ← key i hi] at this; exact this
      · simp only [hk, if_false, Ty.eta]
        rw [Bool.eq_iff_iff, agree_iff, below_iff]
        constructor
        · rintro (⟨h, _⟩ | ⟨_, h, _⟩ | ⟨_, _, h, _⟩)
          · exact absurd h h5
          · exact absurd h hb5
          · exact absurd h hk
        · rintro (h | ⟨_, h, _⟩)
          · exact absurd h hb5
          · exact absurd h hk

mutual
theorem lessT_keep : ∀ (t : Ty) (l : List Bool), right t = true → right (lessT t l).1 = true ∧ below t (lessT t l).1 = true ∧ nodes (lessT t l).1 ≤ nodes t
  | .mk k n kids, l, h => by
    rw [lessT]
    split
    · exact ⟨rfl, below_dyn _ rfl, nodes_pos _⟩
    · have hr : rightL kids = true := by rw [right, Bool.and_eq_true] at h; exact h.2
      obtain ⟨h1, h2, h3, h4⟩ := lessL_keep kids l.tail hr
      have hok := right_okN h
      refine ⟨?_, ?_, ?_⟩
      · rw [right, Bool.and_eq_true]; exact ⟨okN_of (a := .mk k n kids) rfl rfl h2 hok, h1⟩
      · refine below_iff.2 ?_
        by_cases h5 : k = 5
        · exact .inl h5
        · refine .inr ⟨h5, rfl, rfl, fun i hi => h3 i hi⟩
      · simp only [nodes_eq, Ty.kids]; omega
theorem lessL_keep : ∀ (ks : List Ty) (l : List Bool), rightL ks = true → rightL (lessL ks l).1 = true ∧ (lessL ks l).1.length = ks.length ∧ (∀ i, i < ks.length → below (ks.getD i default) ((lessL ks l).1.getD i default) = true) ∧ nodesL (lessL ks l).1 ≤ nodesL ks
  | [], l, _ => ⟨rfl, rfl, fun i hi => absurd hi (by simp), Nat.le_refl _⟩
  | a :: ks, l, h => by
    rw [rightL, Bool.and_eq_true] at h
    obtain ⟨h1, h2, h3⟩ := lessT_keep a l h.1
    obtain ⟨g1, g2, g3, g4⟩ := lessL_keep ks (lessT a l).2 h.2
    rw [lessL]
    refine ⟨by rw [rightL, h1, g1]; rfl, by simp [g2], fun i hi => ?_, by simp only [nodesL]; omega⟩
    cases i with
    | zero => exact h2
    | succ i => exact g3 i (by simpa using hi)
end

end Go.Proofs.Ytcpfjabjonpdaaa
