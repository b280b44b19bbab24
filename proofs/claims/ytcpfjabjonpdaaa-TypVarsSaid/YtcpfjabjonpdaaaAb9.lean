/- The executor's operations run as the model's do: one theorem an operation. Condition: the executor's table of types is the program's. -/
import Derived.Test.YtcpfjabjonpdaaaAb8
set_option linter.unusedSimpArgs false
namespace Go.Ab
open Go.RowKit (Below)

/-! Filling a row. -/

theorem foldSet_get (l : List Value) : ∀ (k off : Nat) (cells : Array Value), off + k + l.length ≤ cells.size →
    ((l.zipIdx k).foldl (fun cs (x : Value × Nat) => cs.setIfInBounds (off + x.2) x.1) cells).size = cells.size ∧
    ∀ q, ((l.zipIdx k).foldl (fun cs (x : Value × Nat) => cs.setIfInBounds (off + x.2) x.1) cells)[q]? = if off + k ≤ q ∧ q < off + k + l.length then l[q - (off + k)]? else cells[q]? := by
  induction l with
  | nil => intro k off cells _; exact ⟨rfl, fun q => by rw [if_neg (by simp only [List.length_nil]; omega)]; rfl⟩
  | cons v l ih =>
    intro k off cells h
    simp only [List.length_cons] at h
    obtain ⟨h1, h2⟩ := ih (k + 1) off (cells.setIfInBounds (off + k) v) (by simp; omega)
    refine ⟨by simp only [List.zipIdx_cons, List.foldl_cons]; rw [h1]; simp, fun q => ?_⟩
    simp only [List.zipIdx_cons, List.foldl_cons]
    rw [h2 q]
    simp only [List.length_cons]
    by_cases e1 : q = off + k
    · subst e1
      rw [if_neg (by omega), if_pos (by omega), Array.getElem?_setIfInBounds_self, if_pos (by omega)]
      simp
    · by_cases e2 : off + (k + 1) ≤ q ∧ q < off + (k + 1) + l.length
      · rw [if_pos e2, if_pos (by omega), show q - (off + k) = (q - (off + (k + 1))) + 1 by omega]
        simp
      · rw [if_neg e2, if_neg (by omega), Array.getElem?_setIfInBounds_ne (Ne.symm e1)]

theorem zipIdx_foldl (v : Value) (off : Nat) (cells : Array Value) :
    v.cells.zipIdx.foldl (fun cs (x : Value × Nat) => cs.setIfInBounds (off + x.2) x.1) cells = (v.cells.toList.zipIdx 0).foldl (fun cs (x : Value × Nat) => cs.setIfInBounds (off + x.2) x.1) cells := by
  rw [← Array.foldl_toList]
  congr 1
  simp

section
variable {P : Program} {C : Cfg} {V : View} {w : World} {s : AState} {a : Act} {o : Oper}

theorem fill_sound {place : Nat → Option (Nat × Nat)} : ∀ (ps : List (Nat × AV)) (vs : List (Nat × Value)) (cells : Array Value) (as : List AV) {c : Prop} {out : List AV},
    vs.length = ps.length → (∀ (k : Nat) p v, ps[k]? = some p → vs[k]? = some v → v.1 = p.1 ∧ Rep V v.2 p.2) → RepL V cells.toList as → fillA place ps as = some (c, out) → c →
    ∃ r, Instr.fill place cells vs = some r ∧ RepL V r.toList out
  | [], vs, cells, as, c, out, hl, _, hr, h, _ => by
    have : vs = [] := List.eq_nil_of_length_eq_zero (by simpa using hl)
    subst this
    simp only [fillA, Option.some.injEq, Prod.mk.injEq] at h
    obtain ⟨_, rfl⟩ := h
    exact ⟨cells, rfl, hr⟩
  | (i, x) :: ps, vs, cells, as, c, out, hl, hp, hr, h, hc => by
    cases vs with
    | nil => simp at hl
    | cons v vs =>
      obtain ⟨i', v⟩ := v
      obtain ⟨hi, hv⟩ := hp 0 _ _ rfl rfl
      simp only at hi hv
      subst hi
      simp only [fillA] at h
      cases hpl : place i' with
      | none => rw [hpl] at h; simp at h
      | some z =>
        obtain ⟨off, size⟩ := z
        simp only [hpl] at h
        cases hrest : fillA place ps (setRange as off (cellsOf x)) with
        | none => rw [hrest] at h; simp at h
        | some y =>
          obtain ⟨c', out'⟩ := y
          simp only [hrest, Option.some.injEq, Prod.mk.injEq] at h
          obtain ⟨hce, rfl⟩ := h
          rw [← hce] at hc
          obtain ⟨⟨h1, h2, h3⟩, h4⟩ := hc
          have hvc := hv.cellsL h1
          have hlen : cells.size = as.length := by simpa using hr.1
          have hvl : v.cells.size = size := by rw [← h2, ← hvc.1]; simp
          obtain ⟨g1, g2⟩ := foldSet_get v.cells.toList 0 off cells (by simp; omega)
          have hnew : RepL V ((v.cells.toList.zipIdx 0).foldl (fun cs (x : Value × Nat) => cs.setIfInBounds (off + x.2) x.1) cells).toList (setRange as off (cellsOf x)) := by
            refine RepL.of_get (by rw [setRange_length]; simp only [Array.length_toList]; rw [g1]; exact hlen) fun k u b hu hb => ?_
            rw [Array.getElem?_toList, g2 k] at hu
            rw [setRange_get _ _ _ _ (by omega)] at hb
            simp only [Nat.add_zero, Array.length_toList] at hu
            by_cases e1 : off ≤ k ∧ k < off + v.cells.size
            · rw [if_pos e1] at hu
              rw [if_neg (by omega), if_pos (by omega)] at hb
              exact hvc.get hu hb
            · rw [if_neg e1] at hu
              have hb' : as[k]? = some b := by
                by_cases e2 : k < off
                · rw [if_pos e2] at hb; exact hb
                · rw [if_neg e2, if_neg (by omega)] at hb; exact hb
              exact hr.get (by rw [Array.getElem?_toList]; exact hu) hb'
          obtain ⟨r, hr1, hr2⟩ := fill_sound ps vs _ _ (by simpa using hl) (fun k p v hp1 hv1 => hp (k + 1) p v (by simpa using hp1) (by simpa using hv1)) hnew hrest h4
          refine ⟨r, ?_, hr2⟩
          simp only [Instr.fill, hpl]
          rw [if_neg (by simp; omega)]
          rw [zipIdx_foldl]
          exact hr1

theorem fillE_length {size : Nat} : ∀ (ps : List (Nat × AV)) (es : List AV), (fillE size ps es).2.length = es.length
  | [], es => rfl
  | (i, v) :: ps, es => by simp only [fillE]; rw [fillE_length ps]; simp

theorem fillE_sound {size : Nat} : ∀ (ps : List (Nat × AV)) (vs : List (Nat × Value)) (cells : Array Value) (es : List AV),
    vs.length = ps.length → (∀ (k : Nat) p v, ps[k]? = some p → vs[k]? = some v → v.1 = p.1 ∧ Rep V v.2 p.2) → RepE V size cells.toList es → cells.size = es.length * size → (fillE size ps es).1 →
    ∃ r, Instr.fill (fun i => some (i * size, size)) cells vs = some r ∧ RepE V size r.toList (fillE size ps es).2 ∧ r.size = cells.size
  | [], vs, cells, es, hl, _, hr, _, _ => by
    have : vs = [] := List.eq_nil_of_length_eq_zero (by simpa using hl)
    subst this
    exact ⟨cells, rfl, hr, rfl⟩
  | (i, x) :: ps, vs, cells, es, hl, hp, hr, hsz, hc => by
    cases vs with
    | nil => simp at hl
    | cons v vs =>
      obtain ⟨i', v⟩ := v
      obtain ⟨hi, hv⟩ := hp 0 _ _ rfl rfl
      simp only at hi hv
      subst hi
      simp only [fillE] at hc ⊢
      obtain ⟨⟨h1, h2, h3⟩, h4⟩ := hc
      have hvc := hv.cellsL h1
      have hvl : v.cells.size = size := by rw [← h2, ← hvc.1]; simp
      have hfit : i' * size + size ≤ cells.size := by
        rw [hsz]
        have : (i' + 1) * size ≤ es.length * size := Nat.mul_le_mul_right _ h3
        rwa [Nat.succ_mul] at this
      obtain ⟨g1, g2⟩ := foldSet_get v.cells.toList 0 (i' * size) cells (by simp; omega)
      have hnew : RepE V size ((v.cells.toList.zipIdx 0).foldl (fun cs (x : Value × Nat) => cs.setIfInBounds (i' * size + x.2) x.1) cells).toList (es.set i' x) := by
        refine ⟨fun q hq => ?_, fun q j hq hj => ?_⟩
        · simp only [List.length_set] at hq
          by_cases e : q = i'
          · subst e; simp [List.getD_eq_getElem?_getD, hq, h2]
          · have := hr.1 q hq
            simpa [List.getD_eq_getElem?_getD, List.getElem?_set, Ne.symm e] using this
        · simp only [List.length_set] at hq
          have hg := g2 (q * size + j)
          simp only [Nat.add_zero, Array.length_toList] at hg
          rw [List.getD_eq_getElem?_getD, Array.getElem?_toList, hg]
          by_cases e : q = i'
          · subst e
            rw [if_pos (by omega), show q * size + j - q * size = j by omega]
            have := hvc.2 j (by omega)
            simpa [List.getD_eq_getElem?_getD, hq] using this
          · have hne : ¬ (i' * size ≤ q * size + j ∧ q * size + j < i' * size + v.cells.size) := by
              rw [hvl]
              rcases Nat.lt_or_gt_of_ne e with hlt | hgt
              · have : (q + 1) * size ≤ i' * size := Nat.mul_le_mul_right _ hlt
                rw [Nat.succ_mul] at this; omega
              · have : (i' + 1) * size ≤ q * size := Nat.mul_le_mul_right _ hgt
                rw [Nat.succ_mul] at this; omega
            rw [if_neg hne]
            have := hr.2 q j hq hj
            simpa [List.getD_eq_getElem?_getD, List.getElem?_set, Ne.symm e] using this
      obtain ⟨r, hr1, hr2, hr3⟩ := fillE_sound ps vs _ _ (by simpa using hl) (fun k p v hp1 hv1 => hp (k + 1) p v (by simpa using hp1) (by simpa using hv1)) hnew (by rw [g1, hsz]; simp) h4
      refine ⟨r, ?_, hr2, by rw [hr3, g1]⟩
      simp only [Instr.fill]
      rw [if_neg (by simp; omega)]
      rw [zipIdx_foldl]
      exact hr1

theorem parts_rep (hr : Rel V a w s) {parts : Array (Nat × Operand)} (ho : ∀ p ∈ parts.toList, opndOK p.2 = true) :
    (parts.map fun (i, x) => (i, a.eval x)).toList.length = (parts.toList.map fun p => (p.1, s.ev p.2)).length ∧
    ∀ (k : Nat) p v, (parts.toList.map fun p => (p.1, s.ev p.2))[k]? = some p → (parts.map fun (i, x) => (i, a.eval x)).toList[k]? = some v → v.1 = p.1 ∧ Rep V v.2 p.2 := by
  refine ⟨by simp, fun k p v hp hv => ?_⟩
  simp only [List.getElem?_map, Array.toList_map, Option.map_eq_some_iff] at hp hv
  obtain ⟨q, hq, rfl⟩ := hp
  obtain ⟨q', hq', rfl⟩ := hv
  rw [hq] at hq'
  cases hq'
  exact ⟨rfl, ev_rep hr _ (ho q (List.mem_of_getElem? hq))⟩

end
end Go.Ab
