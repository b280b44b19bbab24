/- The executor's append, on its states: joined. Condition: the executor's table of types is the program's. -/
import Derived.Test.YtcpfjabjonpdaaaAb7
set_option linter.unusedSimpArgs false
namespace Go.Ab
open Go.RowKit (Below)

section
variable {P : Program} {C : Cfg} {V : View} {w : World} {s : AState}

theorem below_drew_alloc {B : Nat} (w : World) (o : Obj) (h : B ≤ w.heap.size) : Below B w (w.drew.alloc o) := ((Below.refl B w).drew).alloc h o

theorem append_sound (hC : CfgOK P C) (hr : RelW V w s) {inpl : Bool} {t ty : Nat} {a x : AV} {va vx : Value} (ha : Rep V va a) (hx : Rep V vx x) {out : Out}
    (h : effAppend C inpl t s a x = some out) (hc : out.c) :
    ∃ u w' V', (Builtin.append_ #[t, t] ty #[va, vx]).run P w = .ok u w' ∧ V.Le V' ∧ Below V.base w w' ∧ RelW V' w' out.s ∧ out.s.env = s.env ∧ out.s.n = s.n ∧ out.s.b = s.b ∧ Rep V' u out.v := by
  unfold effAppend at h
  split at h
  case h_2 => cases h
  rename_i e sz by_ ze hty
  split at h
  case h_2 => cases h
  rename_i le xs cx hle hxs
  obtain ⟨d, hd1, hd2⟩ := (hC _ _ hty).desc
  simp only [DescOK] at hd2
  subst hd2
  obtain ⟨i, z, hi1, hi2, hi3, hi4, _, _⟩ := (hC _ _ hle).info
  have hz : ∀ n, (Builtin.zeroCells z.cells n).size = n * i.size := fun n => by
    obtain ⟨i', z', g1, g2, g3, g4, g5, g6⟩ := (hC _ _ hle).info
    have hTs := (hC _ _ hle).size
    have hTo := (hC _ _ hle).solid
    rw [hi1] at g1; cases g1
    rw [hi4] at g4; cases g4
    have hrep := ofVal_rep V g5
    rw [g6] at hrep
    have h1 := (hrep.cells hTo).1
    rw [size_zeroCells, h1, hTs, hi2]
  split at h
  · -- a slice that nobody writes
    rename_i es tk
    split at h
    · -- with an owner
      rename_i r
      split at h
      case h_2 => cases h
      rename_i n size ho
      simp only [Option.some.injEq] at h
      subst h
      obtain ⟨hcx, hn, hsz, hmax, hby, hes, hxss⟩ := hc
      subst hsz
      subst hn
      obtain ⟨base, cap, b, o, olds, rfl, hle1, hcm, hb, hol, hoc, hoi, hE, hown, _⟩ := sl_cells hr.inv.imm ha hes
      obtain ⟨blk, hl, hbase⟩ := hown r rfl
      obtain ⟨xbase, ad, xcap, news, rfl, hxb, hnl, hnc, hX⟩ := src_cells hr hx hxs hcx (fun y hy => (hxss y hy).2)
      have hone : ∀ u ∈ news, u.oneCell' = true := hX.oneCells (fun y hy => (hxss y hy).1) hnl
      by_cases hroom : es.length + xs.length ≤ cap
      · cases blk with
        | none =>
          obtain ⟨blk', cap', h1, _, h3, h4, h5⟩ := hr.inv.objs r _ ho
          rw [hl] at h1
          simp only [Option.some.injEq, Prod.mk.injEq] at h1
          obtain ⟨rfl, rfl⟩ := h1
          simp only at h5
          subst h5
          have h0 : es = [] := List.eq_nil_of_length_eq_zero (by omega)
          have h00 : xs = [] := List.eq_nil_of_length_eq_zero (by omega)
          subst h0; subst h00
          subst hbase
          refine ⟨_, w, V, run_append_nil0 w hd1 hi1 hxb (by simpa using hnl) hnc, .refl V, .refl _ _, ?_, setObj_env _ _ _, setObj_n _ _ _, setObj_b _ _ _, ha⟩
          have hsame : s.setObj r (.tok (0 + 0) le.size) = s := by
            unfold AState.setObj
            unfold AState.obj at ho
            split
            · rename_i hlt
              rw [if_pos hlt] at ho
              have h9 : s.H.set r (.tok (0 + 0) le.size) = s.H := by
                apply List.ext_getElem?; intro k
                rw [List.getElem?_set]
                split
                · rename_i hk; subst hk; rw [if_pos (List.getElem?_eq_some_iff.1 ho).1, ho]; rfl
                · rfl
              rw [h9]
            · rename_i hlt
              rw [if_neg hlt] at ho
              have h9 : s.L.set (r - s.b) (.tok (0 + 0) le.size) = s.L := by
                apply List.ext_getElem?; intro k
                rw [List.getElem?_set]
                split
                · rename_i hk; subst hk; rw [if_pos (List.getElem?_eq_some_iff.1 ho).1, ho]; rfl
                · rfl
              rw [h9]
          show RelW V w (s.setObj r (.tok (0 + 0) le.size))
          rw [hsame]; exact hr
        | some b' =>
          subst hbase
          have hoi' : ∀ j v, olds[j]? = some v → V.imm b' j = some v := fun j v hv => by
            have h0 : 0 < es.length := by
              rcases Nat.eq_zero_or_pos es.length with h0 | h0
              · rw [h0] at hol; simp at hol; subst hol; simp at hv
              · exact h0
            have h1 := hb h0
            simp only [baseOf, Option.map_some, Option.some.injEq, Addr.mk.injEq] at h1
            obtain ⟨rfl, rfl, _⟩ := h1
            simpa using hoi j v hv
          obtain ⟨cur, et, hg, hfit, V', hV', hbb, hrel, hrep⟩ := own_in hr ho hl rfl hE hol hoi' hX hnl hroom
          have hrun := run_append_in (P := P) w (ty := ty) hd1 hi1 hg (n := es.length) (cap := cap) hxb (c := xcap) (by rw [hi2]; exact hnl) hnc hone hroom (by rw [hi2]; exact hfit)
          rw [hi2] at hrun
          exact ⟨_, _, V', hrun, hV', below_setRow w b' _ hbb, hrel, setObj_env _ _ _, setObj_n _ _ _, setObj_b _ _ _, hrep⟩
      · obtain ⟨blk', cap', h1, h2, h3, h4, h5⟩ := hr.inv.objs r _ ho
        rw [hl] at h1
        simp only [Option.some.injEq, Prod.mk.injEq] at h1
        obtain ⟨rfl, rfl⟩ := h1
        obtain ⟨nc, hnc1, hnc2, hrun⟩ := run_append_out (P := P) w (ty := ty) hd1 hi1 hi4 (ad0 := ⟨b, o, none⟩) (n := es.length) (cap := cap) hb (by rw [hi2]; exact hol) (fun j v hv => by rw [addr_add]; exact hoc j v hv)
          hxb (c := xcap) (by rw [hi2]; exact hnl) hnc (by omega) (by rw [hi3]; exact hby) hmax
        have hE2 := hE.append (c3 := (Builtin.zeroCells z.cells (nc - (es.length + xs.length))).toList) hX hol hnl
        obtain ⟨V', hV', hrel, hrep⟩ := own_out hr.drew (r := r) (n := es.length + xs.length) (size := le.size) (s' := s.setObj r (.tok (es.length + xs.length) le.size))
          (fun V' w' hI => RelW.setObj hr.drew ho hI (fun _ => rfl)) (fun m hm => h2 m (by omega)) (es := es ++ xs)
          (cells := (olds ++ news ++ (Builtin.zeroCells z.cells (nc - (es.length + xs.length))).toList).toArray) (by simp) hE2 hnc1 hnc2
          (by simp only [List.size_toArray, List.length_append, Array.length_toList, hz, hol, hnl, hi2, ← Nat.add_mul]; congr 1; omega) e
        exact ⟨_, _, V', hrun, hV', below_drew_alloc w _ hr.inv.base, hrel, setObj_env _ _ _, setObj_n _ _ _, setObj_b _ _ _, hrep⟩
    · -- full
      split at h
      · simp only [Option.some.injEq] at h
        subst h
        have hcx := hc
        obtain ⟨xbase, ad, xcap, news, rfl, hxb, hnl, hnc, hX⟩ := src_cells (size := 0) hr hx hxs hcx (fun y hy => by simp at hy)
        cases ha with
        | sl bse len cap _ _ size b o val hl hcap hm hb hs hi hrr ht hf =>
          refine ⟨.slice bse len cap, w, V, ?_, .refl V, .refl _ _, hr, rfl, rfl, rfl, .sl bse len cap es .full size b o val hl hcap hm hb hs hi hrr ht hf⟩
          have hf0 : (Builtin.firstCells i.size 0 (.slice xbase 0 xcap)).run P w = .ok #[] w := by
            have := run_firstCells (P := P) w i.size 0 xcap xbase ad [] (fun h => absurd h (by omega)) (by simp) (fun j v hv => by simp at hv)
            simpa using this
          cases bse with
          | none => simp [Builtin.append_, Go.run_underlying hd1, sizeOf, typeInfo, hi1, Builtin.lenOf, hf0, hcap]
          | some a0 => simp [Builtin.append_, Go.run_underlying hd1, sizeOf, typeInfo, hi1, Builtin.lenOf, hf0, hcap, storeCells]
      · rename_i x0 xs0
        split at h
        · -- a mutable row
          simp only [Option.some.injEq] at h
          subst h
          obtain ⟨hcx, hmax, hby, hes, hxss⟩ := hc
          obtain ⟨base, cap, b, o, olds, rfl, hle1, hcm, hb, hol, hoc, hoi, hE, _, hfull⟩ := sl_cells hr.inv.imm ha hes
          obtain ⟨xbase, ad, xcap, news, rfl, hxb, hnl, hnc, hX⟩ := src_cells hr hx hxs hcx (fun y hy => (hxss y hy).2)
          have hcapn := hfull rfl
          have hpos : 0 < (x0 :: xs0).length := by simp
          obtain ⟨nc, hnc1, hnc2, hrun⟩ := run_append_out (P := P) w (ty := ty) hd1 hi1 hi4 (ad0 := ⟨b, o, none⟩) (n := es.length) (cap := cap) hb (by rw [hi2]; exact hol) (fun j v hv => by rw [addr_add]; exact hoc j v hv)
            hxb (c := xcap) (by rw [hi2]; exact hnl) hnc (by omega) (by rw [hi3]; exact hby) hmax
          have hE2 := hE.append (c3 := (Builtin.zeroCells z.cells (nc - (es.length + (x0 :: xs0).length))).toList) hX hol hnl
          obtain ⟨V', hV', hlocn, hrel⟩ := new_arr hr.drew (cells := (olds ++ news ++ (Builtin.zeroCells z.cells (nc - (es.length + (x0 :: xs0).length))).toList).toArray) (cap := nc) hE2 (by simp only [List.length_append]; exact hnc1) hnc2
            (by simp only [List.size_toArray, List.length_append, Array.length_toList, hz, hol, hnl, hi2, ← Nat.add_mul]; congr 1; omega) e
          exact ⟨_, _, V', hrun, hV', below_drew_alloc w _ hr.inv.base, hrel, rfl, rfl, rfl, .ms _ _ _ (some w.heap.size) nc hlocn hnc1 hnc2 (fun h => by cases h)⟩
        · simp only [Option.some.injEq] at h
          subst h
          obtain ⟨hcx, hmax, hby, hes, hxss⟩ := hc
          obtain ⟨base, cap, b, o, olds, rfl, hle1, hcm, hb, hol, hoc, hoi, hE, _, hfull⟩ := sl_cells hr.inv.imm ha hes
          obtain ⟨xbase, ad, xcap, news, rfl, hxb, hnl, hnc, hX⟩ := src_cells hr hx hxs hcx (fun y hy => (hxss y hy).2)
          have hcapn := hfull rfl
          have hpos : 0 < (x0 :: xs0).length := by simp
          obtain ⟨nc, hnc1, hnc2, hrun⟩ := run_append_out (P := P) w (ty := ty) hd1 hi1 hi4 (ad0 := ⟨b, o, none⟩) (n := es.length) (cap := cap) hb (by rw [hi2]; exact hol) (fun j v hv => by rw [addr_add]; exact hoc j v hv)
            hxb (c := xcap) (by rw [hi2]; exact hnl) hnc (by omega) (by rw [hi3]; exact hby) hmax
          have hE2 := hE.append (c3 := (Builtin.zeroCells z.cells (nc - (es.length + (x0 :: xs0).length))).toList) hX hol hnl
          have hnone : ∀ m, V.loc (s.b + s.L.length) m = none := fun m => by
            cases hm : V.loc (s.b + s.L.length) m with
            | none => rfl
            | some y => have := hr.inv.dom _ m y hm; rw [obj_next] at this; simp at this
          obtain ⟨V', hV', hrel, hrep⟩ := own_out hr.drew (r := s.b + s.L.length) (n := es.length + (x0 :: xs0).length) (size := le.size) (s' := s.new (.tok (es.length + (x0 :: xs0).length) le.size))
            (fun V' w' hI => RelW.new hr.drew _ hI) (fun m _ => hnone m) (es := es ++ x0 :: xs0)
            (cells := (olds ++ news ++ (Builtin.zeroCells z.cells (nc - (es.length + (x0 :: xs0).length))).toList).toArray) (by simp) hE2 hnc1 hnc2
            (by simp only [List.size_toArray, List.length_append, Array.length_toList, hz, hol, hnl, hi2, ← Nat.add_mul]; congr 1; omega) e
          exact ⟨_, _, V', hrun, hV', below_drew_alloc w _ hr.inv.base, hrel, rfl, rfl, rfl, hrep⟩
    · cases h
  · -- a mutable row
    rename_i r ver len
    split at h
    case h_2 => cases h
    rename_i v' size es ho
    simp only [Option.some.injEq] at h
    subst h
    obtain ⟨hcx, rfl, hlen, rfl, hmax, hby, hxss, hbel⟩ := hc
    obtain ⟨xbase, ad, xcap, news, rfl, hxb, hnl, hnc, hX⟩ := src_cells hr hx hxs hcx (fun y hy => (hxss y hy).2)
    have hone : ∀ u ∈ news, u.oneCell' = true := hX.oneCells (fun y hy => (hxss y hy).1) hnl
    cases ha with
    | ms _ _ _ blk cap hl hcap hm _ =>
      obtain ⟨blk', cap', h1, h2, h3, h4, h5, h6, h7⟩ := arr_cells hr ho
      rw [hl] at h1
      simp only [Option.some.injEq, Prod.mk.injEq] at h1
      obtain ⟨rfl, rfl⟩ := h1
      have htl : (es.take len).length = len := by simp; omega
      by_cases hroom : len + xs.length ≤ cap
      · cases blk with
        | none =>
          have h8 := h5 rfl
          subst h8
          have h0 : len = 0 := by omega
          subst h0
          have h00 : xs = [] := List.eq_nil_of_length_eq_zero (by omega)
          subst h00
          have h9 : es = [] := List.eq_nil_of_length_eq_zero (by omega)
          subst h9
          let V' : View := { V with loc := fun q m => if q = r ∧ m = v' + 1 then some (none, 0) else V.loc q m }
          have hle : V.Le V' := ⟨rfl, fun _ _ _ h => h, fun q m y hy => by
            by_cases hq : q = r ∧ m = v' + 1
            · obtain ⟨rfl, rfl⟩ := hq; rw [h2 _ (Nat.lt_succ_self _)] at hy; cases hy
            · simp [V', hq, hy]⟩
          have hlocn : V'.loc r (v' + 1) = some (none, 0) := by simp [V']
          refine ⟨_, w, V', run_append_nil0 w hd1 hi1 hxb (by simpa using hnl) hnc, hle, .refl _ _, ?_, setObj_env _ _ _, setObj_n _ _ _, setObj_b _ _ _, .ms r (v' + 1) 0 none 0 hlocn (Nat.le_refl _) (Nat.zero_le _) (fun _ => rfl)⟩
          refine hr.setObj ho (hr.inv.upd hle r _ (Nat.le_refl _) hr.inv.imm (fun _ _ _ _ _ _ => ⟨rfl, fun _ h => h⟩) (fun q m hq => by simp [V', hq]) ?_ (fun b hb => by simp [own, hlocn] at hb)) (fun _ => by simp [AObj.bel, AV.belL])
          refine ⟨none, 0, hlocn, fun m hm' => ?_, by simp, Nat.zero_le _, fun i hi => absurd hi (by simp), rfl⟩
          have : ¬ m = v' + 1 := by omega
          simp [V', this, h2 m (by omega)]
        | some b =>
          obtain ⟨cur, et, hg, hfit, V', hV', hbb, hrel, hrep⟩ := arr_in hr ho hlen hl hX hnl hroom hbel
          have hrun := run_append_in (P := P) w (ty := ty) hd1 hi1 hg (n := len) (cap := cap) hxb (c := xcap) (by rw [hi2]; exact hnl) hnc hone hroom (by rw [hi2]; exact hfit)
          rw [hi2] at hrun
          exact ⟨_, _, V', hrun, hV', below_setRow w b _ hbb, hrel, setObj_env _ _ _, setObj_n _ _ _, setObj_b _ _ _, hrep⟩
      · -- the old elements, as cells
        obtain ⟨olds, hol, hoc, hE⟩ : ∃ olds : List Value, olds.length = len * le.size ∧ (0 < len → ∃ b, blk = some b ∧ ∀ j v, olds[j]? = some v → w.cell? ⟨b, j, none⟩ = some v) ∧ RepE V le.size olds (es.take len) := by
          cases blk with
          | none =>
            have h8 := h5 rfl
            have h0 : len = 0 := by omega
            subst h0
            exact ⟨[], by simp, fun h => absurd h (by omega), ⟨fun i hi => absurd hi (by simp), fun i j hi => absurd hi (by simp)⟩⟩
          | some b =>
            obtain ⟨h8, cells, et, h9, h10, h11, _⟩ := h7 b rfl
            have hle2 : len * le.size ≤ cap * le.size := Nat.mul_le_mul_right _ hcap
            refine ⟨cells.toList.take (len * le.size), by simp; omega, fun _ => ⟨b, rfl, fun j v hv => ?_⟩, h11.take len⟩
            rw [List.getElem?_take] at hv
            split at hv
            · simp only [World.cell?, h9]; simpa using hv
            · cases hv
        obtain ⟨nc, hnc1, hnc2, hrun⟩ := run_append_out (P := P) w (ty := ty) hd1 hi1 hi4 (base0 := baseOf blk) (ad0 := ⟨blk.getD 0, 0, none⟩) (n := len) (cap := cap)
          (fun h0 => by obtain ⟨b, hb, _⟩ := hoc h0; subst hb; rfl) (by rw [hi2]; exact hol) (fun j v hv => by
            have h0 : 0 < len := by
              rcases Nat.eq_zero_or_pos len with h0 | h0
              · rw [h0] at hol; simp at hol; subst hol; simp at hv
              · exact h0
            obtain ⟨b, hb, hbc⟩ := hoc h0
            subst hb
            rw [addr_add]; simpa using hbc j v hv)
          hxb (c := xcap) (by rw [hi2]; exact hnl) hnc (by omega) (by rw [hi3]; exact hby) hmax
        have hE2 := hE.append (c3 := (Builtin.zeroCells z.cells (nc - (len + xs.length))).toList) hX (by rw [htl]; exact hol) hnl
        have hlen2 : (es.take len ++ xs).length = len + xs.length := by rw [List.length_append, htl]
        obtain ⟨V', hV', hrel, hrep⟩ := arr_out hr.drew (r := r) (ver := v' + 1) (size := le.size) (es' := es.take len ++ xs) ho (s' := s.setObj r (.arr (v' + 1) le.size (es.take len ++ xs)))
          (fun V' w' hI => RelW.setObj hr.drew ho hI (fun hlt => by
            have hb0 : AV.belL s.b es = true := by
              have := hr.bel (.arr v' le.size es) (by unfold AState.obj at ho; rw [if_pos hlt] at ho; exact List.mem_of_getElem? ho)
              exact this
            have hb1 := hbel hlt
            simp only [AObj.bel]
            rw [belL_iff] at *
            intro x hx
            rcases List.mem_append.1 hx with h | h
            · exact hb0 x (List.mem_of_mem_take h)
            · exact hb1 x h)) (fun m hm' => h2 m (by omega))
          (cells := (olds ++ news ++ (Builtin.zeroCells z.cells (nc - (len + xs.length))).toList).toArray) hE2 (by rw [hlen2]; exact hnc1) hnc2
          (by simp only [List.size_toArray, List.length_append, Array.length_toList, hz, hol, hnl, hi2, ← Nat.add_mul]; congr 1; omega) e
        rw [hlen2] at hrep
        exact ⟨_, _, V', hrun, hV', below_drew_alloc w _ hr.inv.base, hrel, setObj_env _ _ _, setObj_n _ _ _, setObj_b _ _ _, hrep⟩
  · cases h

end
end Go.Ab
