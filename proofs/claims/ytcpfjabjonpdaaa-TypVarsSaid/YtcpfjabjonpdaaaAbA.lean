/- The executor's operations run as the model's do: joined. Condition: the executor's table of types is the program's. -/
import Derived.Test.YtcpfjabjonpdaaaAb9
set_option linter.unusedSimpArgs false
namespace Go.Ab
open Go.RowKit (Below)

def operOK (o : Oper) : Bool := o.op.operands.toList.all opndOK

theorem getD_set {l : List AV} {q : Nat} (x : AV) (hq : q < l.length) : (l.set q x).getD q .any = x := by
  rw [List.getD_eq_getElem?_getD, List.getElem?_set_self hq, Option.getD_some]

section
variable {P : Program} {C : Cfg} {V : View} {w : World} {s : AState} {a : Act} {o : Oper}

theorem snd_alloc (hC : CfgOK P C) (hr : Rel V a w s) {t : Nat} {l : TL} (hT : C.ty t = some l) (hop : o.op = .alloc t) :
    OpSound P V a w s o ⟨True, .bptr (s.b + s.L.length) 0, s.new (.box (cellsOf l.zero))⟩ := by
  have hTy := hC _ _ hT
  obtain ⟨z, hz, hzr⟩ := hTy.run_zero w
  obtain ⟨V', h1, h2, h3⟩ := new_box hr.toW ((hzr V).cellsL hTy.solid) t
  refine ⟨_, _, V', ?_, h1, below_alloc w _ hr.inv.base, h3, rfl, rfl, rfl, .inl ⟨_, rfl, .bptr _ 0 _ _ h2⟩⟩
  simp only [execOp, hop, Instr.alloc, newVar, Go.newRow, Sem.run_bind, hz, Result.andThen_ok, run_newObj, Sem.run_pure, World.alloc_eq]

theorem snd_box (hr : Rel V a w s) {t : Nat} {x : Operand} (hx : opndOK x = true) (hc : (s.ev x).solid = true) (hop : o.op = .box t x) :
    OpSound P V a w s o ⟨(s.ev x).solid = true, .bptr (s.b + s.L.length) 0, s.new (.box (cellsOf (s.ev x)))⟩ := by
  obtain ⟨V', h1, h2, h3⟩ := new_box hr.toW ((ev_rep hr x hx).cellsL hc) t
  refine ⟨_, _, V', ?_, h1, below_alloc w _ hr.inv.base, h3, rfl, rfl, rfl, .inl ⟨_, rfl, .bptr _ 0 _ _ h2⟩⟩
  simp only [execOp, hop, Instr.box, newVar, Go.newRow, Sem.run_bind, Result.andThen_ok, run_newObj, Sem.run_pure, World.alloc_eq]

theorem snd_load (hC : CfgOK P C) (hr : Rel V a w s) {t : Nat} {x : Operand} {l : TL} {cs : List AV} {off : Nat} {c : Prop} (hx : opndOK x = true) (hT : C.ty t = some l) (hcs : cellsAt s (s.ev x) = some (cs, off, c))
    (hc : c ∧ (partA l cs off).1) (hop : o.op = .load t x) : OpSound P V a w s o ⟨c ∧ (partA l cs off).1, (partA l cs off).2, s⟩ := by
  obtain ⟨b, k, hu, hcell⟩ := cellsAt_sound hr.toW (ev_rep hr x hx) hcs hc.1
  obtain ⟨v, hv, hrep⟩ := run_loadAt (P := P) (hC _ _ hT) hcell hc.2
  refine .val hr (u := v) ?_ hrep
  simp only [execOp, hop, Sem.run_bind, hu, hv, Result.andThen_ok, Sem.run_pure]

theorem run_storeAt {t : Nat} {l : TL} (hT : TyOK P t l) {b off : Nat} {cur : Array Value} {et : TypeId} (hg : w.heap[b]? = some (.cells cur et (0, 0))) {v : Value} {x : AV} (hv : Rep V v x) (hs : x.solid = true)
    (hl : (cellsOf x).length = l.size) (hfit : off + l.size ≤ cur.size) :
    (Instr.storeAt t (.pointer (some ⟨b, off, none⟩)) v).run P w = .ok () (w.setRow b (cur.toList.take off ++ v.cells.toList ++ cur.toList.drop (off + v.cells.toList.length)).toArray) := by
  have hvc := hv.cellsL hs
  have hsz : v.cells.size = l.size := by rw [← hl, ← hvc.1]; simp
  have hst := run_storeCells_at P b off et v.cells.toList 0 cur w hg (by simp; omega) (RepL.oneCells hv hs)
  have hso := hT.run_sizeOf w
  simp only [Nat.add_zero] at hst
  simp only [Instr.storeAt, Instr.sureAddr, storeVar, Sem.run_bind, Sem.run_pure, Result.andThen_ok, hso]
  rw [if_neg (by omega)]
  exact hst

theorem snd_store_box (hC : CfgOK P C) (hr : Rel V a w s) {t : Nat} {p x : Operand} {l : TL} {r off : Nat} {cs : List AV} (hp : opndOK p = true) (hx : opndOK x = true) (hT : C.ty t = some l) (hev : s.ev p = .bptr r off)
    (ho : s.obj r = some (.box cs)) (hc : (s.ev x).solid = true ∧ (cellsOf (s.ev x)).length = l.size ∧ off + l.size ≤ cs.length ∧ (r < s.b → (s.ev x).bel s.b = true)) (hop : o.op = .store t p x) :
    OpSound P V a w s o ⟨(s.ev x).solid = true ∧ (cellsOf (s.ev x)).length = l.size ∧ off + l.size ≤ cs.length ∧ (r < s.b → (s.ev x).bel s.b = true), .any, s.setObj r (.box (setRange cs off (cellsOf (s.ev x))))⟩ := by
  obtain ⟨h1, h2, h3, h4⟩ := hc
  have hrp := ev_rep hr p hp
  rw [hev] at hrp
  have hrx := ev_rep hr x hx
  generalize hpv : a.eval p = pv at hrp
  cases hrp with
  | bptr _ _ b c hl =>
    obtain ⟨cells, ty, hg, hsz, hrel, hbase⟩ := setRow_box hr.toW ho hl (hrx.cellsL h1) (by rw [h2]; exact h3) (fun h => cellsOf_bel (h4 h))
    have hrun := run_storeAt (P := P) (hC _ _ hT) hg hrx h1 h2 (off := off) (by omega)
    refine ⟨.skip, _, V, ?_, .refl V, below_setRow w b _ hbase, hrel, setObj_env _ _ _, setObj_n _ _ _, setObj_b _ _ _, .inr ⟨rfl, rfl⟩⟩
    simp only [execOp, hop, hpv, Sem.run_bind, hrun, Result.andThen_ok, Sem.run_pure]

theorem reCells_cells {x : AV} {cs : List AV} (hl : cs.length = (cellsOf x).length) : cellsOf (reCells x cs) = cs ∨ (∃ y, cs = [y] ∧ reCells x cs = y ∧ ∀ z, x ≠ .agg z) := by
  cases x with
  | agg z => exact .inl rfl
  | _ =>
    right
    simp only [cellsOf, List.length_cons, List.length_nil, Nat.zero_add] at hl
    obtain ⟨y, rfl⟩ := List.length_eq_one_iff.1 hl
    exact ⟨y, rfl, rfl, fun z h => by cases h⟩

theorem reCells_bel {m : Nat} {x : AV} {cs : List AV} (h : AV.belL m cs = true) (hl : cs.length = (cellsOf x).length) : (reCells x cs).bel m = true := by
  cases x with
  | agg z => exact h
  | _ =>
    simp only [cellsOf, List.length_cons, List.length_nil, Nat.zero_add] at hl
    obtain ⟨y, rfl⟩ := List.length_eq_one_iff.1 hl
    simp only [AV.belL, Bool.and_true] at h
    exact h

theorem snd_store_arr (hC : CfgOK P C) (hr : Rel V a w s) {t : Nat} {p x : Operand} {l : TL} {r ver size i off : Nat} {v' sz : Nat} {es : List AV} (hp : opndOK p = true) (hx : opndOK x = true) (hT : C.ty t = some l) (hev : s.ev p = .aptr r ver size i off)
    (ho : s.obj r = some (.arr v' sz es)) {cnd : Prop} (hc : (s.ev x).solid = true ∧ (cellsOf (s.ev x)).length = l.size ∧ off + l.size ≤ size ∧ v' = ver ∧ sz = size ∧ i < es.length ∧ (r < s.b → (s.ev x).bel s.b = true)) (hop : o.op = .store t p x) :
    OpSound P V a w s o ⟨cnd, .any, s.setObj r (.arr v' sz (es.set i (reCells (es.getD i .any) (setRange (cellsOf (es.getD i .any)) off (cellsOf (s.ev x))))))⟩ := by
  obtain ⟨h1, h2, h3, rfl, rfl, hi, h4⟩ := hc
  have hrp := ev_rep hr p hp
  rw [hev] at hrp
  have hrx := ev_rep hr x hx
  have hxc := hrx.cellsL h1
  generalize hpv : a.eval p = pv at hrp
  cases hrp with
  | aptr _ _ _ _ _ b cap hl =>
    obtain ⟨blk, cap', g1, g2, g3, g4, _, g5, g6⟩ := arr_cells hr.toW ho
    rw [hl] at g1
    simp only [Option.some.injEq, Prod.mk.injEq] at g1
    obtain ⟨rfl, rfl⟩ := g1
    obtain ⟨g7, cells, ty, g8, g9, g10, g11⟩ := g6 b rfl
    have hfit : i * sz + off + l.size ≤ cells.size := by
      have : (i + 1) * sz ≤ cap * sz := Nat.mul_le_mul_right _ (by omega)
      rw [Nat.succ_mul] at this; omega
    have hrun := run_storeAt (P := P) (hC _ _ hT) g8 hrx h1 h2 (off := i * sz + off) hfit
    have hxl : (a.eval x).cells.toList.length = l.size := by rw [hxc.1, h2]
    have hcl : (setRange (cellsOf (es.getD i .any)) off (cellsOf (s.ev x))).length = (cellsOf (es.getD i .any)).length := setRange_length _ _ _
    have hfit2 : off + (cellsOf (s.ev x)).length ≤ (cellsOf (es.getD i .any)).length := by rw [h2, g5 i hi]; exact h3
    have hsame : (cellsOf (reCells (es.getD i .any) (setRange (cellsOf (es.getD i .any)) off (cellsOf (s.ev x))))).length = sz ∧
        ∀ j, j < sz → (cellsOf (reCells (es.getD i .any) (setRange (cellsOf (es.getD i .any)) off (cellsOf (s.ev x))))).getD j .any = (setRange (cellsOf (es.getD i .any)) off (cellsOf (s.ev x))).getD j .any := by
      have hE1 := g5 i hi
      rcases reCells_cells hcl with hh | ⟨y, hy1, hy2, hy3⟩
      · rw [hh, hcl, hE1]; exact ⟨rfl, fun _ _ => rfl⟩
      · have hone : sz = 1 := by rw [hy1] at hcl; simp only [List.length_cons, List.length_nil] at hcl; omega
        rw [hy2, hy1]
        -- one cell: what is stored is one
        have ho0 : off = 0 := by have := (hC _ _ hT).pos; omega
        have hl1 : l.size = 1 := by have := (hC _ _ hT).pos; omega
        have hyo : y.one = true := by
          have hg := setRange_get (cellsOf (s.ev x)) (cellsOf (es.getD i .any)) off 0 hfit2
          rw [hy1, if_neg (by omega), if_pos (by omega), ho0] at hg
          have := AV.solid_one h1 0 (by omega)
          rw [List.getD_eq_getElem?_getD, ← hg] at this
          exact this
        have hyc : cellsOf y = [y] := by
          cases y <;> first | rfl | (simp [AV.one] at hyo)
        rw [hyc]
        exact ⟨by simp [hone], fun j hj => rfl⟩
    have hnew : RepE V sz (cells.toList.take (i * sz + off) ++ (a.eval x).cells.toList ++ cells.toList.drop (i * sz + off + (a.eval x).cells.toList.length))
        (es.set i (reCells (es.getD i .any) (setRange (cellsOf (es.getD i .any)) off (cellsOf (s.ev x))))) := by
      have hget : ∀ k, (cells.toList.take (i * sz + off) ++ (a.eval x).cells.toList ++ cells.toList.drop (i * sz + off + (a.eval x).cells.toList.length)).getD k undef =
          if i * sz + off ≤ k ∧ k < i * sz + off + l.size then (a.eval x).cells.toList.getD (k - (i * sz + off)) undef else cells.toList.getD k undef := by
        intro k
        have hlt : (cells.toList.take (i * sz + off)).length = i * sz + off := by simp; omega
        by_cases e1 : k < i * sz + off
        · rw [if_neg (by omega), List.append_assoc, getD_app_l _ _ _ (by omega)]
          simp [List.getD_eq_getElem?_getD, List.getElem?_take, e1]
        · by_cases e2 : k < i * sz + off + l.size
          · rw [if_pos ⟨by omega, e2⟩, List.append_assoc, getD_app_r _ _ _ (by omega), hlt, getD_app_l _ _ _ (by omega)]
          · rw [if_neg (by omega), getD_app_r _ _ _ (by simp only [List.length_append, hlt, hxl]; omega)]
            simp only [List.length_append, hlt, hxl, List.getD_eq_getElem?_getD, List.getElem?_drop]
            congr 2; omega
      refine ⟨fun q hq => ?_, fun q j hq hj => ?_⟩
      · simp only [List.length_set] at hq
        by_cases e : q = i
        · subst e
          rw [getD_set _ hq]
          exact hsame.1
        · have := g5 q hq
          simpa [List.getD_eq_getElem?_getD, List.getElem?_set, Ne.symm e] using this
      · simp only [List.length_set] at hq
        rw [hget]
        by_cases e : q = i
        · subst e
          rw [getD_set _ hq]
          rw [hsame.2 j hj, List.getD_eq_getElem?_getD (l := setRange _ _ _), setRange_get _ _ _ _ (by rw [g5 q hq, h2]; exact h3)]
          by_cases e1 : off ≤ j ∧ j < off + l.size
          · rw [if_pos (by omega), if_neg (by omega), if_pos (by omega), show q * sz + j - (q * sz + off) = j - off by omega]
            have := hxc.2 (j - off) (by omega)
            simpa [List.getD_eq_getElem?_getD] using this
          · rw [if_neg (by omega)]
            have hold : (if j < off then (cellsOf (es.getD q .any))[j]? else if j < off + (cellsOf (s.ev x)).length then (cellsOf (s.ev x))[j - off]? else (cellsOf (es.getD q .any))[j]?) = (cellsOf (es.getD q .any))[j]? := by
              by_cases e2 : j < off
              · rw [if_pos e2]
              · rw [if_neg e2, if_neg (by omega)]
            rw [hold]
            have := g10.2 q j hq hj
            simpa [List.getD_eq_getElem?_getD] using this
        · have hne : ¬ (i * sz + off ≤ q * sz + j ∧ q * sz + j < i * sz + off + l.size) := by
            rcases Nat.lt_or_gt_of_ne e with hlt | hgt
            · have : (q + 1) * sz ≤ i * sz := Nat.mul_le_mul_right _ hlt
              rw [Nat.succ_mul] at this; omega
            · have : (i + 1) * sz ≤ q * sz := Nat.mul_le_mul_right _ hgt
              rw [Nat.succ_mul] at this; omega
          rw [if_neg hne]
          have := g10.2 q j hq hj
          simpa [List.getD_eq_getElem?_getD, List.getElem?_set, Ne.symm e] using this
    refine ⟨.skip, w.setRow b (cells.toList.take (i * sz + off) ++ (a.eval x).cells.toList ++ cells.toList.drop (i * sz + off + (a.eval x).cells.toList.length)).toArray, V, ?_, .refl V, below_setRow w b _ g7, ?_, setObj_env _ _ _, setObj_n _ _ _, setObj_b _ _ _, .inr ⟨rfl, rfl⟩⟩
    · simp only [execOp, hop, hpv, Sem.run_bind, hrun, Result.andThen_ok, Sem.run_pure]
    · refine hr.toW.setObj ho (hr.inv.write r _ _ ho b (by simp [own, hl]) (by simp [World.setRow]) (fun k hk => setRow_other w b k _ hk) V (.refl V) (fun _ _ _ => rfl) (fun o v hv => by rw [g11 o] at hv; cases hv) (fun _ _ _ => rfl) ?_ (by simp [own, hl])) ?_
      · refine ⟨some b, cap, hl, g2, by simpa using g3, g4, hnew.1, g7, _, ty, setRow_heap w b cells _ ty _ g8, ?_, fun q j hq hj => ?_, g11⟩
        · simp [List.length_append] at hxl ⊢; omega
        · have := hnew.2 q j hq hj
          simpa [List.getD_eq_getElem?_getD] using this
      · intro hlt
        have hb0 : AV.belL s.b es = true := by
          have := hr.bel (.arr v' sz es) (by unfold AState.obj at ho; rw [if_pos hlt] at ho; exact List.mem_of_getElem? ho)
          exact this
        have hxb := cellsOf_bel (h4 hlt)
        have hib : (es.getD i .any).bel s.b = true := by
          rw [getD_lt _ hi]; exact (belL_iff _ _).1 hb0 _ (List.getElem_mem hi)
        have hsr := belL_setRange off (cellsOf_bel hib) hxb
        have hre : (reCells (es.getD i .any) (setRange (cellsOf (es.getD i .any)) off (cellsOf (s.ev x)))).bel s.b = true := by
          exact reCells_bel hsr hcl
        simp only [AObj.bel]
        rw [belL_iff] at hb0 ⊢
        intro y hy
        rcases List.mem_or_eq_of_mem_set hy with h | h
        · exact hb0 y h
        · rw [h]; exact hre

end
end Go.Ab
