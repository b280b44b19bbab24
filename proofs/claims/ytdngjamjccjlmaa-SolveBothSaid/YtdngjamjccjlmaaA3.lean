/- The executor on abstract values: operations. Conditions stand ahead of each part. -/
import Derived.Test.YtdngjamjccjlmaaPAa

/- The executor's operations run as the model's do: joined. Condition: the executor's table of types is the program's. -/
set_option linter.unusedSimpArgs false
namespace Go.Ab
open Go.RowKit (Below)

def operOK (o : Oper) : Bool := o.op.operands.toList.all opndOK

theorem getD_set {l : List AV} {q : Nat} (x : AV) (hq : q < l.length) : (l.set q x).getD q .any = x := by
  rw [List.getD_eq_getElem?_getD, List.getElem?_set_self hq, Option.getD_some]

section
variable {P : Program} {C : Cfg} {V : View} {w : World} {s : AState} {a : Act} {o : Oper}

theorem snd_alloc (hC : CfgOK P C) (hr : Rel V a w s) {t : Nat} {l : TL} (hT : C.ty t = some l) (hop : o.op = .alloc t) :
    OpSound P V a w s o ⟨True, .bptr (s.b + s.L.length) 0, s.new (.box (cellsOf l.zero))⟩ := by
  have hTy := hC _ _ hT
  obtain ⟨z, hz, hzr⟩ := hTy.run_zero w
  obtain ⟨V', h1, h2, h3⟩ := new_box hr.toW ((hzr V).cellsL hTy.solid) t
  refine ⟨_, _, V', ?_, h1, below_alloc w _ hr.inv.base, h3, rfl, rfl, rfl, .inl ⟨_, rfl, .bptr _ 0 _ _ h2⟩⟩
  simp only [execOp, hop, Instr.alloc, newVar, Go.newRow, Sem.run_bind, hz, Result.andThen_ok, run_newObj, Sem.run_pure, World.alloc_eq]

theorem snd_box (hr : Rel V a w s) {t : Nat} {x : Operand} (hx : opndOK x = true) (hc : (s.ev x).solid = true) (hop : o.op = .box t x) :
    OpSound P V a w s o ⟨(s.ev x).solid = true, .bptr (s.b + s.L.length) 0, s.new (.box (cellsOf (s.ev x)))⟩ := by
  obtain ⟨V', h1, h2, h3⟩ := new_box hr.toW ((ev_rep hr x hx).cellsL hc) t
  refine ⟨_, _, V', ?_, h1, below_alloc w _ hr.inv.base, h3, rfl, rfl, rfl, .inl ⟨_, rfl, .bptr _ 0 _ _ h2⟩⟩
  simp only [execOp, hop, Instr.box, newVar, Go.newRow, Sem.run_bind, Result.andThen_ok, run_newObj, Sem.run_pure, World.alloc_eq]

theorem snd_load (hC : CfgOK P C) (hr : Rel V a w s) {t : Nat} {x : Operand} {l : TL} {cs : List AV} {off : Nat} {c : Prop} (hx : opndOK x = true) (hT : C.ty t = some l) (hcs : cellsAt s (s.ev x) = some (cs, off, c))
    (hc : c ∧ (partA l cs off).1) (hop : o.op = .load t x) : OpSound P V a w s o ⟨c ∧ (partA l cs off).1, (partA l cs off).2, s⟩ := by
  obtain ⟨b, k, hu, hcell⟩ := cellsAt_sound hr.toW (ev_rep hr x hx) hcs hc.1
  obtain ⟨v, hv, hrep⟩ := run_loadAt (P := P) (hC _ _ hT) hcell hc.2
  refine .val hr (u := v) ?_ hrep
  simp only [execOp, hop, Sem.run_bind, hu, hv, Result.andThen_ok, Sem.run_pure]

theorem run_storeAt {t : Nat} {l : TL} (hT : TyOK P t l) {b off : Nat} {cur : Array Value} {et : TypeId} (hg : w.heap[b]? = some (.cells cur et (0, 0))) {v : Value} {x : AV} (hv : Rep V v x) (hs : x.solid = true)
    (hl : (cellsOf x).length = l.size) (hfit : off + l.size ≤ cur.size) :
    (Instr.storeAt t (.pointer (some ⟨b, off, none⟩)) v).run P w = .ok () (w.setRow b (cur.toList.take off ++ v.cells.toList ++ cur.toList.drop (off + v.cells.toList.length)).toArray) := by
  have hvc := hv.cellsL hs
  have hsz : v.cells.size = l.size := by rw [← hl, ← hvc.1]; simp
  have hst := run_storeCells_at P b off et v.cells.toList 0 cur w hg (by simp; omega) (RepL.oneCells hv hs)
  have hso := hT.run_sizeOf w
  simp only [Nat.add_zero] at hst
  simp only [Instr.storeAt, Instr.sureAddr, storeVar, Sem.run_bind, Sem.run_pure, Result.andThen_ok, hso]
  rw [if_neg (by omega)]
  exact hst

theorem snd_store_box (hC : CfgOK P C) (hr : Rel V a w s) {t : Nat} {p x : Operand} {l : TL} {r off : Nat} {cs : List AV} (hp : opndOK p = true) (hx : opndOK x = true) (hT : C.ty t = some l) (hev : s.ev p = .bptr r off)
    (ho : s.obj r = some (.box cs)) (hc : (s.ev x).solid = true ∧ (cellsOf (s.ev x)).length = l.size ∧ off + l.size ≤ cs.length ∧ (r < s.b → (s.ev x).bel s.b = true)) (hop : o.op = .store t p x) :
    OpSound P V a w s o ⟨(s.ev x).solid = true ∧ (cellsOf (s.ev x)).length = l.size ∧ off + l.size ≤ cs.length ∧ (r < s.b → (s.ev x).bel s.b = true), .any, s.setObj r (.box (setRange cs off (cellsOf (s.ev x))))⟩ := by
  obtain ⟨h1, h2, h3, h4⟩ := hc
  have hrp := ev_rep hr p hp
  rw [hev] at hrp
  have hrx := ev_rep hr x hx
  generalize hpv : a.eval p = pv at hrp
  cases hrp with
  | bptr _ _ b c hl =>
    obtain ⟨cells, ty, hg, hsz, hrel, hbase⟩ := setRow_box hr.toW ho hl (hrx.cellsL h1) (by rw [h2]; exact h3) (fun h => cellsOf_bel (h4 h))
    have hrun := run_storeAt (P := P) (hC _ _ hT) hg hrx h1 h2 (off := off) (by omega)
    refine ⟨.skip, _, V, ?_, .refl V, below_setRow w b _ hbase, hrel, setObj_env _ _ _, setObj_n _ _ _, setObj_b _ _ _, .inr ⟨rfl, rfl⟩⟩
    simp only [execOp, hop, hpv, Sem.run_bind, hrun, Result.andThen_ok, Sem.run_pure]

theorem reCells_cells {x : AV} {cs : List AV} (hl : cs.length = (cellsOf x).length) : cellsOf (reCells x cs) = cs ∨ (∃ y, cs = [y] ∧ reCells x cs = y ∧ ∀ z, x ≠ .agg z) := by
  cases x with
  | agg z => exact .inl rfl
  | _ =>
    right
    simp only [cellsOf, List.length_cons, List.length_nil, Nat.zero_add] at hl
    obtain ⟨y, rfl⟩ := List.length_eq_one_iff.1 hl
    exact ⟨y, rfl, rfl, fun z h => by cases h⟩

theorem reCells_bel {m : Nat} {x : AV} {cs : List AV} (h : AV.belL m cs = true) (hl : cs.length = (cellsOf x).length) : (reCells x cs).bel m = true := by
  cases x with
  | agg z => exact h
  | _ =>
    simp only [cellsOf, List.length_cons, List.length_nil, Nat.zero_add] at hl
    obtain ⟨y, rfl⟩ := List.length_eq_one_iff.1 hl
    simp only [AV.belL, Bool.and_true] at h
    exact h

theorem snd_store_arr (hC : CfgOK P C) (hr : Rel V a w s) {t : Nat} {p x : Operand} {l : TL} {r ver size i off : Nat} {v' sz : Nat} {es : List AV} (hp : opndOK p = true) (hx : opndOK x = true) (hT : C.ty t = some l) (hev : s.ev p = .aptr r ver size i off)
    (ho : s.obj r = some (.arr v' sz es)) {cnd : Prop} (hc : (s.ev x).solid = true ∧ (cellsOf (s.ev x)).length = l.size ∧ off + l.size ≤ size ∧ v' = ver ∧ sz = size ∧ i < es.length ∧ (r < s.b → (s.ev x).bel s.b = true)) (hop : o.op = .store t p x) :
    OpSound P V a w s o ⟨cnd, .any, s.setObj r (.arr v' sz (es.set i (reCells (es.getD i .any) (setRange (cellsOf (es.getD i .any)) off (cellsOf (s.ev x))))))⟩ := by
  obtain ⟨h1, h2, h3, rfl, rfl, hi, h4⟩ := hc
  have hrp := ev_rep hr p hp
  rw [hev] at hrp
  have hrx := ev_rep hr x hx
  have hxc := hrx.cellsL h1
  generalize hpv : a.eval p = pv at hrp
  cases hrp with
  | aptr _ _ _ _ _ b cap hl =>
    obtain ⟨blk, cap', g1, g2, g3, g4, _, g5, g6⟩ := arr_cells hr.toW ho
    rw [hl] at g1
    simp only [Option.some.injEq, Prod.mk.injEq] at g1
    obtain ⟨rfl, rfl⟩ := g1
    obtain ⟨g7, cells, ty, g8, g9, g10, g11⟩ := g6 b rfl
    have hfit : i * sz + off + l.size ≤ cells.size := by
      have : (i + 1) * sz ≤ cap * sz := Nat.mul_le_mul_right _ (by omega)
      rw [Nat.succ_mul] at this; omega
    have hrun := run_storeAt (P := P) (hC _ _ hT) g8 hrx h1 h2 (off := i * sz + off) hfit
    have hxl : (a.eval x).cells.toList.length = l.size := by rw [hxc.1, h2]
    have hcl : (setRange (cellsOf (es.getD i .any)) off (cellsOf (s.ev x))).length = (cellsOf (es.getD i .any)).length := setRange_length _ _ _
    have hfit2 : off + (cellsOf (s.ev x)).length ≤ (cellsOf (es.getD i .any)).length := by rw [h2, g5 i hi]; exact h3
    have hsame : (cellsOf (reCells (es.getD i .any) (setRange (cellsOf (es.getD i .any)) off (cellsOf (s.ev x))))).length = sz ∧
        ∀ j, j < sz → (cellsOf (reCells (es.getD i .any) (setRange (cellsOf (es.getD i .any)) off (cellsOf (s.ev x))))).getD j .any = (setRange (cellsOf (es.getD i .any)) off (cellsOf (s.ev x))).getD j .any := by
      have hE1 := g5 i hi
      rcases reCells_cells hcl with hh | ⟨y, hy1, hy2, hy3⟩
      · rw [hh, hcl, hE1]; exact ⟨rfl, fun _ _ => rfl⟩
      · have hone : sz = 1 := by rw [hy1] at hcl; simp only [List.length_cons, List.length_nil] at hcl; omega
        rw [hy2, hy1]
        -- one cell: what is stored is one
        have ho0 : off = 0 := by have := (hC _ _ hT).pos; omega
        have hl1 : l.size = 1 := by have := (hC _ _ hT).pos; omega
        have hyo : y.one = true := by
          have hg := setRange_get (cellsOf (s.ev x)) (cellsOf (es.getD i .any)) off 0 hfit2
          rw [hy1, if_neg (by omega), if_pos (by omega), ho0] at hg
          have := AV.solid_one h1 0 (by omega)
          rw [List.getD_eq_getElem?_getD, ← hg] at this
          exact this
        have hyc : cellsOf y = [y] := by
          cases y <;> first | rfl | (simp [AV.one] at hyo)
        rw [hyc]
        exact ⟨by simp [hone], fun j hj => rfl⟩
    have hnew : RepE V sz (cells.toList.take (i * sz + off) ++ (a.eval x).cells.toList ++ cells.toList.drop (i * sz + off + (a.eval x).cells.toList.length))
        (es.set i (reCells (es.getD i .any) (setRange (cellsOf (es.getD i .any)) off (cellsOf (s.ev x))))) := by
      have hget : ∀ k, (cells.toList.take (i * sz + off) ++ (a.eval x).cells.toList ++ cells.toList.drop (i * sz + off + (a.eval x).cells.toList.length)).getD k undef =
          if i * sz + off ≤ k ∧ k < i * sz + off + l.size then (a.eval x).cells.toList.getD (k - (i * sz + off)) undef else cells.toList.getD k undef := by
        intro k
        have hlt : (cells.toList.take (i * sz + off)).length = i * sz + off := by simp; omega
        by_cases e1 : k < i * sz + off
        · rw [if_neg (by omega), List.append_assoc, getD_app_l _ _ _ (by omega)]
          simp [List.getD_eq_getElem?_getD, List.getElem?_take, e1]
        · by_cases e2 : k < i * sz + off + l.size
          · rw [if_pos ⟨by omega, e2⟩, List.append_assoc, getD_app_r _ _ _ (by omega), hlt, getD_app_l _ _ _ (by omega)]
          · rw [if_neg (by omega), getD_app_r _ _ _ (by simp only [List.length_append, hlt, hxl]; omega)]
            simp only [List.length_append, hlt, hxl, List.getD_eq_getElem?_getD, List.getElem?_drop]
            congr 2; omega
      refine ⟨fun q hq => ?_, fun q j hq hj => ?_⟩
      · simp only [List.length_set] at hq
        by_cases e : q = i
        · subst e
          rw [getD_set _ hq]
          exact hsame.1
        · have := g5 q hq
          simpa [List.getD_eq_getElem?_getD, List.getElem?_set, Ne.symm e] using this
      · simp only [List.length_set] at hq
        rw [hget]
        by_cases e : q = i
        · subst e
          rw [getD_set _ hq]
          rw [hsame.2 j hj, List.getD_eq_getElem?_getD (l := setRange _ _ _), setRange_get _ _ _ _ (by rw [g5 q hq, h2]; exact h3)]
          by_cases e1 : off ≤ j ∧ j < off + l.size
          · rw [if_pos (by omega), if_neg (by omega), if_pos (by omega), show q * sz + j - (q * sz + off) = j - off by omega]
            have := hxc.2 (j - off) (by omega)
            simpa [List.getD_eq_getElem?_getD] using this
          · rw [if_neg (by omega)]
            have hold : (if j < off then (cellsOf (es.getD q .any))[j]? else if j < off + (cellsOf (s.ev x)).length then (cellsOf (s.ev x))[j - off]? else (cellsOf (es.getD q .any))[j]?) = (cellsOf (es.getD q .any))[j]? := by
              by_cases e2 : j < off
              · rw [if_pos e2]
              · rw [if_neg e2, if_neg (by omega)]
            rw [hold]
            have := g10.2 q j hq hj
            simpa [List.getD_eq_getElem?_getD] using this
        · have hne : ¬ (i * sz + off ≤ q * sz + j ∧ q * sz + j < i * sz + off + l.size) := by
            rcases Nat.lt_or_gt_of_ne e with hlt | hgt
            · have : (q + 1) * sz ≤ i * sz := Nat.mul_le_mul_right _ hlt
              rw [Nat.succ_mul] at this; omega
            · have : (i + 1) * sz ≤ q * sz := Nat.mul_le_mul_right _ hgt
              rw [Nat.succ_mul] at this; omega
          rw [if_neg hne]
          have := g10.2 q j hq hj
          simpa [List.getD_eq_getElem?_getD, List.getElem?_set, Ne.symm e] using this
    refine ⟨.skip, w.setRow b (cells.toList.take (i * sz + off) ++ (a.eval x).cells.toList ++ cells.toList.drop (i * sz + off + (a.eval x).cells.toList.length)).toArray, V, ?_, .refl V, below_setRow w b _ g7, ?_, setObj_env _ _ _, setObj_n _ _ _, setObj_b _ _ _, .inr ⟨rfl, rfl⟩⟩
    · simp only [execOp, hop, hpv, Sem.run_bind, hrun, Result.andThen_ok, Sem.run_pure]
    · refine hr.toW.setObj ho (hr.inv.write r _ _ ho b (by simp [own, hl]) (by simp [World.setRow]) (fun k hk => setRow_other w b k _ hk) V (.refl V) (fun _ _ _ => rfl) (fun o v hv => by rw [g11 o] at hv; cases hv) (fun _ _ _ => rfl) ?_ (by simp [own, hl])) ?_
      · refine ⟨some b, cap, hl, g2, by simpa using g3, g4, hnew.1, g7, _, ty, setRow_heap w b cells _ ty _ g8, ?_, fun q j hq hj => ?_, g11⟩
        · simp [List.length_append] at hxl ⊢; omega
        · have := hnew.2 q j hq hj
          simpa [List.getD_eq_getElem?_getD] using this
      · intro hlt
        have hb0 : AV.belL s.b es = true := by
          have := hr.bel (.arr v' sz es) (by unfold AState.obj at ho; rw [if_pos hlt] at ho; exact List.mem_of_getElem? ho)
          exact this
        have hxb := cellsOf_bel (h4 hlt)
        have hib : (es.getD i .any).bel s.b = true := by
          rw [getD_lt _ hi]; exact (belL_iff _ _).1 hb0 _ (List.getElem_mem hi)
        have hsr := belL_setRange off (cellsOf_bel hib) hxb
        have hre : (reCells (es.getD i .any) (setRange (cellsOf (es.getD i .any)) off (cellsOf (s.ev x)))).bel s.b = true := by
          exact reCells_bel hsr hcl
        simp only [AObj.bel]
        rw [belL_iff] at hb0 ⊢
        intro y hy
        rcases List.mem_or_eq_of_mem_set hy with h | h
        · exact hb0 y h
        · rw [h]; exact hre

end
end Go.Ab

/- The executor's operations run as the model's do: slices, maps, builtins. Condition: the executor's table of types is the program's. -/
set_option linter.unusedSimpArgs false
namespace Go.Ab
open Go.RowKit (Below)

section
variable {P : Program} {C : Cfg} {V : View} {w : World} {s : AState} {a : Act} {o : Oper}

theorem snd_bin (hC : CfgOK P C) (hr : Rel V a w s) {op : BinOp} {t yt : Nat} {x y : Operand} {l : TL} {c : Prop} {v : AV} (hx : opndOK x = true) (hy : opndOK y = true) (hT : C.ty t = some l) (h : abin l.d l.two op (s.ev x) (s.ev y) = some (c, v)) (hc : c)
    (hop : o.op = .binOp op t x y yt) : OpSound P V a w s o ⟨c, v, s⟩ := by
  obtain ⟨u, hu, hrep⟩ := run_bin (P := P) (w := w) op (hC _ _ hT) (ev_rep hr x hx) (ev_rep hr y hy) h hc
  have hg := run_eqGuard (P := P) (w := w) op (t := t) (x := x) (y := y) (hC _ _ hT) (ev_rep hr x hx) (ev_rep hr y hy) h
  refine .val hr (u := u) ?_ hrep
  simp only [execOp, hop, Sem.run_bind, hg, Result.andThen_ok, hu, Sem.run_pure]

theorem snd_un (hr : Rel V a w s) {op : UnOp} {t : Nat} {x : Operand} {v : AV} (hx : opndOK x = true) (h : (∃ b, op = .not ∧ s.ev x = .bool b ∧ v = .bool (!b)) ∨ (∃ k n, op = .neg ∧ s.ev x = .int k n ∧ v = .int k (k.wrap (0 - n))))
    (hop : o.op = .unOp op t x) : OpSound P V a w s o ⟨True, v, s⟩ := by
  have hrx := ev_rep hr x hx
  rcases h with ⟨b, rfl, hb, rfl⟩ | ⟨k, n, rfl, hn, rfl⟩
  · rw [hb] at hrx
    generalize hv : a.eval x = u at hrx
    cases hrx
    exact .val hr (u := .bool (!b)) (by simp only [execOp, hop, hv, Op.unary, Sem.run_bind, Sem.run_pure, Result.andThen_ok]) (.bool _)
  · rw [hn] at hrx
    generalize hv : a.eval x = u at hrx
    cases hrx
    exact .val hr (u := .int k (k.wrap (0 - n))) (by simp only [execOp, hop, hv, Op.unary, Op.intArith, Sem.run_bind, Sem.run_pure, Result.andThen_ok]) (rep_wrap _ _)

theorem snd_conv (hC : CfgOK P C) (hr : Rel V a w s) {src dst : Nat} {x : Operand} {ls ld : TL} {k k' : IntKind} {n : Int} (hx : opndOK x = true) (h1 : C.ty src = some ls) (h2 : C.ty dst = some ld) (hd : ld.d = .int k) (hn : s.ev x = .int k' n)
    (hop : o.op = .convert src dst x) : OpSound P V a w s o ⟨True, .int k (k.wrap n), s⟩ := by
  obtain ⟨d1, hd1, _⟩ := (hC _ _ h1).run_underlying w
  obtain ⟨d2, hd2, hdd⟩ := (hC _ _ h2).run_underlying w
  rw [hd] at hdd; simp only [DescOK] at hdd; subst hdd
  have hrx := ev_rep hr x hx
  rw [hn] at hrx
  generalize hv : a.eval x = u at hrx
  cases hrx
  refine .val hr (u := .int k (k.wrap n)) ?_ (rep_wrap _ _)
  simp only [execOp, hop, hv, convert, Sem.run_bind, hd1, hd2, Result.andThen_ok]
  cases d1 <;> simp [Conv.intToInt]

theorem snd_fieldAddr (hC : CfgOK P C) (hr : Rel V a w s) {t f : Nat} {x : Operand} {l lf : TL} {fs : List (Nat × Nat)} {k ft : Nat} {v : AV} (hx : opndOK x = true) (hT : C.ty t = some l) (hd : l.d = .st fs) (hf : fs[f]? = some (k, ft)) (hlf : C.ty ft = some lf)
    (hs : shift k (s.ev x) = some v) (hop : o.op = .fieldAddr t x f) : OpSound P V a w s o ⟨True, v, s⟩ := by
  obtain ⟨d, hrd, hdd⟩ := (hC _ _ hT).run_underlying w
  rw [hd] at hdd
  obtain ⟨fa, rfl, rfl⟩ := hdd
  obtain ⟨b, q, hv, hrep⟩ := (ev_rep hr x hx).shift hs
  rw [List.getElem?_map, Option.map_eq_some_iff] at hf
  obtain ⟨fld, hfl, hfe⟩ := hf
  simp only [Prod.mk.injEq] at hfe
  obtain ⟨rfl, rfl⟩ := hfe
  have hfl' : fa[f]? = some fld := by simpa using hfl
  have hsz := (hC _ _ hlf).run_sizeOf w
  have hpos := (hC _ _ hlf).pos
  refine .val hr (u := .pointer (some ⟨b, q + fld.offset, none⟩)) ?_ hrep
  have hne : ¬ lf.size = 0 := by omega
  simp only [execOp, hop, hv, Instr.fieldAt, Sem.run_bind, hrd, Result.andThen_ok, hfl', Instr.sureAddr, Sem.run_pure, fieldPlace, hsz]
  simp [hne, addr_add]

theorem snd_field (hC : CfgOK P C) (hr : Rel V a w s) {t f : Nat} {x : Operand} {l lf : TL} {fs : List (Nat × Nat)} {k ft : Nat} {cs : List AV} (hx : opndOK x = true) (hT : C.ty t = some l) (hd : l.d = .st fs) (hf : fs[f]? = some (k, ft)) (hlf : C.ty ft = some lf)
    (hs : s.ev x = .agg cs) (hc : (partA lf cs k).1) (hop : o.op = .field t x f) : OpSound P V a w s o ⟨(partA lf cs k).1, (partA lf cs k).2, s⟩ := by
  obtain ⟨d, hrd, hdd⟩ := (hC _ _ hT).run_underlying w
  rw [hd] at hdd
  obtain ⟨fa, rfl, rfl⟩ := hdd
  have hrx := ev_rep hr x hx
  rw [hs] at hrx
  obtain ⟨cells, hv, hcs⟩ := RepL.of_agg hrx
  rw [List.getElem?_map, Option.map_eq_some_iff] at hf
  obtain ⟨fld, hfl, hfe⟩ := hf
  simp only [Prod.mk.injEq] at hfe
  obtain ⟨rfl, rfl⟩ := hfe
  have hfl' : fa[f]? = some fld := by simpa using hfl
  obtain ⟨u, hu, hrep⟩ := run_part (P := P) (w := w) (hC _ _ hlf) hcs hc
  refine .val hr (u := u) ?_ hrep
  simp only [execOp, hop, hv, Instr.field, Sem.run_bind, hrd, Result.andThen_ok, hfl', asAgg, Sem.run_pure, hu]

theorem snd_indexAddr_sl (hC : CfgOK P C) (hr : Rel V a w s) {t e : Nat} {x i : Operand} {l le : TL} {es : List AV} {tk : Tk} {k : IntKind} {n : Int} (hx : opndOK x = true) (hi : opndOK i = true) (hT : C.ty t = some l) (hd : l.d = .sl e) (hle : C.ty e = some le)
    (hev : s.ev x = .sl es tk) (hev2 : s.ev i = .int k n) {cnd : Prop} (hc : 0 ≤ n ∧ n < es.length ∧ (cellsOf (es.getD n.toNat .any)).length = le.size) (hop : o.op = .indexAddr t x i) :
    OpSound P V a w s o ⟨cnd, .eptr (cellsOf (es.getD n.toNat .any)) 0, s⟩ := by
  obtain ⟨h1, h2, h3⟩ := hc
  obtain ⟨d, hrd, hdd⟩ := (hC _ _ hT).run_underlying w
  rw [hd] at hdd; simp only [DescOK] at hdd; subst hdd
  have hsz := (hC _ _ hle).run_sizeOf w
  have hrx := ev_rep hr x hx
  have hri := ev_rep hr i hi
  rw [hev] at hrx
  rw [hev2] at hri
  generalize hv : a.eval x = u at hrx
  generalize hv2 : a.eval i = u2 at hri
  cases hri
  cases hrx with
  | sl bse len cap _ _ size b q val hl hcap hm hb hs himm hrr ht hf =>
    have hlt : n.toNat < len := by omega
    have hbs := hb (by omega)
    subst hbs
    have hse : size = le.size := by rw [← h3]; exact (hs _ hlt).symm
    subst hse
    refine .val hr (u := .pointer (some ⟨b, q + n.toNat * le.size + 0, none⟩)) ?_ (.eptr _ 0 b (q + n.toNat * le.size) (fun j => val (n.toNat * le.size + j)) (fun j hj => ?_) (fun j hj => ?_))
    · have hcond : 0 ≤ n ∧ n < (len : Int) := by omega
      simp only [execOp, hop, hv, hv2, Instr.indexAt, asIntOf, Sem.run_bind, Sem.run_pure, Result.andThen_ok, hrd]
      simp [hcond, hsz, addr_add]
    · rw [Nat.add_assoc]
      refine himm _ ?_
      rw [h3] at hj
      have : (n.toNat + 1) * le.size ≤ len * le.size := Nat.mul_le_mul_right _ hlt
      rw [Nat.succ_mul] at this; omega
    · rw [h3] at hj
      exact hrr _ _ hlt hj

theorem snd_indexAddr_ms (hC : CfgOK P C) (hr : Rel V a w s) {t e : Nat} {x i : Operand} {l le : TL} {r ver len : Nat} {k : IntKind} {n : Int} (hx : opndOK x = true) (hi : opndOK i = true) (hT : C.ty t = some l) (hd : l.d = .sl e) (hle : C.ty e = some le)
    (hev : s.ev x = .ms r ver len) (hev2 : s.ev i = .int k n) {cnd : Prop} (hc : 0 ≤ n ∧ n < len) (hop : o.op = .indexAddr t x i) :
    OpSound P V a w s o ⟨cnd, .aptr r ver le.size n.toNat 0, s⟩ := by
  obtain ⟨h1, h2⟩ := hc
  obtain ⟨d, hrd, hdd⟩ := (hC _ _ hT).run_underlying w
  rw [hd] at hdd; simp only [DescOK] at hdd; subst hdd
  have hsz := (hC _ _ hle).run_sizeOf w
  have hrx := ev_rep hr x hx
  have hri := ev_rep hr i hi
  rw [hev] at hrx
  rw [hev2] at hri
  generalize hv : a.eval x = u at hrx
  generalize hv2 : a.eval i = u2 at hri
  cases hri
  cases hrx with
  | ms _ _ _ blk cap hl hcap hm hn =>
    cases blk with
    | none =>
      have := hn rfl
      omega
    | some b =>
      refine .val hr (u := .pointer (some ⟨b, n.toNat * le.size + 0, none⟩)) ?_ (.aptr _ _ _ _ _ b cap hl)
      have hcond : 0 ≤ n ∧ n < (len : Int) := by omega
      simp only [execOp, hop, hv, hv2, Instr.indexAt, asIntOf, Sem.run_bind, Sem.run_pure, Result.andThen_ok, hrd]
      simp [hcond, hsz, addr_add, baseOf]

end
end Go.Ab

/- The executor's operations run as the model's do: arrays, literals, slices, maps. Condition: the executor's table of types is the program's. -/
set_option linter.unusedSimpArgs false
namespace Go.Ab
open Go.RowKit (Below)

section
variable {P : Program} {C : Cfg} {V : View} {w : World} {s : AState} {a : Act} {o : Oper}

theorem snd_indexAddr_arr (hC : CfgOK P C) (hr : Rel V a w s) {t e m : Nat} {x i : Operand} {l le : TL} {k : IntKind} {n : Int} {v : AV} (hx : opndOK x = true) (hi : opndOK i = true) (hT : C.ty t = some l) (hd : l.d = .arr m e) (hle : C.ty e = some le)
    (hev2 : s.ev i = .int k n) (hs : shift (n.toNat * le.size) (s.ev x) = some v) {cnd : Prop} (hc : 0 ≤ n ∧ n < m) (hop : o.op = .indexAddr t x i) : OpSound P V a w s o ⟨cnd, v, s⟩ := by
  obtain ⟨h1, h2⟩ := hc
  obtain ⟨d, hrd, hdd⟩ := (hC _ _ hT).run_underlying w
  rw [hd] at hdd; simp only [DescOK] at hdd; subst hdd
  have hsz := (hC _ _ hle).run_sizeOf w
  have hri := ev_rep hr i hi
  rw [hev2] at hri
  generalize hv2 : a.eval i = u2 at hri
  cases hri
  obtain ⟨b, q, hv, hrep⟩ := (ev_rep hr x hx).shift hs
  refine .val hr (u := .pointer (some ⟨b, q + n.toNat * le.size, none⟩)) ?_ hrep
  have hcond : 0 ≤ n ∧ n < (m : Int) := by omega
  simp only [execOp, hop, hv, hv2, Instr.indexAt, asIntOf, Sem.run_bind, Sem.run_pure, Result.andThen_ok, hrd, Instr.sureAddr]
  simp [hcond, hsz, addr_add]

theorem snd_index_arr (hC : CfgOK P C) (hr : Rel V a w s) {t e m : Nat} {x i : Operand} {l le : TL} {k : IntKind} {n : Int} {cs : List AV} (hx : opndOK x = true) (hi : opndOK i = true) (hT : C.ty t = some l) (hd : l.d = .arr m e) (hle : C.ty e = some le)
    (hev : s.ev x = .agg cs) (hev2 : s.ev i = .int k n) {cnd : Prop} (hc : 0 ≤ n ∧ n < m ∧ (partA le cs (n.toNat * le.size)).1) (hop : o.op = .index t x i) : OpSound P V a w s o ⟨cnd, (partA le cs (n.toNat * le.size)).2, s⟩ := by
  obtain ⟨h1, h2, h3⟩ := hc
  obtain ⟨d, hrd, hdd⟩ := (hC _ _ hT).run_underlying w
  rw [hd] at hdd; simp only [DescOK] at hdd; subst hdd
  have hsz := (hC _ _ hle).run_sizeOf w
  have hri := ev_rep hr i hi
  rw [hev2] at hri
  generalize hv2 : a.eval i = u2 at hri
  cases hri
  have hrx := ev_rep hr x hx
  rw [hev] at hrx
  obtain ⟨cells, hv, hcs⟩ := RepL.of_agg hrx
  obtain ⟨u, hu, hrep⟩ := run_part (P := P) (w := w) (hC _ _ hle) hcs h3
  refine .val hr (u := u) ?_ hrep
  have hcond : 0 ≤ n ∧ n < (m : Int) := by omega
  simp only [execOp, hop, hv, hv2, Instr.index, asIntOf, Sem.run_bind, Sem.run_pure, Result.andThen_ok, hrd]
  simp [hcond, hsz, hu]

theorem snd_index_str (hC : CfgOK P C) (hr : Rel V a w s) {t : Nat} {x i : Operand} {l : TL} {k : IntKind} {n : Int} {b : ByteArray} (hx : opndOK x = true) (hi : opndOK i = true) (hT : C.ty t = some l) (hd : l.d = .str)
    (hev : s.ev x = .str b) (hev2 : s.ev i = .int k n) {cnd : Prop} (hc : 0 ≤ n ∧ n < b.size) (hop : o.op = .index t x i) : OpSound P V a w s o ⟨cnd, .int .u8 (byteAt b n.toNat), s⟩ := by
  obtain ⟨h1, h2⟩ := hc
  obtain ⟨d, hrd, hdd⟩ := (hC _ _ hT).run_underlying w
  rw [hd] at hdd; simp only [DescOK] at hdd; subst hdd
  have hri := ev_rep hr i hi
  rw [hev2] at hri
  generalize hv2 : a.eval i = u2 at hri
  cases hri
  have hrx := ev_rep hr x hx
  rw [hev] at hrx
  generalize hv : a.eval x = u at hrx
  cases hrx
  have hlt : n.toNat < b.size := by omega
  have hb : b[n.toNat]? = some b[n.toNat] := getElem?_pos b n.toNat hlt
  have hby : byteAt b n.toNat = (b[n.toNat]).toNat := by simp only [byteAt, hb]
  have hu8 := UInt8.toNat_lt (b[n.toNat])
  refine .val hr (u := .int .u8 (b[n.toNat]).toNat) ?_ ?_
  · simp only [execOp, hop, hv, hv2, Instr.index, asIntOf, Sem.run_bind, Sem.run_pure, Result.andThen_ok, hrd]
    simp [h1, hb]
  · rw [hby]
    refine .int _ _ ?_ ?_
    · simp [IntKind.min, IntKind.signed]
    · simp [IntKind.max, IntKind.signed, IntKind.bits]; omega

theorem mapM_places (hC : CfgOK P C) : ∀ (fs : List Field) (w : World), (∀ p ∈ fs, (C.ty p.type).isSome = true) →
    ∃ ps : List (Nat × Nat), (List.mapM (fun f : Field => (do pure (f.offset, ← sizeOf f.type) : Sem (Nat × Nat))) fs).run P w = .ok ps w ∧
      ps = fs.map fun f => (f.offset, ((C.ty f.type).map (·.size)).getD 0) := by
  intro fs
  induction fs with
  | nil => intro w _; exact ⟨[], rfl, rfl⟩
  | cons f fs ih =>
    intro w h
    obtain ⟨ps, h1, h2⟩ := ih w (fun p hp => h p (by simp [hp]))
    have h3 := h f (by simp)
    cases hf : C.ty f.type with
    | none => rw [hf] at h3; simp at h3
    | some lf =>
      have hsz := (hC _ _ hf).run_sizeOf w
      refine ⟨(f.offset, lf.size) :: ps, ?_, by simp [h2, hf]⟩
      rw [List.mapM_cons]
      simp only [Sem.run_bind, hsz, Result.andThen_ok, Sem.run_pure, h1]

theorem snd_build_st (hC : CfgOK P C) (hr : Rel V a w s) {t : Nat} {l : TL} {fs : List (Nat × Nat)} {parts : Array (Nat × Operand)} {c : Prop} {cs : List AV} (ho : ∀ p ∈ parts.toList, opndOK p.2 = true) (hT : C.ty t = some l) (hd : l.d = .st fs)
    (hf : fillA (placeSt C fs) (parts.toList.map fun p => (p.1, s.ev p.2)) (cellsOf l.zero) = some (c, cs)) {cnd : Prop} (hc : c ∧ (∀ p ∈ fs, (C.ty p.2).isSome = true)) (hop : o.op = .build t parts) : OpSound P V a w s o ⟨cnd, .agg cs, s⟩ := by
  obtain ⟨hc, hall⟩ := hc
  have hTy := hC _ _ hT
  obtain ⟨d, hrd, hdd⟩ := hTy.run_underlying w
  rw [hd] at hdd
  obtain ⟨fa, rfl, rfl⟩ := hdd
  obtain ⟨z, hz, hzr⟩ := hTy.run_zero w
  obtain ⟨ps, hps, hpe⟩ := mapM_places hC fa.toList w (fun p hp => hall (p.offset, p.type) (List.mem_map.2 ⟨p, hp, rfl⟩))
  obtain ⟨hp1, hp2⟩ := parts_rep (s := s) hr ho
  obtain ⟨r, hr1, hr2⟩ := fill_sound _ _ z.cells (cellsOf l.zero) hp1 hp2 ((hzr V).cellsL hTy.solid) hf hc
  refine .val hr (u := .agg r) ?_ (RepL.agg hr2)
  have hpl : (fun i => ps.toArray[i]?) = placeSt C (fa.toList.map fun x => (x.offset, x.type)) := by
    funext i
    rw [hpe]
    simp only [placeSt, List.getElem?_toArray, List.getElem?_map]
    cases hfi : fa.toList[i]? with
    | none => simp
    | some f =>
      have h3 := hall (f.offset, f.type) (List.mem_map.2 ⟨f, List.mem_of_getElem? hfi, rfl⟩)
      cases hf : C.ty f.type with
      | none => rw [hf] at h3; simp at h3
      | some lf => simp [hf]
  have hm : (Array.mapM (fun f : Field => (do pure (f.offset, ← sizeOf f.type) : Sem (Nat × Nat))) fa).run P w = .ok ps.toArray w := by
    rw [Array.mapM_eq_mapM_toList]
    simp only [Sem.run_map, hps, Result.andThen_ok]
  simp only [execOp, hop, Instr.build, Sem.run_bind, hz, Result.andThen_ok, hrd, hm, hpl, hr1, Sem.run_pure]

theorem snd_build_arr (hC : CfgOK P C) (hr : Rel V a w s) {t m e : Nat} {l le : TL} {parts : Array (Nat × Operand)} {c : Prop} {cs : List AV} (ho : ∀ p ∈ parts.toList, opndOK p.2 = true) (hT : C.ty t = some l) (hd : l.d = .arr m e) (hle : C.ty e = some le)
    (hf : fillA (fun i => some (i * le.size, le.size)) (parts.toList.map fun p => (p.1, s.ev p.2)) (cellsOf l.zero) = some (c, cs)) (hc : c) (hop : o.op = .build t parts) : OpSound P V a w s o ⟨c, .agg cs, s⟩ := by
  have hTy := hC _ _ hT
  obtain ⟨d, hrd, hdd⟩ := hTy.run_underlying w
  rw [hd] at hdd; simp only [DescOK] at hdd; subst hdd
  obtain ⟨z, hz, hzr⟩ := hTy.run_zero w
  obtain ⟨hp1, hp2⟩ := parts_rep (s := s) hr ho
  obtain ⟨r, hr1, hr2⟩ := fill_sound _ _ z.cells (cellsOf l.zero) hp1 hp2 ((hzr V).cellsL hTy.solid) hf hc
  have hsz := (hC _ _ hle).run_sizeOf w
  refine .val hr (u := .agg r) ?_ (RepL.agg hr2)
  simp only [execOp, hop, Instr.build, Sem.run_bind, hz, Result.andThen_ok, hrd, hsz, hr1, Sem.run_pure]

theorem zeros_rep {V : View} {z : Value} {l : TL} (hz : Rep V z l.zero) (hs : l.zero.solid = true) (hl : (cellsOf l.zero).length = l.size) (n : Nat) :
    RepE V l.size ((Array.range (n * l.size)).map (fun i => z.cells[i % z.cells.size]!)).toList (List.replicate n l.zero) := by
  have hc := hz.cellsL hs
  have hzs : z.cells.size = l.size := by rw [← hl, ← hc.1]; simp
  refine ⟨fun i hi => ?_, fun i j hi hj => ?_⟩
  · simp at hi; simp [List.getD_eq_getElem?_getD, hi, hl]
  · simp at hi
    have hlt : i * l.size + j < n * l.size := by
      have : (i + 1) * l.size ≤ n * l.size := Nat.mul_le_mul_right _ hi
      rw [Nat.succ_mul] at this; omega
    have hmod : (i * l.size + j) % l.size = j := by rw [Nat.add_comm, Nat.add_mul_mod_self_right]; exact Nat.mod_eq_of_lt hj
    have h1 := hc.2 j (by omega)
    have hjz : j < z.cells.size := by omega
    rw [show (List.replicate n l.zero).getD i .any = l.zero by simp [List.getD_eq_getElem?_getD, hi]]
    have : ((Array.range (n * l.size)).map (fun i => z.cells[i % z.cells.size]!)).toList.getD (i * l.size + j) undef = z.cells.toList.getD j undef := by
      simp [List.getD_eq_getElem?_getD, hlt, hzs, hmod]
      rw [getElem!_pos z.cells j hjz, Array.getElem?_eq_getElem hjz]; rfl
    rw [this]
    exact h1

theorem zeroCells_run (hC : CfgOK P C) {e : Nat} {le : TL} (hle : C.ty e = some le) (n : Nat) (w : World) : ∃ zc : Array Value,
    (n * le.size = 0 → zc = #[]) ∧ (¬ n * le.size = 0 → ∃ z, (zeroValue e).run P w = .ok z w ∧ zc = z.cells) ∧
    ∀ V, RepE V le.size ((Array.range (n * le.size)).map (fun i => zc[i % zc.size]!)).toList (List.replicate n le.zero) := by
  obtain ⟨z, hz, hzr⟩ := (hC _ _ hle).run_zero w
  by_cases h0 : n * le.size = 0
  · refine ⟨#[], fun _ => rfl, fun h => absurd h0 h, fun V => ?_⟩
    have hn : n = 0 := by
      rcases Nat.mul_eq_zero.1 h0 with h | h
      · exact h
      · have := (hC _ _ hle).pos; omega
    subst hn
    exact ⟨fun i hi => absurd hi (by simp), fun i j hi => absurd hi (by simp)⟩
  · exact ⟨z.cells, fun h => absurd h h0, fun _ => ⟨z, hz, rfl⟩, fun V => zeros_rep (hzr V) (hC _ _ hle).solid (hC _ _ hle).size n⟩

theorem run_buildSlice (hC : CfgOK P C) (hr : Rel V a w s) {t e len : Nat} {l le : TL} {parts : Array (Nat × Operand)} (ho : ∀ p ∈ parts.toList, opndOK p.2 = true) (hT : C.ty t = some l) (hd : l.d = .sl e) (hle : C.ty e = some le)
    (hc : (fillE le.size (parts.toList.map fun p => (p.1, s.ev p.2)) (List.replicate len le.zero)).1 ∧ len * le.size ≤ 2 ^ 24) (hop : o.op = .buildSlice t len parts) :
    ∃ cells : Array Value, RepE V le.size cells.toList (fillE le.size (parts.toList.map fun p => (p.1, s.ev p.2)) (List.replicate len le.zero)).2 ∧ cells.size = len * le.size ∧
      (execOp a.eval o).run P w = .ok (.value (.slice (some ⟨w.heap.size, 0, none⟩) len len)) (w.alloc (.cells cells e)) := by
  obtain ⟨d, hrd, hdd⟩ := (hC _ _ hT).run_underlying w
  rw [hd] at hdd; simp only [DescOK] at hdd; subst hdd
  have hsz := (hC _ _ hle).run_sizeOf w
  obtain ⟨zc, hz0, hz1, hzr⟩ := zeroCells_run hC hle len w
  obtain ⟨hp1, hp2⟩ := parts_rep (s := s) hr ho
  obtain ⟨r, hr1, hr2, hr3⟩ := fillE_sound _ _ _ _ hp1 hp2 (hzr V) (by simp) hc.1
  refine ⟨r, hr2, by rw [hr3]; simp, ?_⟩
  have hnot : ¬ (16777216 < len * le.size) := by have := hc.2; simp at this; omega
  simp only [execOp, hop, Instr.buildSlice, Sem.run_bind, hrd, Result.andThen_ok, hsz]
  rw [if_neg (by omega)]
  by_cases h0 : len * le.size = 0
  · have := hz0 h0
    subst this
    simp only [h0, if_true, Sem.run_bind, Result.andThen_ok, Sem.run_pure, Go.newRow, run_newObj, World.alloc_eq]
    rw [h0] at hr1
    simp only [hr1, Sem.run_bind, Result.andThen_ok, Sem.run_pure, run_newObj, World.alloc_eq]
  · obtain ⟨z, hz, rfl⟩ := hz1 h0
    simp only [h0, if_false, Sem.run_bind, Result.andThen_ok, Sem.run_pure, Go.newRow, run_newObj, World.alloc_eq, hz, hr1]

theorem snd_buildSlice (hC : CfgOK P C) (hr : Rel V a w s) {t e len : Nat} {l le : TL} {parts : Array (Nat × Operand)} (ho : ∀ p ∈ parts.toList, opndOK p.2 = true) (hT : C.ty t = some l) (hd : l.d = .sl e) (hle : C.ty e = some le) {cnd : Prop}
    (hc : (fillE le.size (parts.toList.map fun p => (p.1, s.ev p.2)) (List.replicate len le.zero)).1 ∧ len * le.size ≤ 2 ^ 24) (hop : o.op = .buildSlice t len parts) :
    OpSound P V a w s o ⟨cnd, .sl (fillE le.size (parts.toList.map fun p => (p.1, s.ev p.2)) (List.replicate len le.zero)).2 .cap, s⟩ ∧
    OpSound P V a w s o ⟨cnd, .ms (s.b + s.L.length) 0 len, s.new (.arr 0 le.size (fillE le.size (parts.toList.map fun p => (p.1, s.ev p.2)) (List.replicate len le.zero)).2)⟩ := by
  obtain ⟨cells, hE, hsz, hrun⟩ := run_buildSlice hC hr ho hT hd hle hc hop
  have hlen : (fillE le.size (parts.toList.map fun p => (p.1, s.ev p.2)) (List.replicate len le.zero)).2.length = len := by rw [fillE_length]; simp
  have hlm : len ≤ maxLen := by
    have h1 := hc.2
    have h2 := (hC _ _ hle).pos
    have : len * 1 ≤ len * le.size := Nat.mul_le_mul_left _ h2
    simp only [maxLen]; omega
  refine ⟨?_, ?_⟩
  · obtain ⟨V', hV, hrel, hrep⟩ := new_row hr.toW hE (by rw [hlen]; exact hsz) (by rw [hlen]; exact hlm) e
    rw [hlen] at hrep
    exact ⟨_, _, V', hrun, hV, below_alloc w _ hr.inv.base, hrel, rfl, rfl, rfl, .inl ⟨_, rfl, hrep⟩⟩
  · obtain ⟨V', hV, hloc, hrel⟩ := new_arr hr.toW hE (cap := len) (by rw [hlen]; exact Nat.le_refl _) hlm hsz e
    exact ⟨_, _, V', hrun, hV, below_alloc w _ hr.inv.base, hrel, rfl, rfl, rfl, .inl ⟨_, rfl, .ms _ _ _ (some w.heap.size) len hloc (Nat.le_refl _) hlm (fun h => by cases h)⟩⟩

theorem snd_makeSlice (hC : CfgOK P C) (hr : Rel V a w s) {t e : Nat} {l le : TL} {x y : Operand} {n c : Int} (hx : opndOK x = true) (hy : opndOK y = true) (hT : C.ty t = some l) (hd : l.d = .sl e) (hle : C.ty e = some le)
    (hev : s.ev x = .int .i64 n) (hev2 : s.ev y = .int .i64 c) {cnd : Prop} (hc : 0 ≤ n ∧ n = c ∧ n * le.bytes ≤ bytesMax) (hop : o.op = .makeSlice t x y) :
    OpSound P V a w s o ⟨cnd, .sl (List.replicate n.toNat le.zero) .cap, s⟩ ∧ OpSound P V a w s o ⟨cnd, .ms (s.b + s.L.length) 0 n.toNat, s.new (.arr 0 le.size (List.replicate n.toNat le.zero))⟩ := by
  obtain ⟨h1, rfl, h3⟩ := hc
  obtain ⟨d, hrd, hdd⟩ := (hC _ _ hT).run_underlying w
  rw [hd] at hdd; simp only [DescOK] at hdd; subst hdd
  obtain ⟨i, z, hi1, hi2, hi3, _⟩ := (hC _ _ hle).info
  have hsz := (hC _ _ hle).run_sizeOf w
  have hrx := ev_rep hr x hx
  have hry := ev_rep hr y hy
  rw [hev] at hrx
  rw [hev2] at hry
  generalize hv : a.eval x = u at hrx
  generalize hv2 : a.eval y = u2 at hry
  cases hrx with
  | int _ _ hr1 hr2 =>
  cases hry
  have hwr : IntKind.wrap .i64 n = n := wrap_id _ _ hr1 hr2
  obtain ⟨zc, hz0, hz1, hzr⟩ := zeroCells_run hC hle n.toNat w
  have hnm : n.toNat ≤ maxLen := by simp only [IntKind.max, IntKind.signed, IntKind.bits, if_true] at hr2; simp only [maxLen]; omega
  have hrun : (execOp a.eval o).run P w = .ok (.value (.slice (some ⟨w.heap.size, 0, none⟩) n.toNat n.toNat)) (w.alloc (.cells ((Array.range (n.toNat * le.size)).map (fun i => zc[i % zc.size]!)) e)) := by
    have hbig : ¬ (281474976710656 < (i.bytes : Int) * n) := by
      rw [hi3, Int.mul_comm]; simp only [bytesMax] at h3; omega
    simp only [execOp, hop, hv, hv2, Instr.makeSlice, Sem.run_bind, hrd, Result.andThen_ok, asInt, asIntOf, Sem.run_pure, typeInfo, run_program, hi1, hwr]
    have hcond : ((decide (n < 0) || decide ((i.bytes : Int) * n > 2 ^ 48)) || decide (n < 0) || decide (n > n)) = false := by
      have e1 : ¬ n < 0 := by omega
      have e2 : ¬ ((i.bytes : Int) * n > 2 ^ 48) := by simpa using hbig
      simp [e1, hbig]
    rw [if_neg (by rw [hcond]; simp)]
    simp only [Sem.run_bind, Sem.run_pure, Result.andThen_ok, run_askRoom, hsz, Go.newRow]
    by_cases h0 : n.toNat * le.size = 0
    · have := hz0 h0
      subst this
      simp only [h0, if_true, Sem.run_bind, Result.andThen_ok, Sem.run_pure, run_newObj, World.alloc_eq]
    · obtain ⟨z, hz, rfl⟩ := hz1 h0
      simp only [h0, if_false, Sem.run_bind, Result.andThen_ok, Sem.run_pure, run_newObj, World.alloc_eq, hz]
  refine ⟨?_, ?_⟩
  · obtain ⟨V', hV, hrel, hrep⟩ := new_row hr.toW (hzr V) (by simp) (by simpa using hnm) e
    simp only [List.length_replicate] at hrep
    exact ⟨_, _, V', hrun, hV, below_alloc w _ hr.inv.base, hrel, rfl, rfl, rfl, .inl ⟨_, rfl, hrep⟩⟩
  · obtain ⟨V', hV, hloc, hrel⟩ := new_arr hr.toW (hzr V) (cap := n.toNat) (by simp) hnm (by simp) e
    exact ⟨_, _, V', hrun, hV, below_alloc w _ hr.inv.base, hrel, rfl, rfl, rfl, .inl ⟨_, rfl, .ms _ _ _ (some w.heap.size) n.toNat hloc (Nat.le_refl _) hnm (fun h => by cases h)⟩⟩

theorem snd_extract (hr : Rel V a w s) {x : Operand} {i : Nat} {vs : List AV} (hx : opndOK x = true) (hev : s.ev x = .tup vs) (hc : i < vs.length) (hop : o.op = .extract x i) : OpSound P V a w s o ⟨i < vs.length, vs.getD i .any, s⟩ := by
  have hrx := ev_rep hr x hx
  rw [hev] at hrx
  obtain ⟨cs, hv, hcs⟩ := RepL.of_tup hrx
  have hlt : i < cs.size := by have := hcs.1; simp at this; omega
  refine .val hr (u := cs[i]) ?_ ?_
  · simp only [execOp, hop, hv, Instr.extract, Sem.run_bind]
    simp [hlt]
  · have := hcs.2 i hc
    simpa [List.getD_eq_getElem?_getD, hlt] using this

theorem snd_makeMap (hr : Rel V a w s) {t : Nat} (hop : o.op = .makeMap t none) : OpSound P V a w s o ⟨True, .mp (s.b + s.L.length), s.new (.map [])⟩ := by
  obtain ⟨V', h1, h2, h3⟩ := new_map hr.toW
  refine ⟨_, _, V', ?_, h1, below_alloc w _ hr.inv.base, h3, rfl, rfl, rfl, .inl ⟨_, rfl, .mp _ _ _ h2⟩⟩
  simp only [execOp, hop, Instr.makeMap, Option.map_none, Sem.run_bind, run_newObj, Result.andThen_ok, Sem.run_pure, World.alloc_eq]

end
end Go.Ab

/- The executor's operations run as the model's do: slices of slices, maps, builtins; all joined. Condition: the executor's table of types is the program's. -/
set_option linter.unusedSimpArgs false
namespace Go.Ab
open Go.RowKit (Below)

theorem bytes_eq {a b : ByteArray} (h : (a == b) = true) : a = b := by
  cases a with | mk x => cases b with | mk y =>
  have h' : (x == y) = true := h
  rw [beq_iff_eq] at h'
  rw [h']

section
variable {P : Program} {C : Cfg} {V : View} {w : World} {s : AState} {a : Act} {o : Oper}

theorem optInt_rep {V : View} {x : Option AV} {u : Option Value} {d n : Int} (h : optInt x d = some n) (hu : (x = none ∧ u = none) ∨ ∃ y v, x = some y ∧ u = some v ∧ Rep V v y) :
    (u = none ∧ x = none ∧ n = d) ∨ ∃ k, u = some (.int k n) ∧ x = some (.int k n) := by
  rcases hu with ⟨rfl, rfl⟩ | ⟨y, v, rfl, rfl, hr⟩
  · simp only [optInt, Option.some.injEq] at h; exact .inl ⟨rfl, rfl, h.symm⟩
  · cases hr <;> simp [optInt] at h
    subst h
    exact .inr ⟨_, rfl, rfl⟩

theorem map_ev (hr : Rel V a w s) {x : Option Operand} (hx : ∀ y, x = some y → opndOK y = true) : (x.map s.ev = none ∧ x.map a.eval = none) ∨ ∃ y v, x.map s.ev = some y ∧ x.map a.eval = some v ∧ Rep V v y := by
  cases x with
  | none => exact .inl ⟨rfl, rfl⟩
  | some y => exact .inr ⟨_, _, rfl, rfl, ev_rep hr y (hx y rfl)⟩

theorem run_bound {k : IntKind} {n : Int} {y : Nat} {code : BoundsCode} (h : 0 ≤ n ∧ n ≤ y) : (Instr.sliceBound (.int k n) y code).run P w = .ok n.toNat w := by
  simp only [Instr.sliceBound, asIntOf, Sem.run_bind, Sem.run_pure, Result.andThen_ok]
  rw [if_pos h]
  rfl

theorem sl_sub {V : View} {base : Option Addr} {len cap : Nat} {es : List AV} {tk : Tk} {size : Nat} (h : Rep V (.slice base len cap) (.sl es tk)) (hsz : ∀ y ∈ es, (cellsOf y).length = size) {l h' : Nat} (hl : l ≤ h') (hh : h' ≤ len) :
    Rep V (.slice (if cap = l then base else base.map (·.add (l * size))) (h' - l) (cap - l)) (.sl ((es.take h').drop l) .no) := by
  cases h with
  | sl _ _ _ _ _ size' b q val hlen hcap hm hb hs hi hr ht hf =>
    rcases Nat.eq_or_lt_of_le hl with he | hlt
    · subst he
      have h0 : ((es.take l).drop l) = [] := List.drop_eq_nil_of_le (by simp; omega)
      rw [h0, Nat.sub_self]
      exact .sl _ 0 (cap - l) [] .no 0 0 0 (fun _ => undef) rfl (Nat.zero_le _) (by omega) (fun h => absurd h (by omega)) (fun i h => absurd h (by omega)) (fun j h => absurd h (by omega)) (fun i j h => absurd h (by omega)) (fun r h => by cases h) ⟨fun h => (by cases h), fun h => (by cases h)⟩
    · have hse : size' = size := by
        have h1 := hs 0 (by omega)
        have h2 := hsz (es.getD 0 .any) (by rw [getD_lt _ (by omega)]; exact List.getElem_mem _)
        omega
      subst hse
      rw [if_neg (by omega)]
      have hget : ∀ i, i < h' - l → ((es.take h').drop l).getD i .any = es.getD (l + i) .any := fun i hi => by
        simp [List.getD_eq_getElem?_getD, List.getElem?_drop, List.getElem?_take, show l + i < h' by omega]
      refine .sl _ (h' - l) (cap - l) _ .no size' b (q + l * size') (fun j => val (l * size' + j)) (by simp; omega) (by omega) (by omega) (fun _ => ?_) (fun i hi' => ?_) (fun j hj => ?_) (fun i j hi' hj => ?_) (fun r h => by cases h) ⟨fun h => (by cases h), fun h => (by cases h)⟩
      · rw [hb (by omega)]; simp [addr_add]
      · rw [hget i hi']; exact hs _ (by omega)
      · rw [Nat.add_assoc]
        refine hi _ ?_
        have : (l + (h' - l)) * size' ≤ len * size' := Nat.mul_le_mul_right _ (by omega)
        rw [Nat.add_mul] at this; omega
      · rw [hget i hi', show l * size' + (i * size' + j) = (l + i) * size' + j by rw [Nat.add_mul]; omega]
        exact hr _ _ (by omega) hj

theorem snd_slice (hC : CfgOK P C) (hr : Rel V a w s) {t e : Nat} {l le : TL} {x : Operand} {lo hi mx : Option Operand} {out : Out} (hx : opndOK x = true) (h1 : ∀ y, lo = some y → opndOK y = true) (h2 : ∀ y, hi = some y → opndOK y = true) (h3 : ∀ y, mx = some y → opndOK y = true)
    (hT : C.ty t = some l) (hd : l.d = .sl e) (hle : C.ty e = some le) (h : effSlice le.size (s.ev x) (lo.map s.ev) (hi.map s.ev) (mx.map s.ev) s = some out) (hc : out.c) (hop : o.op = .slice t x lo hi mx) : OpSound P V a w s o out := by
  obtain ⟨d, hrd, hdd⟩ := (hC _ _ hT).run_underlying w
  rw [hd] at hdd; simp only [DescOK] at hdd; subst hdd
  have hsz := (hC _ _ hle).run_sizeOf w
  have hrx := ev_rep hr x hx
  have e1 := map_ev hr h1
  have e2 := map_ev hr h2
  have e3 := map_ev hr h3
  generalize hvx : a.eval x = vx at hrx
  generalize hax : s.ev x = ax at h hrx
  generalize hvl : lo.map a.eval = vl at e1
  generalize hal : lo.map s.ev = al at h e1
  generalize hvh : hi.map a.eval = vh at e2
  generalize hah : hi.map s.ev = ah at h e2
  generalize hvm : mx.map a.eval = vm at e3
  generalize ham : mx.map s.ev = am at h e3
  have hexec : (execOp a.eval o).run P w = ((Instr.sliceAt t vx vl vh vm).run P w).andThen fun u w' => .ok (.value u) w' := by
    simp only [execOp, hop, hvx, hvl, hvh, hvm, Sem.run_bind, Sem.run_pure]
  have hsa : (Instr.sliceAt t vx vl vh vm).run P w = (Instr.slice t vx vl vh vm).run P w := by
    simp only [Instr.sliceAt, Sem.run_bind, hrd, Result.andThen_ok]
  cases ax with
  | sl es tk =>
    simp only [effSlice] at h
    have hrx' := hrx
    cases hrx with
    | sl bse len cap _ _ size b q val hl hcap hm hb hs himm hrr ht hf =>
      split at h
      · -- no bound on the capacity
        split at h
        · rename_i n m hn hm'
          simp only [Option.some.injEq] at h
          subst h
          obtain ⟨g1, g2, g3, g4⟩ := hc
          have f1 := optInt_rep hn e1
          have f2 := optInt_rep hm' e2
          rcases e3 with ⟨-, rfl⟩ | ⟨y, v, hh, _⟩
          case inr => cases hh
          have hb2 : (Instr.sliceBounds true len cap vl vh none).run P w = .ok (n.toNat, m.toNat, cap) w := by
            have rl : ∀ k code, (Instr.sliceBound (.int k n) m.toNat code).run P w = .ok n.toNat w := fun k code => run_bound ⟨by omega, by omega⟩
            have rh : ∀ k code, (Instr.sliceBound (.int k m) cap code).run P w = .ok m.toNat w := fun k code => run_bound ⟨by omega, by omega⟩
            rcases f1 with ⟨rfl, -, h0⟩ | ⟨k1, rfl, -⟩ <;> rcases f2 with ⟨rfl, -, h1⟩ | ⟨k2, rfl, -⟩
            · have e0 : n.toNat = 0 := by omega
              have e1 : m.toNat = len := by omega
              simp only [Instr.sliceBounds, Sem.run_bind, Sem.run_pure, Result.andThen_ok, e0, e1]
            · have e0 : n.toNat = 0 := by omega
              simp only [Instr.sliceBounds, Sem.run_bind, Sem.run_pure, Result.andThen_ok, rh, e0]
            · have e1 : m.toNat = len := by omega
              rw [e1] at rl
              simp only [Instr.sliceBounds, Sem.run_bind, Sem.run_pure, Result.andThen_ok, rl, e1]
            · simp only [Instr.sliceBounds, Sem.run_bind, Sem.run_pure, Result.andThen_ok, rh, rl]
          have hsub := sl_sub hrx' g4 (l := n.toNat) (h' := m.toNat) (by omega) (by omega)
          refine .val hr (u := _) ?_ hsub
          rw [hexec, hsa]
          simp only [Instr.slice, Sem.run_bind, hrd, Result.andThen_ok, hb2, hsz, Sem.run_pure]
        · cases h
      · -- empty, without room
        rename_i kk mm
        split at h
        · rename_i n m hn hm'
          simp only [Option.some.injEq] at h
          subst h
          obtain ⟨g1, rfl, rfl, g4, g5⟩ := hc
          have f1 := optInt_rep hn e1
          have f2 := optInt_rep hm' e2
          rcases e3 with ⟨hh, -⟩ | ⟨y, v, hh, rfl, hrm⟩
          case inl => cases hh
          simp only [Option.some.injEq] at hh
          subst hh
          cases hrm
          obtain ⟨k2, rfl, rfl⟩ : ∃ k, vh = some (.int k n) ∧ ah = some (.int k n) := by
            rcases f2 with ⟨-, rfl, -⟩ | hh
            · simp at g5
            · exact hh
          have hb2 : (Instr.sliceBounds true len cap vl (some (.int k2 n)) (some (.int kk n))).run P w = .ok (n.toNat, n.toNat, n.toNat) w := by
            have r0 : ∀ code, (Instr.sliceBound (.int kk n) cap code).run P w = .ok n.toNat w := fun code => run_bound ⟨by omega, by omega⟩
            have r2 : ∀ k code, (Instr.sliceBound (.int k n) n.toNat code).run P w = .ok n.toNat w := fun k code => run_bound ⟨by omega, by omega⟩
            rcases f1 with ⟨rfl, -, h0⟩ | ⟨k1, rfl, -⟩
            · have e0 : n.toNat = 0 := by omega
              rw [e0] at r2 r0
              simp only [Instr.sliceBounds, Sem.run_bind, Sem.run_pure, Result.andThen_ok, r0, r2, e0]
            · simp only [Instr.sliceBounds, Sem.run_bind, Sem.run_pure, Result.andThen_ok, r0, r2]
          refine .val hr (u := .slice bse 0 0) ?_ (.sl _ 0 0 [] .cap 0 0 0 (fun _ => undef) rfl (Nat.zero_le _) (Nat.zero_le _) (fun h => absurd h (by omega)) (fun i h => absurd h (by omega)) (fun j h => absurd h (by omega)) (fun i j h => absurd h (by omega)) (fun r h => by cases h) ⟨fun h => (by cases h), fun _ => rfl⟩)
          rw [hexec, hsa]
          simp only [Instr.slice, Sem.run_bind, hrd, Result.andThen_ok, hb2, hsz, Sem.run_pure, if_true, Nat.sub_self]
        · cases h
      · cases h
  | ms r ver len =>
    simp only [effSlice] at h
    split at h
    · rename_i kk m
      simp only [Option.some.injEq] at h
      subst h
      obtain ⟨g1, g2⟩ := hc
      rcases e1 with ⟨-, rfl⟩ | ⟨y, v, hh, _⟩
      case inr => cases hh
      rcases e3 with ⟨-, rfl⟩ | ⟨y, v, hh, _⟩
      case inr => cases hh
      rcases e2 with ⟨hh, -⟩ | ⟨y, v, hh, rfl, hrm⟩
      case inl => cases hh
      simp only [Option.some.injEq] at hh
      subst hh
      cases hrm
      cases hrx with
      | ms _ _ _ blk cap hl hcap hm hn =>
        have hb2 : (Instr.sliceBounds true len cap none (some (.int kk m)) none).run P w = .ok (0, m.toNat, cap) w := by
          have r2 := run_bound (P := P) (w := w) (k := kk) (n := m) (y := cap) (code := if true then .sliceAcap else .sliceAlen) ⟨by omega, by omega⟩
          simp only [Instr.sliceBounds, Sem.run_bind, Sem.run_pure, Result.andThen_ok] at r2 ⊢
          simp only [r2, Result.andThen_ok]
        refine .val hr (u := .slice (baseOf blk) m.toNat cap) ?_ (.ms r ver m.toNat blk cap hl (by omega) hm hn)
        rw [hexec, hsa]
        simp only [Instr.slice, Sem.run_bind, hrd, Result.andThen_ok, hb2, hsz, Sem.run_pure, Nat.sub_zero]
        congr 3
        cases blk with
        | none => simp [baseOf]
        | some b => simp [baseOf, addr_add]
    · cases h
  | _ => simp [effSlice] at h

theorem snd_text (hC : CfgOK P C) (hr : Rel V a w s) {t : Nat} {l : TL} {x : Operand} {lo hi mx : Option Operand} {out : Out} (hx : opndOK x = true) (h1 : ∀ y, lo = some y → opndOK y = true) (h2 : ∀ y, hi = some y → opndOK y = true) (h3 : ∀ y, mx = some y → opndOK y = true)
    (hT : C.ty t = some l) (hd : l.d = .str) (h : effText (s.ev x) (lo.map s.ev) (hi.map s.ev) (mx.map s.ev) s = some out) (hc : out.c) (hop : o.op = .slice t x lo hi mx) : OpSound P V a w s o out := by
  obtain ⟨d, hrd, hdd⟩ := (hC _ _ hT).run_underlying w
  rw [hd] at hdd; simp only [DescOK] at hdd; subst hdd
  have hrx := ev_rep hr x hx
  have e1 := map_ev hr h1
  have e2 := map_ev hr h2
  have e3 := map_ev hr h3
  generalize hvx : a.eval x = vx at hrx
  generalize hax : s.ev x = ax at h hrx
  generalize hvl : lo.map a.eval = vl at e1
  generalize hal : lo.map s.ev = al at h e1
  generalize hvh : hi.map a.eval = vh at e2
  generalize hah : hi.map s.ev = ah at h e2
  generalize hvm : mx.map a.eval = vm at e3
  generalize ham : mx.map s.ev = am at h e3
  have hexec : (execOp a.eval o).run P w = ((Instr.sliceAt t vx vl vh vm).run P w).andThen fun u w' => .ok (.value u) w' := by
    simp only [execOp, hop, hvx, hvl, hvh, hvm, Sem.run_bind, Sem.run_pure]
  have hsa : (Instr.sliceAt t vx vl vh vm).run P w = (Instr.slice t vx vl vh vm).run P w := by
    simp only [Instr.sliceAt, Sem.run_bind, hrd, Result.andThen_ok]
  unfold effText at h
  split at h
  case h_2 => cases h
  split at h
  case h_2 => cases h
  rename_i b _ _ n m hn hm'
  simp only [Option.some.injEq] at h
  subst h
  obtain ⟨g1, g2, g3⟩ := hc
  have f1 := optInt_rep hn e1
  have f2 := optInt_rep hm' e2
  rcases e3 with ⟨-, rfl⟩ | ⟨y, v, hh, _⟩
  case inr => cases hh
  cases hrx with
  | str _ hb =>
    have hb2 : (Instr.sliceBounds false b.size b.size vl vh none).run P w = .ok (n.toNat, m.toNat, b.size) w := by
      have rl : ∀ k code, (Instr.sliceBound (.int k n) m.toNat code).run P w = .ok n.toNat w := fun k code => run_bound ⟨by omega, by omega⟩
      have rh : ∀ k code, (Instr.sliceBound (.int k m) b.size code).run P w = .ok m.toNat w := fun k code => run_bound ⟨by omega, by omega⟩
      rcases f1 with ⟨rfl, -, h0⟩ | ⟨k1, rfl, -⟩ <;> rcases f2 with ⟨rfl, -, h1⟩ | ⟨k2, rfl, -⟩
      · have e0 : n.toNat = 0 := by omega
        have e1 : m.toNat = b.size := by omega
        simp only [Instr.sliceBounds, Sem.run_bind, Sem.run_pure, Result.andThen_ok, e0, e1]
      · have e0 : n.toNat = 0 := by omega
        simp only [Instr.sliceBounds, Sem.run_bind, Sem.run_pure, Result.andThen_ok, rh, e0]
      · have e1 : m.toNat = b.size := by omega
        rw [e1] at rl
        simp only [Instr.sliceBounds, Sem.run_bind, Sem.run_pure, Result.andThen_ok, rl, e1]
      · simp only [Instr.sliceBounds, Sem.run_bind, Sem.run_pure, Result.andThen_ok, rh, rl]
    refine .val hr (u := .string (b.extract n.toNat m.toNat)) ?_ (.str _ (by rw [ByteArray.size_extract]; omega))
    rw [hexec, hsa]
    simp only [Instr.slice, Sem.run_bind, hrd, Result.andThen_ok, hb2, Sem.run_pure, Option.isSome_none, Bool.false_eq_true, if_false]

/- Maps. -/

theorem findA_sound {d : TD} {kind : TypeDesc} (hd : DescOK kind d) {kv : Value} {ka : AV} (hk : Rep V kv ka) : ∀ (es : List (AV × AV)) (en : List MapEntry) (i : Nat) {f : Option (Nat × AV)}, RepMap V en es → findA d ka es i = some f →
    ∃ f', Instr.findNow kind kv en i = some f' ∧ ((f = none ∧ f' = none) ∨ ∃ j x v e, f = some (j, x) ∧ f' = some (j, v) ∧ Rep V v x ∧ i ≤ j ∧ en[j - i]? = some e ∧ e.key = kv)
  | [], en, i, f, hr, h => by
    have : en = [] := List.eq_nil_of_length_eq_zero (by simpa using hr.1)
    subst this
    simp only [findA, Option.some.injEq] at h
    exact ⟨none, rfl, .inl ⟨h.symm, rfl⟩⟩
  | p :: es, en, i, f, hr, h => by
    cases en with
    | nil => simp [RepMap] at hr
    | cons e en =>
      obtain ⟨hk1, hv1⟩ := hr.2 0 (by simp) e p rfl rfl
      have hr' : RepMap V en es := ⟨by simpa using hr.1, fun j hj e' p' he hp => hr.2 (j + 1) (by simpa using hj) e' p' (by simpa using he) (by simpa using hp)⟩
      have hstep : ∀ b, keyEq d ka p.1 = some b → Instr.sameNow kind kv e.key = some b ∧ (b = true → e.key = kv) := by
        intro b hb
        generalize hek : e.key = ek at hk1
        generalize hpk : p.1 = pk at hk1 hb
        cases hk with
        | int k n _ _ =>
          cases hk1 with
          | int k' n' _ _ =>
            cases d <;> simp only [keyEq] at hb <;> try (cases hb)
            simp only [DescOK] at hd
            subst hd
            split at hb
            · rename_i hkk; subst hkk
              simp only [Option.some.injEq] at hb
              subst hb
              refine ⟨by simp [Instr.sameNow], fun h => ?_⟩
              simp at h; rw [h]
            · cases hb
          | _ => cases d <;> simp [keyEq] at hb
        | str n _ =>
          cases hk1 with
          | str n' _ =>
            cases d <;> simp only [keyEq] at hb <;> try (cases hb)
            simp only [DescOK] at hd
            subst hd
            refine ⟨by simp [Instr.sameNow], fun h => ?_⟩
            exact (congrArg Value.string (bytes_eq h)).symm
          | _ => cases d <;> simp [keyEq] at hb
        | _ => cases d <;> simp [keyEq] at hb
      simp only [findA] at h
      cases hke : keyEq d ka p.1 with
      | none => rw [hke] at h; simp at h
      | some b =>
        obtain ⟨hs, hek⟩ := hstep b hke
        rw [hke] at h
        cases b with
        | true =>
          simp only [Option.some.injEq] at h
          subst h
          exact ⟨some (i, e.val), by simp only [Instr.findNow, hs], .inr ⟨i, p.2, e.val, e, rfl, rfl, hv1, Nat.le_refl _, by simp, hek rfl⟩⟩
        | false =>
          simp only at h
          obtain ⟨f', h1, h2⟩ := findA_sound hd hk es en (i + 1) hr' h
          refine ⟨f', by simp only [Instr.findNow, hs, h1], ?_⟩
          rcases h2 with h2 | ⟨j, x, v, e', g1, g2, g3, g4, g5, g6⟩
          · exact .inl h2
          · refine .inr ⟨j, x, v, e', g1, g2, g3, by omega, ?_, g6⟩
            rw [show j - i = (j - (i + 1)) + 1 by omega]
            simpa using g5

theorem run_checkKey {kt : Nat} {l : TL} (hT : TyOK P kt l) {kv : Value} {ka : AV} (hk : Rep V kv ka) (ho : keyOK l.d ka = true) (em : Bool) (d : Nat) : (Instr.checkKey em (d + 1) kt kv).run P w = .ok () w := by
  obtain ⟨ds, hrd, hdd⟩ := hT.run_underlying w
  simp only [Instr.checkKey, Sem.run_bind, hrd, Result.andThen_ok]
  cases hk with
  | int k n _ _ =>
    cases hd : l.d <;> rw [hd] at ho hdd <;> simp [keyOK] at ho
    simp only [DescOK] at hdd; subst hdd
    rfl
  | str n _ =>
    cases hd : l.d <;> rw [hd] at ho hdd <;> simp [keyOK] at ho
    simp only [DescOK] at hdd; subst hdd
    rfl
  | _ => cases hd : l.d <;> rw [hd] at ho <;> simp [keyOK] at ho

theorem run_findKey {kt : Nat} {l : TL} (hT : TyOK P kt l) {kv : Value} {en : List MapEntry} {f' : Option (Nat × Value)} (h : ∀ kind, P.underlying kt = some kind → Instr.findNow kind kv en 0 = some f') : (Instr.findKey kt kv en).run P w = .ok f' w := by
  obtain ⟨ds, hds, _⟩ := hT.desc
  simp only [Instr.findKey, Sem.run_bind, Go.run_underlying hds, Result.andThen_ok, h ds hds, Sem.run_pure]

theorem map_obj (hr : RelW V w s) {r : Nat} {es : List (AV × AV)} (ho : s.obj r = some (.map es)) {b c : Nat} (hl : V.loc r 0 = some (some b, c)) :
    ∃ entries clock, w.heap[b]? = some (.map entries clock) ∧ V.base ≤ b ∧ RepMap V entries.toList es ∧ ∀ o, V.imm b o = none := by
  obtain ⟨b', c', entries, clock, h1, h2, h3, h4, h5⟩ := hr.inv.objs r _ ho
  rw [hl] at h1
  simp only [Option.some.injEq, Prod.mk.injEq] at h1
  obtain ⟨rfl, rfl⟩ := h1
  exact ⟨entries, clock, h2, h3, h4, h5⟩

theorem run_getObj {b : Nat} {entries : Array MapEntry} {clock : Nat} (hg : w.heap[b]? = some (.map entries clock)) : (getObj b).run P w = .ok (.map entries clock) w := by
  simp only [getObj, Sem.run, hg]

theorem run_setObj {b : Nat} {entries : Array MapEntry} {clock : Nat} (hg : w.heap[b]? = some (.map entries clock)) (ob : Obj) : (setObj b ob).run P w = .ok () { w with heap := w.heap.setIfInBounds b ob } := by
  simp only [setObj, Sem.run, hg]

theorem snd_lookup (hC : CfgOK P C) (hr : Rel V a w s) {t kt vt : Nat} {m k : Operand} {ok : Bool} {l lk lv : TL} {r : Nat} {es : List (AV × AV)} {f : Option (Nat × AV)} (hm : opndOK m = true) (hk : opndOK k = true)
    (hT : C.ty t = some l) (hd : l.d = .map kt vt) (hlk : C.ty kt = some lk) (hlv : C.ty vt = some lv) (hev : s.ev m = .mp r) (ho : s.obj r = some (.map es)) (hf : findA lk.d (s.ev k) es 0 = some f) (hc : keyOK lk.d (s.ev k) = true)
    (hop : o.op = .lookup t m k ok) : OpSound P V a w s o ⟨keyOK lk.d (s.ev k) = true, if ok then .tup [foundOr lv.zero f, .bool f.isSome] else foundOr lv.zero f, s⟩ := by
  obtain ⟨d, hrd, hdd⟩ := (hC _ _ hT).run_underlying w
  rw [hd] at hdd; simp only [DescOK] at hdd; subst hdd
  have hrm := ev_rep hr m hm
  have hrk := ev_rep hr k hk
  rw [hev] at hrm
  generalize hvm : a.eval m = vm at hrm
  cases hrm with
  | mp _ b c hl =>
    obtain ⟨entries, clock, hg, _, hmap, _⟩ := map_obj hr.toW ho hl
    obtain ⟨kd, hkd, hkk⟩ := (hC _ _ hlk).desc
    obtain ⟨f', hf1, hf2⟩ := findA_sound hkk hrk es entries.toList 0 hmap hf
    have hfk := run_findKey (P := P) (w := w) (hC _ _ hlk) (kv := a.eval k) (en := entries.toList) (f' := f') (fun kind hh => by rw [hkd] at hh; cases hh; exact hf1)
    have hck := run_checkKey (P := P) (w := w) (hC _ _ hlk) hrk hc entries.isEmpty 9999
    obtain ⟨z, hz, hzr⟩ := (hC _ _ hlv).run_zero w
    have hpre : ∀ (K : Value × Bool → Sem Value), (match f' with | some (_, v) => K (v, true) | none => zeroValue vt >>= fun z => K (z, false)).run P w = (K ((match f' with | some (_, v) => v | none => z), f'.isSome)).run P w := by
      intro K
      cases f' with
      | none => simp only [Sem.run_bind, hz, Result.andThen_ok, Option.isSome_none]
      | some p => rfl
    have hval : Rep V (match f' with | some (_, v) => v | none => z) (foundOr lv.zero f) ∧ f'.isSome = f.isSome := by
      rcases hf2 with ⟨rfl, rfl⟩ | ⟨j, x, v, e, rfl, rfl, hv, _⟩
      · exact ⟨hzr V, rfl⟩
      · exact ⟨hv, rfl⟩
    refine .val hr (u := if ok then .tuple #[(match f' with | some (_, v) => v | none => z), .bool f'.isSome] else (match f' with | some (_, v) => v | none => z)) ?_ ?_
    · simp only [execOp, hop, hvm, Instr.lookup, Sem.run_bind, hrd, Result.andThen_ok, run_getObj hg, Sem.run_pure, hck, hfk]
      cases f' with
      | none => simp only [Sem.run_bind, hz, Result.andThen_ok, Sem.run_pure, Option.isSome_none]
      | some p => simp only [Sem.run_bind, Result.andThen_ok, Sem.run_pure, Option.isSome_some]
    · cases ok with
      | false => simpa using hval.1
      | true =>
        simp only [if_true]
        refine RepL.tup ?_
        rw [hval.2]
        exact .cons hval.1 (.cons (.bool _) (.nil V))

theorem sameBits_refl {V : View} {v : Value} {x : AV} (h : Rep V v x) {d : TD} (ho : keyOK d x = true) (n : Nat) : Instr.sameBits n v v = true := by
  cases h with
  | int k m _ _ => simp [Instr.sameBits]
  | str b _ =>
    have : (b.data == b.data) = true := beq_self_eq_true b.data
    unfold Instr.sameBits
    exact this
  | _ => cases d <;> simp [keyOK] at ho

theorem RepMap.set {V : View} {en : List MapEntry} {es : List (AV × AV)} (h : RepMap V en es) {i : Nat} {e : MapEntry} {p : AV × AV} (hk : Rep V e.key p.1) (hv : Rep V e.val p.2) : RepMap V (en.set i e) (es.set i p) := by
  refine ⟨by simp [h.1], fun j hj e' p' he hp => ?_⟩
  simp only [List.length_set] at hj
  rw [List.getElem?_set] at he hp
  by_cases hij : i = j
  · subst hij
    simp only [if_true, hj] at hp
    rw [if_pos rfl, if_pos (by rw [h.1]; exact hj)] at he
    cases he; cases hp
    exact ⟨hk, hv⟩
  · rw [if_neg hij] at he hp
    exact h.2 j hj e' p' he hp

theorem RepMap.push {V : View} {en : List MapEntry} {es : List (AV × AV)} (h : RepMap V en es) {e : MapEntry} {p : AV × AV} (hk : Rep V e.key p.1) (hv : Rep V e.val p.2) : RepMap V (en ++ [e]) (es ++ [p]) := by
  refine ⟨by simp [h.1], fun j hj e' p' he hp => ?_⟩
  rw [List.getElem?_append] at he hp
  by_cases h1 : j < es.length
  · rw [if_pos h1] at hp
    rw [if_pos (by rw [h.1]; exact h1)] at he
    exact h.2 j h1 e' p' he hp
  · rw [if_neg h1] at hp
    rw [if_neg (by rw [h.1]; exact h1)] at he
    have : j = es.length := by simp at hj; omega
    subst this
    rw [h.1] at he
    simp at he hp
    subst he; subst hp
    exact ⟨hk, hv⟩

theorem normL_length : ∀ l : List AV, (AV.normL l).length = l.length
  | [] => rfl
  | a :: as => by simp [AV.normL, normL_length as]
theorem normL_getD : ∀ (l : List AV) (i : Nat), (AV.normL l).getD i .any = (l.getD i .any).norm
  | [], i => by simp [AV.normL, AV.norm]
  | a :: as, 0 => by simp [AV.normL]
  | a :: as, i + 1 => by simpa [AV.normL] using normL_getD as i
theorem cellsOf_norm (a : AV) : cellsOf a.norm = AV.normL (cellsOf a) := by
  cases a <;> first | rfl | (simp [AV.norm, cellsOf, AV.normL])

theorem Rep.normed {V : View} {v : Value} {a : AV} (h : Rep V v a) : Rep V v a.norm := by
  induction h with
  | agg cs as hl _ ih => exact .agg cs _ (by rw [normL_length]; exact hl) fun i hi => by rw [normL_getD]; rw [normL_length] at hi; exact ih i hi
  | tup cs as hl _ ih => exact .tup cs _ (by rw [normL_length]; exact hl) fun i hi => by rw [normL_getD]; rw [normL_length] at hi; exact ih i hi
  | sl bse len cap es tok size b o val hl hc hm hb' hs hi _ ht hf ih =>
    refine .sl bse len cap _ .no size b o val (by rw [normL_length]; exact hl) hc hm hb' (fun i hi => ?_) hi (fun i j hi' hj => ?_) (fun r h => by cases h) ⟨fun h => (by cases h), fun h => (by cases h)⟩
    · rw [normL_getD, cellsOf_norm, normL_length]; exact hs i hi
    · rw [normL_getD, cellsOf_norm, normL_getD]; exact ih i j hi' hj
  | eptr e off b o val hi _ ih => exact .eptr _ off b o val (fun j hj => by rw [normL_length] at hj; exact hi j hj) fun j hj => by rw [normL_getD]; rw [normL_length] at hj; exact ih j hj
  | any v => exact .any v
  | int k n h1 h2 => exact .int k n h1 h2
  | bool b => exact .bool b
  | str s h => exact .str s h
  | nilp => exact .nilp
  | bptr r off b c h => exact .bptr r off b c h
  | ms r ver len blk cap h hc hm hn => exact .ms r ver len blk cap h hc hm hn
  | aptr r ver size i off b cap h => exact .aptr r ver size i off b cap h
  | mp r b c h => exact .mp r b c h
  | nilm => exact .nilm
  | fn f => exact .fn f
  | clo f cs as hl _ ih => exact .clo f cs _ (by rw [normL_length]; exact hl) fun i hi => by rw [normL_getD]; rw [normL_length] at hi; exact ih i hi
  | yld r b c h => exact .yld r b c h
  | nilf => exact .nilf

theorem snd_mapUpdate (hC : CfgOK P C) (hr : Rel V a w s) {t kt vt : Nat} {m k x : Operand} {l lk : TL} {r : Nat} {es : List (AV × AV)} {f : Option (Nat × AV)} (hm : opndOK m = true) (hk : opndOK k = true) (hx : opndOK x = true)
    (hT : C.ty t = some l) (hd : l.d = .map kt vt) (hlk : C.ty kt = some lk) (hev : s.ev m = .mp r) (ho : s.obj r = some (.map es)) (hf : findA lk.d (s.ev k) es 0 = some f) {cnd : Prop}
    (hc : keyOK lk.d (s.ev k) = true ∧ (r < s.b → (s.ev k).bel s.b = true ∧ (s.ev x).norm.bel s.b = true)) (hop : o.op = .mapUpdate t m k x ∨ o.op = .insert t m k x) :
    OpSound P V a w s o ⟨cnd, .any, s.setObj r (.map (mapPut es f (s.ev k) (s.ev x).norm))⟩ := by
  obtain ⟨hc1, hc2⟩ := hc
  obtain ⟨d, hrd, hdd⟩ := (hC _ _ hT).run_underlying w
  rw [hd] at hdd; simp only [DescOK] at hdd; subst hdd
  have hrm := ev_rep hr m hm
  have hrk := ev_rep hr k hk
  have hrx := ev_rep hr x hx
  rw [hev] at hrm
  generalize hvm : a.eval m = vm at hrm
  cases hrm with
  | mp _ b c hl =>
    obtain ⟨entries, clock, hg, hbase, hmap, himm⟩ := map_obj hr.toW ho hl
    obtain ⟨kd, hkd, hkk⟩ := (hC _ _ hlk).desc
    obtain ⟨f', hf1, hf2⟩ := findA_sound hkk hrk es entries.toList 0 hmap hf
    have hfk := run_findKey (P := P) (w := w) (hC _ _ hlk) (kv := a.eval k) (en := entries.toList) (f' := f') (fun kind hh => by rw [hkd] at hh; cases hh; exact hf1)
    have hck := run_checkKey (P := P) (w := w) (hC _ _ hlk) hrk hc1 false 9999
    have hexec : (execOp a.eval o).run P w = ((Instr.mapUpdate t (.map (some b)) (a.eval k) (a.eval x)).run P w).andThen fun _ w' => .ok .skip w' := by
      rcases hop with hop | hop <;> simp only [execOp, hop, hvm, Sem.run_bind, Sem.run_pure]
    -- what the map becomes
    obtain ⟨en', cl', hmap', hrun⟩ : ∃ en' : Array MapEntry, ∃ cl', RepMap V en'.toList (mapPut es f (s.ev k) (s.ev x).norm) ∧
        (Instr.mapUpdate t (.map (some b)) (a.eval k) (a.eval x)).run P w = .ok () { w with heap := w.heap.setIfInBounds b (.map en' cl') } := by
      rcases hf2 with ⟨rfl, rfl⟩ | ⟨j, y, v, e, rfl, rfl, hv, _, hej, hek⟩
      · refine ⟨entries.push { key := a.eval k, val := a.eval x, born := clock }, clock + 1, by simpa [mapPut] using hmap.push (e := { key := a.eval k, val := a.eval x, born := clock }) (p := (s.ev k, (s.ev x).norm)) hrk hrx.normed, ?_⟩
        simp only [Instr.mapUpdate, Sem.run_bind, hrd, Result.andThen_ok, run_getObj hg, hck, hfk, run_setObj hg]
      · simp only [Nat.sub_zero] at hej
        have hej' : entries[j]? = some e := by simpa using hej
        refine ⟨entries.modify j fun e => { e with key := a.eval k, val := a.eval x }, clock, ?_, ?_⟩
        · have h1 : (entries.modify j fun e => { e with key := a.eval k, val := a.eval x }).toList = entries.toList.set j { e with key := a.eval k, val := a.eval x } := by
            apply List.ext_getElem?
            intro q
            rw [Array.getElem?_toList, Array.getElem?_modify, List.getElem?_set]
            by_cases hq : j = q
            · subst hq
              have hlt : j < entries.size := (Array.getElem?_eq_some_iff.1 hej').1
              rw [if_pos rfl, if_pos rfl, hej', if_pos (by simpa using hlt)]
              rfl
            · rw [if_neg hq, if_neg hq]; simp
          rw [h1]
          exact hmap.set (e := { e with key := a.eval k, val := a.eval x }) (p := (s.ev k, (s.ev x).norm)) hrk hrx.normed
        · have hks : (Instr.keyThatStays e.key (a.eval k)).run P w = .ok (a.eval k) w := by
            unfold Instr.keyThatStays
            rw [hek, if_pos (sameBits_refl hrk hc1 10000)]
            rfl
          simp only [Instr.mapUpdate, Sem.run_bind, hrd, Result.andThen_ok, run_getObj hg, hck, hfk, hej', Option.map_some, Option.getD_some, hks, run_setObj hg]
    have hlt : b < w.heap.size := (Array.getElem?_eq_some_iff.1 hg).1
    refine ⟨.skip, { w with heap := w.heap.setIfInBounds b (.map en' cl') }, V, by rw [hexec, hrun]; rfl, .refl V, ⟨rfl, rfl, rfl, by simp, fun q hq => ?_⟩, ?_, setObj_env _ _ _, setObj_n _ _ _, setObj_b _ _ _, .inr ⟨rfl, rfl⟩⟩
    · simp only; rw [Array.getElem?_setIfInBounds_ne (by omega)]
    · refine hr.toW.setObj ho (hr.inv.write r _ _ ho b (by simp [own, hl]) (by simp) (fun q hq => by simp only; rw [Array.getElem?_setIfInBounds_ne (Ne.symm hq)]) V (.refl V) (fun _ _ _ => rfl) (fun o v hv => by rw [himm o] at hv; cases hv) (fun _ _ _ => rfl) ?_ (by simp [own, hl])) ?_
      · exact ⟨b, c, en', cl', hl, by simp only; rw [Array.getElem?_setIfInBounds_self_of_lt hlt], hbase, hmap', himm⟩
      · intro hlt'
        have hb0 : (AObj.map es).bel s.b = true := hr.bel _ (by unfold AState.obj at ho; rw [if_pos hlt'] at ho; exact List.mem_of_getElem? ho)
        obtain ⟨g1, g2⟩ := hc2 hlt'
        simp only [AObj.bel, Bool.and_eq_true, belL_iff, List.mem_map, forall_exists_index, and_imp, forall_apply_eq_imp_iff₂] at hb0 ⊢
        have key : ∀ p ∈ mapPut es f (s.ev k) (s.ev x).norm, p ∈ es ∨ p = (s.ev k, (s.ev x).norm) := by
          intro p hp
          cases f with
          | none => simpa [mapPut] using hp
          | some q => exact List.mem_or_eq_of_mem_set hp
        exact ⟨fun p hp => (key p hp).elim (hb0.1 p) (fun h => by rw [h]; exact g1), fun p hp => (key p hp).elim (hb0.2 p) (fun h => by rw [h]; exact g2)⟩

end
end Go.Ab

/- Whatever operation the executor takes runs as the model's does. Condition: the executor's table of types is the program's; the constants are of their types. -/
set_option linter.unusedSimpArgs false
namespace Go.Ab
open Go.RowKit (Below)

section
variable {P : Program} {C : Cfg} {V : View} {w : World} {s : AState} {a : Act} {o : Oper}

theorem exec_builtin {b : Builtin} {args : Array Operand} {ts : Array Nat} (hop : o.op = .call { callee := .builtin b, args := args, argTypes := ts }) :
    ∃ cst, (execOp a.eval o).run P w = (Go.builtin b ts o.type cst (args.map a.eval)).run P w := by
  simp only [execOp, hop, resolve, invoke, Sem.run_bind, Sem.run_pure, Result.andThen_ok]
  exact ⟨_, rfl⟩

theorem len1 {α : Type} {l : List α} (h : l.length = 1) : ∃ x, l = [x] := List.length_eq_one_iff.1 h
theorem len2 {α : Type} {l : List α} (h : l.length = 2) : ∃ x y, l = [x, y] := by
  match l, h with
  | [x, y], _ => exact ⟨x, y, rfl⟩

theorem arr_len_le {V : View} {u : Value} {r ver n : Nat} (h : Rep V u (.ms r ver n)) : n ≤ maxLen := by
  cases h with
  | ms _ _ _ blk cap h hc hm hn => omega

theorem snd_builtin (hC : CfgOK P C) (hr : Rel V a w s) {inpl : Bool} {b : Builtin} {args : Array Operand} {ts : Array Nat} {out : Out} (ho : ∀ x ∈ args.toList, opndOK x = true)
    (h : effBuiltin C inpl s b ts.toList (args.toList.map s.ev) = some out) (hc : out.c) (hop : o.op = .call { callee := .builtin b, args := args, argTypes := ts }) : OpSound P V a w s o out := by
  obtain ⟨cst, hex⟩ := exec_builtin (P := P) (w := w) (a := a) hop
  have hargs : ∀ l : List AV, args.toList.map s.ev = l → ∃ vs : List Value, args.toList.map a.eval = vs ∧ RepL V vs l := by
    intro l hl
    subst hl
    refine ⟨_, rfl, RepL.of_get (by simp) fun i v x hv hx => ?_⟩
    rw [List.getElem?_map, Option.map_eq_some_iff] at hv hx
    obtain ⟨y, hy, rfl⟩ := hv
    obtain ⟨y', hy', rfl⟩ := hx
    rw [hy] at hy'
    cases hy'
    exact ev_rep hr _ (ho y (List.mem_of_getElem? hy))
  have hm : args.map a.eval = (args.toList.map a.eval).toArray := by rw [← Array.toList_map]
  rw [hm] at hex
  have hone : ∀ {t : Nat}, ts.toList = [t] → ts = #[t] := fun h => Array.ext' h
  unfold effBuiltin at h
  split at h
  · -- len of an immutable slice
    rename_i t es tk ht harg
    split at h
    case h_2 => cases h
    rename_i e z1 z2 z3 hty
    simp only [Option.some.injEq] at h; subst h
    obtain ⟨vs, hvs, hrl⟩ := hargs _ harg
    rw [hvs, hone ht] at hex
    obtain ⟨d, hd, hdd⟩ := (hC _ _ hty).desc
    simp only [DescOK] at hdd; subst hdd
    obtain ⟨v, rfl⟩ := len1 hrl.1
    have hv := hrl.2 0 (by simp)
    simp only [List.getD_cons_zero] at hv
    cases hv with
    | sl bse len cap _ _ size b q val hl hcap hm hb hs himm hrr ht hf =>
      refine .val hr (u := .int .i64 len) ?_ (by rw [hl]; exact rep_int64 (by omega))
      rw [hex]
      simp [Go.builtin, Builtin.len_, Go.run_underlying hd, goInt]
  · rename_i t r ver n ht harg
    split at h
    case h_2 => cases h
    rename_i e z1 z2 z3 hty
    simp only [Option.some.injEq] at h; subst h
    obtain ⟨vs, hvs, hrl⟩ := hargs _ harg
    rw [hvs, hone ht] at hex
    obtain ⟨d, hd, hdd⟩ := (hC _ _ hty).desc
    simp only [DescOK] at hdd; subst hdd
    obtain ⟨v, rfl⟩ := len1 hrl.1
    have hv := hrl.2 0 (by simp)
    simp only [List.getD_cons_zero] at hv
    have hle := arr_len_le hv
    cases hv with
    | ms _ _ _ blk cap hl hcap hm hn =>
      refine .val hr (u := .int .i64 n) ?_ (rep_int64 hle)
      rw [hex]
      simp [Go.builtin, Builtin.len_, Go.run_underlying hd, goInt]
  · rename_i t x ht harg
    split at h
    case h_2 => cases h
    rename_i z1 z2 z3 hty
    simp only [Option.some.injEq] at h; subst h
    obtain ⟨vs, hvs, hrl⟩ := hargs _ harg
    rw [hvs, hone ht] at hex
    obtain ⟨d, hd, hdd⟩ := (hC _ _ hty).desc
    simp only [DescOK] at hdd; subst hdd
    obtain ⟨v, rfl⟩ := len1 hrl.1
    have hv := hrl.2 0 (by simp)
    simp only [List.getD_cons_zero] at hv
    cases hv with
    | str _ hb =>
      refine .val hr (u := .int .i64 x.size) ?_ (rep_int64 hb)
      rw [hex]
      simp [Go.builtin, Builtin.len_, Go.run_underlying hd, goInt]
  · rename_i t r ht harg
    split at h
    case h_2 => cases h
    rename_i kk ee z1 z2 z3 es hty hob
    simp only [Option.some.injEq] at h; subst h
    obtain ⟨vs, hvs, hrl⟩ := hargs _ harg
    rw [hvs, hone ht] at hex
    obtain ⟨d, hd, hdd⟩ := (hC _ _ hty).desc
    simp only [DescOK] at hdd; subst hdd
    obtain ⟨v, rfl⟩ := len1 hrl.1
    have hv := hrl.2 0 (by simp)
    simp only [List.getD_cons_zero] at hv
    cases hv with
    | mp _ b c hl =>
      obtain ⟨entries, clock, hg, hbase, hmap, himm⟩ := map_obj hr.toW hob hl
      have hlen : entries.size = es.length := by simpa using hmap.1
      refine .val hr (u := .int .i64 es.length) ?_ (rep_int64 hc)
      rw [hex]
      simp [Go.builtin, Builtin.len_, Go.run_underlying hd, goInt, run_getObj hg, hlen]
  · -- append
    rename_i t t' av xv ht harg
    split at h
    case isFalse => cases h
    rename_i htt
    subst htt
    obtain ⟨vs, hvs, hrl⟩ := hargs _ harg
    rw [hvs] at hex
    have htse : ts = #[t, t] := by
      exact Array.ext' ht
    subst htse
    obtain ⟨va, vx, rfl⟩ := len2 hrl.1
    have h1 := hrl.2 0 (by simp)
    have h2 := hrl.2 1 (by simp)
    simp only [List.getD_cons_zero, List.getD_cons_succ] at h1 h2
    obtain ⟨u, w', V', g1, g2, g3, g4, g5, g6, g7, g8⟩ := append_sound (ty := o.type) hC hr.toW h1 h2 h hc
    refine ⟨.value u, w', V', ?_, g2, g3, g4, g5, g6, g7, .inl ⟨u, rfl, g8⟩⟩
    rw [hex]
    simp only [Go.builtin, Sem.run_bind, g1, Result.andThen_ok, Sem.run_pure]
  · rename_i k x k' y harg
    split at h
    case isFalse => cases h
    rename_i hk
    subst hk
    simp only [Option.some.injEq] at h; subst h
    obtain ⟨vs, hvs, hrl⟩ := hargs _ harg
    rw [hvs] at hex
    obtain ⟨va, vx, rfl⟩ := len2 hrl.1
    have h1 := hrl.2 0 (by simp)
    have h2 := hrl.2 1 (by simp)
    simp only [List.getD_cons_zero, List.getD_cons_succ] at h1 h2
    cases h1 with
    | int _ _ p1 p2 =>
    cases h2 with
    | int _ _ p3 p4 =>
      refine .val hr (u := .int k (if y > x then y else x)) ?_ (by split <;> exact .int _ _ (by assumption) (by assumption))
      rw [hex]
      simp [Go.builtin, Builtin.max_, Builtin.max2]
  · rename_i k x k' y harg
    split at h
    case isFalse => cases h
    rename_i hk
    subst hk
    simp only [Option.some.injEq] at h; subst h
    obtain ⟨vs, hvs, hrl⟩ := hargs _ harg
    rw [hvs] at hex
    obtain ⟨va, vx, rfl⟩ := len2 hrl.1
    have h1 := hrl.2 0 (by simp)
    have h2 := hrl.2 1 (by simp)
    simp only [List.getD_cons_zero, List.getD_cons_succ] at h1 h2
    cases h1 with
    | int _ _ p1 p2 =>
    cases h2 with
    | int _ _ p3 p4 =>
      refine .val hr (u := .int k (if y < x then y else x)) ?_ (by split <;> exact .int _ _ (by assumption) (by assumption))
      rw [hex]
      simp [Go.builtin, Builtin.min_, Builtin.min2]
  · cases h

end
end Go.Ab

/- Whatever operation the executor takes runs as the model's does: all in one. Condition: the executor's table of types is the program's; the constants are of their types. -/
set_option linter.unusedSimpArgs false
namespace Go.Ab
open Go.RowKit (Below)

section
variable {P : Program} {C : Cfg} {V : View} {w : World} {s : AState} {a : Act} {o : Oper}

theorem eff_sound (hC : CfgOK P C) (hr : Rel V a w s) {out : Out} (h : eff C o s = some out) (hc : out.c) (hok : operOK o = true) : OpSound P V a w s o out := by
  have hk : ∀ x ∈ o.op.operands.toList, opndOK x = true := List.all_eq_true.1 hok
  unfold eff at h
  split at h
  · -- move
    rename_i x hop
    simp only [Option.some.injEq] at h; subst h
    exact .val hr (by simp only [execOp, hop]; rfl) (ev_rep hr x (hk x (by simp [hop, Op.operands])))
  · rename_i x hop
    simp only [Option.some.injEq] at h; subst h
    exact .val hr (by simp only [execOp, hop]; rfl) (ev_rep hr x (hk x (by simp [hop, Op.operands])))
  · -- pick
    rename_i c x y hop
    have hrc := ev_rep hr c (hk c (by simp [hop, Op.operands]))
    split at h
    case h_2 => cases h
    rename_i t hev
    rw [hev] at hrc
    simp only [Option.some.injEq] at h; subst h
    generalize hvc : a.eval c = vc at hrc
    cases hrc
    refine .val hr (u := if t then a.eval x else a.eval y) ?_ ?_
    · simp only [execOp, hop, hvc, asBool, Sem.run_bind, Sem.run_pure, Result.andThen_ok]
    · cases t
      · exact ev_rep hr y (hk y (by simp [hop, Op.operands]))
      · exact ev_rep hr x (hk x (by simp [hop, Op.operands]))
  · -- alloc
    rename_i t hop
    split at h
    case h_2 => cases h
    rename_i l hT
    simp only [Option.some.injEq] at h; subst h
    exact snd_alloc hC hr hT hop
  · rename_i t x hop
    simp only [Option.some.injEq] at h; subst h
    exact snd_box hr (hk x (by simp [hop, Op.operands])) hc hop
  · -- load
    rename_i t x hop
    split at h
    case h_2 => cases h
    rename_i l cs off c hT hcs
    simp only [Option.some.injEq] at h; subst h
    exact snd_load hC hr (hk x (by simp [hop, Op.operands])) hT hcs hc hop
  · -- store
    rename_i t p x hop
    split at h
    case h_2 => cases h
    rename_i l hT
    split at h
    · rename_i r off hev
      split at h
      case h_2 => cases h
      rename_i cs ho
      simp only [Option.some.injEq] at h; subst h
      exact snd_store_box hC hr (hk p (by simp [hop, Op.operands])) (hk x (by simp [hop, Op.operands])) hT hev ho hc hop
    · rename_i r ver size i off hev
      split at h
      case h_2 => cases h
      rename_i v' sz es ho
      simp only [Option.some.injEq] at h; subst h
      exact snd_store_arr hC hr (hk p (by simp [hop, Op.operands])) (hk x (by simp [hop, Op.operands])) hT hev ho hc hop
    · cases h
  · -- nilCheck
    rename_i x hop
    have hrx := ev_rep hr x (hk x (by simp [hop, Op.operands]))
    generalize hv : a.eval x = v at hrx
    split at h
    · rename_i r k hev
      rw [hev] at hrx
      simp only [Option.some.injEq] at h; subst h
      have hrx' := hrx
      cases hrx
      exact .val hr (by simp only [execOp, hop, hv, Sem.run_pure]) hrx'
    · rename_i e k hev
      rw [hev] at hrx
      simp only [Option.some.injEq] at h; subst h
      have hrx' := hrx
      cases hrx
      exact .val hr (by simp only [execOp, hop, hv, Sem.run_pure]) hrx'
    · rename_i r v z i k hev
      rw [hev] at hrx
      simp only [Option.some.injEq] at h; subst h
      have hrx' := hrx
      cases hrx
      exact .val hr (by simp only [execOp, hop, hv, Sem.run_pure]) hrx'
    · cases h
  · -- binOp
    rename_i op t x y yt hop
    split at h
    case h_2 => cases h
    rename_i l hT
    split at h
    case h_2 => cases h
    rename_i c v hab
    simp only [Option.some.injEq] at h; subst h
    exact snd_bin hC hr (hk x (by simp [hop, Op.operands])) (hk y (by simp [hop, Op.operands])) hT hab hc hop
  · -- unOp
    rename_i op t x hop
    split at h
    · rename_i b hev
      simp only [Option.some.injEq] at h; subst h
      exact snd_un hr (hk x (by simp [hop, Op.operands])) (.inl ⟨b, rfl, hev, rfl⟩) hop
    · rename_i k n hev
      simp only [Option.some.injEq] at h; subst h
      exact snd_un hr (hk x (by simp [hop, Op.operands])) (.inr ⟨k, n, rfl, hev, rfl⟩) hop
    · cases h
  · -- convert
    rename_i src dst x hop
    split at h
    case h_2 => cases h
    rename_i ls k z1 z2 z3 k' n h1 h2 hev
    simp only [Option.some.injEq] at h; subst h
    exact snd_conv hC hr (hk x (by simp [hop, Op.operands])) h1 h2 rfl hev hop
  · -- fieldAddr
    rename_i t x f hop
    split at h
    case h_2 => cases h
    rename_i fs z1 z2 z3 hT
    split at h
    case h_2 => cases h
    rename_i k ft hf
    split at h
    case h_2 => cases h
    rename_i lf v hlf hs
    simp only [Option.some.injEq] at h; subst h
    exact snd_fieldAddr hC hr (hk x (by simp [hop, Op.operands])) hT rfl hf hlf hs hop
  · -- field
    rename_i t x f hop
    split at h
    case h_2 => cases h
    rename_i fs z1 z2 z3 hT
    split at h
    case h_2 => cases h
    rename_i k ft cs hf hev
    split at h
    case h_2 => cases h
    rename_i lf hlf
    simp only [Option.some.injEq] at h; subst h
    exact snd_field hC hr (hk x (by simp [hop, Op.operands])) hT rfl hf hlf hev hc hop
  · -- indexAddr
    rename_i t x i hop
    split at h
    · rename_i e z1 z2 z3 hT
      split at h
      · rename_i le es tk k n hle hev hev2
        simp only [Option.some.injEq] at h; subst h
        exact snd_indexAddr_sl hC hr (hk x (by simp [hop, Op.operands])) (hk i (by simp [hop, Op.operands])) hT rfl hle hev hev2 hc hop
      · rename_i le r ver len k n hle hev hev2
        simp only [Option.some.injEq] at h; subst h
        exact snd_indexAddr_ms hC hr (hk x (by simp [hop, Op.operands])) (hk i (by simp [hop, Op.operands])) hT rfl hle hev hev2 hc hop
      · cases h
    · rename_i n e z1 z2 z3 hT
      split at h
      case h_2 => cases h
      rename_i le k q hle hev2
      split at h
      case h_2 => cases h
      rename_i v hs
      simp only [Option.some.injEq] at h; subst h
      exact snd_indexAddr_arr hC hr (hk x (by simp [hop, Op.operands])) (hk i (by simp [hop, Op.operands])) hT rfl hle hev2 hs hc hop
    · cases h
  · -- index
    rename_i t x i hop
    split at h
    · rename_i n e z1 z2 z3 hT
      split at h
      case h_2 => cases h
      rename_i le cs k q hle hev hev2
      simp only [Option.some.injEq] at h; subst h
      exact snd_index_arr hC hr (hk x (by simp [hop, Op.operands])) (hk i (by simp [hop, Op.operands])) hT rfl hle hev hev2 hc hop
    · rename_i z1 z2 z3 hT
      split at h
      case h_2 => cases h
      rename_i b k q hev hev2
      simp only [Option.some.injEq] at h; subst h
      exact snd_index_str hC hr (hk x (by simp [hop, Op.operands])) (hk i (by simp [hop, Op.operands])) hT rfl hev hev2 hc hop
    · cases h
  · -- build
    rename_i t parts hop
    have hps : ∀ p ∈ parts.toList, opndOK p.2 = true := fun p hp => hk p.2 (by simp only [hop, Op.operands]; simpa using ⟨p.1, by simpa using hp⟩)
    split at h
    · rename_i fs z1 z2 z hT
      split at h
      case h_2 => cases h
      rename_i c cs hf
      simp only [Option.some.injEq] at h; subst h
      exact snd_build_st hC hr hps hT rfl hf hc hop
    · rename_i n e z1 z2 z hT
      split at h
      case h_2 => cases h
      rename_i le hle
      split at h
      case h_2 => cases h
      rename_i c cs hf
      simp only [Option.some.injEq] at h; subst h
      exact snd_build_arr hC hr hps hT rfl hle hf hc hop
    · cases h
  · -- buildSlice
    rename_i t len parts hop
    have hps : ∀ p ∈ parts.toList, opndOK p.2 = true := fun p hp => hk p.2 (by simp only [hop, Op.operands]; simpa using ⟨p.1, by simpa using hp⟩)
    split at h
    case h_2 => cases h
    rename_i e z1 z2 z hT
    split at h
    case h_2 => cases h
    rename_i le hle
    split at h
    · simp only [Option.some.injEq] at h; subst h
      exact (snd_buildSlice hC hr hps hT rfl hle hc hop).2
    · simp only [Option.some.injEq] at h; subst h
      exact (snd_buildSlice hC hr hps hT rfl hle hc hop).1
  · -- makeSlice
    rename_i t n c hop
    split at h
    case h_2 => cases h
    rename_i e z1 z2 z n' c' hT hev hev2
    split at h
    case h_2 => cases h
    rename_i le hle
    split at h
    · simp only [Option.some.injEq] at h; subst h
      exact (snd_makeSlice hC hr (hk n (by simp [hop, Op.operands])) (hk c (by simp [hop, Op.operands])) hT rfl hle hev hev2 hc hop).2
    · simp only [Option.some.injEq] at h; subst h
      exact (snd_makeSlice hC hr (hk n (by simp [hop, Op.operands])) (hk c (by simp [hop, Op.operands])) hT rfl hle hev hev2 hc hop).1
  · -- slice
    rename_i t x lo hi mx hop
    split at h
    case h_3 => cases h
    case h_2 =>
      rename_i z1 z2 z hT
      exact snd_text hC hr (hk x (by simp [hop, Op.operands])) (fun y hy => hk y (by simp [hop, Op.operands, hy])) (fun y hy => hk y (by simp [hop, Op.operands, hy])) (fun y hy => hk y (by simp [hop, Op.operands, hy])) hT rfl h hc hop
    rename_i e z1 z2 z hT
    split at h
    case h_2 => cases h
    rename_i le hle
    exact snd_slice hC hr (hk x (by simp [hop, Op.operands])) (fun y hy => hk y (by simp [hop, Op.operands, hy])) (fun y hy => hk y (by simp [hop, Op.operands, hy])) (fun y hy => hk y (by simp [hop, Op.operands, hy])) hT rfl hle h hc hop
  · -- extract
    rename_i x i hop
    split at h
    case h_2 => cases h
    rename_i vs hev
    simp only [Option.some.injEq] at h; subst h
    exact snd_extract hr (hk x (by simp [hop, Op.operands])) hev hc hop
  · -- makeMap
    rename_i t hop
    simp only [Option.some.injEq] at h; subst h
    exact snd_makeMap hr hop
  · -- lookup
    rename_i t m k ok hop
    split at h
    case h_2 => cases h
    rename_i kt vt z1 z2 z hT
    split at h
    case h_2 => cases h
    rename_i lk lv r hlk hlv hev
    split at h
    case h_2 => cases h
    rename_i es ho
    split at h
    case h_2 => cases h
    rename_i f hf
    simp only [Option.some.injEq] at h; subst h
    exact snd_lookup hC hr (hk m (by simp [hop, Op.operands])) (hk k (by simp [hop, Op.operands])) hT rfl hlk hlv hev ho hf hc hop
  · -- mapUpdate
    rename_i t m k x hop
    split at h
    case h_2 => cases h
    rename_i kt vt z1 z2 z hT
    split at h
    case h_2 => cases h
    rename_i lk r hlk hev
    split at h
    case h_2 => cases h
    rename_i es ho
    split at h
    case h_2 => cases h
    rename_i f hf
    simp only [Option.some.injEq] at h; subst h
    exact snd_mapUpdate hC hr (hk m (by simp [hop, Op.operands])) (hk k (by simp [hop, Op.operands])) (hk x (by simp [hop, Op.operands])) hT rfl hlk hev ho hf hc (.inl hop)
  · -- builtins
    rename_i b args ts hop
    exact snd_builtin hC hr (fun x hx => hk x (by simp only [hop, Op.operands, Call.operands]; simpa using hx)) h hc hop
  · -- makeFunc
    rename_i g first cap hop
    split at h
    case isFalse => cases h
    rename_i hfe
    simp only [Option.some.injEq] at h; subst h
    have hf0 : first = #[] := by simpa using hfe
    subst hf0
    refine .val hr (u := .func (.func g) #[] (cap.map a.eval)) (by simp [execOp, hop, Instr.makeFunc]) (.clo _ _ _ (by simp) fun i hi => ?_)
    simp only [List.length_map, Array.length_toList] at hi
    have := ev_rep hr cap[i] (hk _ (by simp only [hop, Op.operands]; simp))
    simpa [List.getD_eq_getElem?_getD, hi] using this
  · cases h

end
end Go.Ab

