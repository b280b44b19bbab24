/- The executor's operations run as the model's do: values, loads, stores, new variables. Condition: the executor's table of types is the program's. -/
import Derived.Test.YtcpfjabjonpdaaaAb3
set_option linter.unusedSimpArgs false
namespace Go.Ab
open Go.RowKit (Below)

def DescOK (d : TypeDesc) : TD → Prop
  | .other => (match d with | .struct _ | .array _ _ => false | _ => true) = true
  | .int k => d = .int k
  | .bool => d = .bool
  | .str => d = .string
  | .sl e => d = .slice e
  | .arr n e => d = .array n e
  | .st fs => ∃ f, d = .struct f ∧ f.toList.map (fun x => (x.offset, x.type)) = fs
  | .map k v => d = .map k v
  | .ptr => ∃ e, d = .pointer e

structure TyOK (P : Program) (t : Nat) (l : TL) : Prop where
  info : ∃ i z, P.info? t = some i ∧ i.size = l.size ∧ i.bytes = l.bytes ∧ i.zero = some z ∧ valOK z = true ∧ ofVal z = l.zero
  desc : ∃ d, P.underlying t = some d ∧ DescOK d l.d
  solid : l.zero.solid = true
  size : (cellsOf l.zero).length = l.size
  pos : 0 < l.size

def CfgOK (P : Program) (C : Cfg) : Prop := ∀ t l, C.ty t = some l → TyOK P t l

theorem ofVal1_rep (V : View) {v : Value} (h : valOK1 v = true) : Rep V v (ofVal1 v) := by
  unfold ofVal1
  split
  · simp [valOK1] at h; exact .int _ _ h.1 h.2
  · exact .bool _
  · simp [valOK1] at h; exact .str _ h
  · exact .nilp
  · exact .sl none 0 0 [] .full 0 0 0 (fun _ => undef) rfl (Nat.le_refl _) (Nat.zero_le _) (fun h => absurd h (by omega)) (fun i h => absurd h (by omega))
      (fun j h => absurd h (by omega)) (fun i j h => absurd h (by omega)) (fun r h => by cases h) (fun _ => rfl)
  · exact .nilm
  · exact .nilf
  · exact .any _

theorem ofVal_rep (V : View) {v : Value} (h : valOK v = true) : Rep V v (ofVal v) := by
  unfold ofVal
  split
  · rename_i cs
    apply RepL.agg
    simp only [valOK, List.all_eq_true] at h
    refine RepL.of_get (by simp) fun i v a hv ha => ?_
    rw [List.getElem?_map] at ha
    rw [hv] at ha
    simp only [Option.map_some, Option.some.injEq] at ha
    subst ha
    exact ofVal1_rep V (h v (List.mem_of_getElem? hv))
  · rename_i h1
    have : valOK1 v = true := by
      unfold valOK at h; split at h
      · exact absurd rfl (h1 _)
      · exact h
    exact ofVal1_rep V this

def opndOK : Operand → Bool
  | .const v => valOK v
  | _ => true

theorem ev_rep {V : View} {a : Act} {w : World} {s : AState} (h : Rel V a w s) (x : Operand) (hx : opndOK x = true) : Rep V (a.eval x) (s.ev x) := by
  cases x with
  | tmp t => exact h.env t
  | const v => exact ofVal_rep V hx
  | global g => exact .any _
  | func f => exact .fn f

section
variable {P : Program} {V : View} {w : World} {s : AState}

theorem TyOK.run_underlying {t : Nat} {l : TL} (h : TyOK P t l) (w : World) : ∃ d, (underlying t).run P w = .ok d w ∧ DescOK d l.d :=
  let ⟨d, h1, h2⟩ := h.desc; ⟨d, Go.run_underlying h1 w, h2⟩
theorem TyOK.run_sizeOf {t : Nat} {l : TL} (h : TyOK P t l) (w : World) : (sizeOf t).run P w = .ok l.size w := by
  obtain ⟨i, z, h1, h2, _⟩ := h.info
  simp [sizeOf, typeInfo, h1, h2]
theorem TyOK.run_zero {t : Nat} {l : TL} (h : TyOK P t l) (w : World) : ∃ z, (zeroValue t).run P w = .ok z w ∧ ∀ V, Rep V z l.zero := by
  obtain ⟨i, z, h1, h2, _, h4, h5, h6⟩ := h.info
  exact ⟨z, by simp [zeroValue, typeInfo, h1, h4], fun V => h6 ▸ ofVal_rep V h5⟩
theorem TyOK.run_isAgg {t : Nat} {l : TL} (h : TyOK P t l) (w : World) : (isAgg t).run P w = .ok l.d.isAgg w := by
  obtain ⟨d, h1, h2⟩ := h.run_underlying w
  simp only [isAgg, Sem.run_bind, h1, Result.andThen_ok]
  cases hd : l.d <;> rw [hd] at h2 <;> simp only [DescOK] at h2
  case other => split <;> simp_all [TD.isAgg]
  all_goals first
    | (subst h2; rfl)
    | (obtain ⟨_, rfl, _⟩ := h2; rfl)
    | (obtain ⟨_, rfl⟩ := h2; rfl)

theorem cellsAt_sound (hr : RelW V w s) {u : Value} {av : AV} (hu : Rep V u av) {cs : List AV} {off : Nat} {c : Prop} (h : cellsAt s av = some (cs, off, c)) (hc : c) :
    ∃ b o, u = .pointer (some ⟨b, o, none⟩) ∧ ∀ j, off + j < cs.length → ∃ v, w.cell? ⟨b, o + j, none⟩ = some v ∧ Rep V v (cs.getD (off + j) .any) := by
  cases hu with
  | eptr e off' b o val hi hrr =>
    simp only [cellsAt, Option.some.injEq, Prod.mk.injEq] at h
    obtain ⟨rfl, rfl, _⟩ := h
    refine ⟨b, o + off', rfl, fun j hj => ⟨val (off' + j), ?_, hrr _ hj⟩⟩
    rw [Nat.add_assoc]
    exact hr.inv.imm _ _ _ (hi _ hj)
  | bptr r off' b c' hl =>
    simp only [cellsAt] at h
    split at h
    · rename_i cs' ho
      simp only [Option.some.injEq, Prod.mk.injEq] at h
      obtain ⟨rfl, rfl, _⟩ := h
      obtain ⟨b', c'', cells, ty, h1, h2, h3, h4, h5, h6⟩ := hr.inv.objs r _ ho
      rw [hl] at h1
      simp only [Option.some.injEq, Prod.mk.injEq] at h1
      obtain ⟨rfl, rfl⟩ := h1
      refine ⟨b, off', rfl, fun j hj => ⟨cells.getD (off' + j) undef, ?_, h5 _ hj⟩⟩
      have hlt : off' + j < cells.size := by omega
      simp [World.cell?, h2, hlt]
    · cases h
  | aptr r ver size i off' b cap hl =>
    simp only [cellsAt] at h
    split at h
    · rename_i v' sz es ho
      simp only [Option.some.injEq, Prod.mk.injEq] at h
      obtain ⟨rfl, rfl, hcc⟩ := h
      rw [← hcc] at hc
      obtain ⟨rfl, rfl, hi⟩ := hc
      obtain ⟨blk, cap', h1, _, h3, h4, hsz, h5⟩ := hr.inv.objs r _ ho
      rw [hl] at h1
      simp only [Option.some.injEq, Prod.mk.injEq] at h1
      obtain ⟨rfl, rfl⟩ := h1
      obtain ⟨h6, cells, ty, h7, h8, h9, _⟩ := h5
      refine ⟨b, i * sz + off', rfl, fun j hj => ⟨cells.getD (i * sz + (off' + j)) undef, ?_, h9 i (off' + j) hi (by rw [hsz i hi] at hj; exact hj)⟩⟩
      have hlt : i * sz + (off' + j) < cells.size := by
        rw [hsz i hi] at hj
        have : i * sz + sz ≤ cap * sz := by rw [← Nat.succ_mul]; exact Nat.mul_le_mul_right _ (by omega)
        omega
      simp [World.cell?, h7, Nat.add_assoc, hlt]
    · cases h
  | _ => simp [cellsAt] at h

theorem getD_drop_take {l : List AV} {o n j : Nat} (hj : j < n) : ((l.drop o).take n).getD j .any = l.getD (o + j) .any := by
  simp [List.getD_eq_getElem?_getD, List.getElem?_take, hj, List.getElem?_drop]

theorem run_loadAt {t : Nat} {l : TL} (hT : TyOK P t l) {b o : Nat} {cs : List AV} {off : Nat}
    (hcell : ∀ j, off + j < cs.length → ∃ v, w.cell? ⟨b, o + j, none⟩ = some v ∧ Rep V v (cs.getD (off + j) .any)) (hc : (partA l cs off).1) :
    ∃ v, (Instr.loadAt t (.pointer (some ⟨b, o, none⟩))).run P w = .ok v w ∧ Rep V v (partA l cs off).2 := by
  have ha := hT.run_isAgg w
  have hs := hT.run_sizeOf w
  unfold partA at hc ⊢
  cases hg : l.d.isAgg with
  | true =>
    rw [hg] at ha
    simp only [hg, if_true] at hc ⊢
    have hl := run_loadCells (P := P) w ⟨b, o, none⟩ l.size (fun j => (w.cell? ⟨b, o + j, none⟩).getD undef) (fun j hj => by
      obtain ⟨v, hv, _⟩ := hcell j (by omega)
      rw [addr_add, hv]; rfl)
    refine ⟨.agg ((List.range l.size).map fun j => (w.cell? ⟨b, o + j, none⟩).getD undef).toArray, ?_, RepL.agg ?_⟩
    · simp [Instr.loadAt, Instr.sureAddr, loadVar, ha, hs, hl]
    · refine ⟨by simp; omega, fun j hj => ?_⟩
      have hj' : j < l.size := by simp at hj; omega
      obtain ⟨v, hv, hrv⟩ := hcell j (by omega)
      rw [getD_drop_take hj']
      simp [List.getD_eq_getElem?_getD, List.getElem?_map, hj', hv]
      simpa [List.getD_eq_getElem?_getD] using hrv
  | false =>
    rw [hg] at ha
    simp only [hg, if_false, Bool.false_eq_true] at hc ⊢
    obtain ⟨v, hv, hrv⟩ := hcell 0 (by simpa using hc)
    simp only [Nat.add_zero] at hv hrv
    refine ⟨v, ?_, hrv⟩
    simp [Instr.loadAt, Instr.sureAddr, loadVar, ha, hv]

theorem run_part {t : Nat} {l : TL} (hT : TyOK P t l) {cells : Array Value} {cs : List AV} {off : Nat} (hcs : RepL V cells.toList cs) (hc : (partA l cs off).1) :
    ∃ v, (part t cells off).run P w = .ok v w ∧ Rep V v (partA l cs off).2 := by
  have ha := hT.run_isAgg w
  have hs := hT.run_sizeOf w
  have hlen : cells.size = cs.length := by simpa using hcs.1
  unfold partA at hc ⊢
  cases hg : l.d.isAgg with
  | true =>
    rw [hg] at ha
    simp only [hg, if_true] at hc ⊢
    refine ⟨.agg (cells.extract off (off + l.size)), by simp [part, ha, hs], RepL.agg ?_⟩
    have := (hcs.drop off).take l.size
    simpa [Array.toList_extract, List.extract] using this
  | false =>
    rw [hg] at ha
    simp only [hg, if_false, Bool.false_eq_true] at hc ⊢
    have hlt : off < cells.size := by omega
    refine ⟨cells[off], by simp [part, ha, hlt], ?_⟩
    have := hcs.2 off hc
    simpa [List.getD_eq_getElem?_getD, hlt] using this

end

/-- What an operation that the executor takes comes to in the model. -/
def OpSound (P : Program) (V : View) (a : Act) (w : World) (s : AState) (o : Oper) (out : Out) : Prop :=
  ∃ nx w' V', (execOp a.eval o).run P w = .ok nx w' ∧ V.Le V' ∧ Below V.base w w' ∧ RelW V' w' out.s ∧ out.s.env = s.env ∧ out.s.n = s.n ∧ out.s.b = s.b ∧
    ((∃ u, nx = .value u ∧ Rep V' u out.v) ∨ (nx = .skip ∧ out.v = .any))

section
variable {P : Program} {V : View} {a : Act} {w : World} {s : AState} {o : Oper}

theorem OpSound.val (hr : Rel V a w s) {u : Value} {v : AV} {c : Prop} (h : (execOp a.eval o).run P w = .ok (.value u) w) (hu : Rep V u v) : OpSound P V a w s o ⟨c, v, s⟩ :=
  ⟨_, w, V, h, .refl V, .refl _ _, hr.toW, rfl, rfl, rfl, .inl ⟨u, rfl, hu⟩⟩

theorem setRow_box (hr : RelW V w s) {r : Nat} {cs : List AV} (ho : s.obj r = some (.box cs)) {b c : Nat} (hl : V.loc r 0 = some (some b, c)) {off : Nat} {vs : List Value} {xs : List AV}
    (hx : RepL V vs xs) (hoff : off + xs.length ≤ cs.length) (hbel : r < s.b → AV.belL s.b xs = true) :
    ∃ cells ty, w.heap[b]? = some (.cells cells ty (0, 0)) ∧ cells.size = cs.length ∧
      RelW V (w.setRow b (cells.toList.take off ++ vs ++ cells.toList.drop (off + vs.length)).toArray) (s.setObj r (.box (setRange cs off xs))) ∧ V.base ≤ b := by
  obtain ⟨b', c', cells, ty, h1, h2, h3, h4, h5, h6⟩ := hr.inv.objs r _ ho
  rw [hl] at h1
  simp only [Option.some.injEq, Prod.mk.injEq] at h1
  obtain ⟨rfl, rfl⟩ := h1
  refine ⟨cells, ty, h2, h4, ?_, h3⟩
  have hcells : RepL V cells.toList cs := ⟨by simpa using h4, fun i hi => by have := h5 i hi; simpa [List.getD_eq_getElem?_getD] using this⟩
  have hnew : RepL V (cells.toList.take off ++ vs ++ cells.toList.drop (off + vs.length)) (setRange cs off xs) := by
    rw [setRange_eq xs cs off hoff, hx.1]
    exact ((hcells.take off).append hx).append (hcells.drop _)
  refine hr.setObj ho (hr.inv.write r _ (.box (setRange cs off xs)) ho b (by simp [own, hl]) (by simp [World.setRow]) (fun k hk => setRow_other w b k _ hk) V (.refl V)
    (fun _ _ _ => rfl) (fun o v hv => by rw [h6 o] at hv; cases hv) (fun _ _ _ => rfl) ?_ (by simp [own, hl])) ?_
  · refine ⟨b, c, _, ty, hl, setRow_heap w b cells _ ty _ h2, h3, by simpa using hnew.1, fun i hi => ?_, h6⟩
    have := hnew.2 i hi
    simpa [List.getD_eq_getElem?_getD] using this
  · intro hlt
    have hb0 : AV.belL s.b cs = true := by
      have := hr.bel (.box cs) (by unfold AState.obj at ho; rw [if_pos hlt] at ho; exact List.mem_of_getElem? ho)
      exact this
    exact belL_setRange off hb0 (hbel hlt)

end
end Go.Ab
