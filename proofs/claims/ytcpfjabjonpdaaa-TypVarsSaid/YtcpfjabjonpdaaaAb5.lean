/- The executor's operations run as the model's do: new objects, addresses, parts, literals, arithmetic. Condition: the executor's table of types is the program's. -/
import Derived.Test.YtcpfjabjonpdaaaAb4
set_option linter.unusedSimpArgs false
namespace Go.Ab
open Go.RowKit (Below)

section
variable {P : Program} {V : View} {w : World} {s : AState}

theorem new_box (hr : RelW V w s) {cells : Array Value} {cs : List AV} (hc : RepL V cells.toList cs) (ty : TypeId) :
    ∃ V', V.Le V' ∧ V'.loc (s.b + s.L.length) 0 = some (some w.heap.size, 0) ∧ RelW V' (w.alloc (.cells cells ty)) (s.new (.box cs)) := by
  obtain ⟨V', h1, h2, h3⟩ := hr.inv.newObj (s.b + s.L.length) (.inl (obj_next s)) (.box cs) (.cells cells ty) 0 0 (by
    intro V' hV hb hl _ hi
    refine ⟨⟨w.heap.size, 0, cells, ty, hl, heap_alloc_new w _, by rw [hb]; exact hr.inv.base, by simpa using hc.1, fun i hi => ?_, hi⟩, by simp [own, hl]⟩
    have := (hc.mono hV).2 i hi
    simpa [List.getD_eq_getElem?_getD] using this)
  exact ⟨V', h1, h2, hr.new _ h3⟩

theorem new_map (hr : RelW V w s) :
    ∃ V', V.Le V' ∧ V'.loc (s.b + s.L.length) 0 = some (some w.heap.size, 0) ∧ RelW V' (w.alloc (.map #[] 0)) (s.new (.map [])) := by
  obtain ⟨V', h1, h2, h3⟩ := hr.inv.newObj (s.b + s.L.length) (.inl (obj_next s)) (.map []) (.map #[] 0) 0 0 (by
    intro V' hV hb hl _ hi
    exact ⟨⟨w.heap.size, 0, #[], 0, hl, heap_alloc_new w _, by rw [hb]; exact hr.inv.base, ⟨rfl, fun i hi => absurd hi (by simp)⟩, hi⟩, by simp [own, hl]⟩)
  exact ⟨V', h1, h2, hr.new _ h3⟩

/-- The cells of a list of elements, one behind the other. -/
def RepE (V : View) (size : Nat) (cells : List Value) (es : List AV) : Prop :=
  (∀ i, i < es.length → (cellsOf (es.getD i .any)).length = size) ∧ ∀ i j, i < es.length → j < size → Rep V (cells.getD (i * size + j) undef) ((cellsOf (es.getD i .any)).getD j .any)

theorem RepE.mono {V V' : View} (hV : V.Le V') {size : Nat} {cells : List Value} {es : List AV} (h : RepE V size cells es) : RepE V' size cells es :=
  ⟨h.1, fun i j hi hj => (h.2 i j hi hj).mono hV⟩

theorem new_arr (hr : RelW V w s) {cells : Array Value} {size cap : Nat} {es : List AV} (hc : RepE V size cells.toList es) (hl : es.length ≤ cap) (hm : cap ≤ maxLen) (hs : cells.size = cap * size) (ty : TypeId) :
    ∃ V', V.Le V' ∧ V'.loc (s.b + s.L.length) 0 = some (some w.heap.size, cap) ∧ RelW V' (w.alloc (.cells cells ty)) (s.new (.arr 0 size es)) := by
  obtain ⟨V', h1, h2, h3⟩ := hr.inv.newObj (s.b + s.L.length) (.inl (obj_next s)) (.arr 0 size es) (.cells cells ty) cap 0 (by
    intro V' hV hb hloc hno hi
    refine ⟨⟨some w.heap.size, cap, hloc, fun m hm => hno m (by omega), hl, hm, hc.1, by rw [hb]; exact hr.inv.base, cells, ty, heap_alloc_new w _, hs, fun i j hi hj => ?_, hi⟩, by simp [own, hloc]⟩
    have := (hc.mono hV).2 i j hi hj
    simpa [List.getD_eq_getElem?_getD] using this)
  exact ⟨V', h1, h2, hr.new _ h3⟩

/-- A new row that is never written: a slice of its own. -/
theorem new_row (hr : RelW V w s) {cells : Array Value} {size : Nat} {es : List AV} (hc : RepE V size cells.toList es) (hs : cells.size = es.length * size) (hm : es.length ≤ maxLen) (ty : TypeId) :
    ∃ V', V.Le V' ∧ RelW V' (w.alloc (.cells cells ty)) s ∧ Rep V' (.slice (some ⟨w.heap.size, 0, none⟩) es.length es.length) (.sl es .full) := by
  obtain ⟨hV, hI⟩ := hr.inv.newRow cells ty
  refine ⟨_, hV, ⟨hr.hb, hr.bel, hI⟩, ?_⟩
  refine .sl _ es.length es.length es .full size w.heap.size 0 (fun j => cells.getD j undef) rfl (Nat.le_refl _) hm (fun _ => rfl) hc.1 ?_ ?_ (fun r h => by cases h) (fun _ => rfl)
  · intro j hj
    have : j < cells.size := by omega
    simp [View.withRow, this]
  · intro i j hi hj
    have := (hc.mono hV).2 i j hi hj
    simpa [List.getD_eq_getElem?_getD] using this

theorem RepE.nil (V : View) (size : Nat) : RepE V size [] [] := ⟨fun i hi => absurd hi (by simp), fun i j hi => absurd hi (by simp)⟩

theorem Rep.shift {v : Value} {x y : AV} {k : Nat} (h : Rep V v x) (hs : shift k x = some y) : ∃ b o, v = .pointer (some ⟨b, o, none⟩) ∧ Rep V (.pointer (some ⟨b, o + k, none⟩)) y := by
  cases h with
  | eptr e off b o val hi hr => simp only [Go.Ab.shift, Option.some.injEq] at hs; subst hs; exact ⟨b, o + off, rfl, by rw [Nat.add_assoc]; exact .eptr _ _ _ _ _ hi hr⟩
  | bptr r off b c h => simp only [Go.Ab.shift, Option.some.injEq] at hs; subst hs; exact ⟨b, off, rfl, .bptr _ _ _ _ h⟩
  | aptr r ver size i off b cap h => simp only [Go.Ab.shift, Option.some.injEq] at hs; subst hs; exact ⟨b, _, rfl, by rw [Nat.add_assoc]; exact .aptr _ _ _ _ _ _ _ h⟩
  | _ => simp [Go.Ab.shift] at hs

theorem wrap_both (k : IntKind) (n : Int) : (k.min ≤ k.wrap n ∧ k.wrap n ≤ k.max) ∧ (k.min ≤ n → n ≤ k.max → k.wrap n = n) := by
  have h8 := Int.emod_nonneg n (show (256 : Int) ≠ 0 by decide); have h8' := Int.emod_lt_of_pos n (show (0 : Int) < 256 by decide)
  have h16 := Int.emod_nonneg n (show (65536 : Int) ≠ 0 by decide); have h16' := Int.emod_lt_of_pos n (show (0 : Int) < 65536 by decide)
  cases k <;> simp only [IntKind.min, IntKind.max, IntKind.wrap, IntKind.signed, IntKind.bits, Bool.true_and, Bool.false_and, if_true, Bool.false_eq_true, if_false, ge_iff_le, decide_eq_true_eq, Nat.reduceSub, Nat.reducePow, Int.reducePow, Int.reduceNeg, Int.reduceSub] <;>
    (try split) <;> (constructor <;> (try constructor) <;> omega)
theorem wrap_range (k : IntKind) (n : Int) : k.min ≤ k.wrap n ∧ k.wrap n ≤ k.max := (wrap_both k n).1
theorem wrap_id (k : IntKind) (n : Int) (h1 : k.min ≤ n) (h2 : n ≤ k.max) : k.wrap n = n := (wrap_both k n).2 h1 h2

theorem rep_wrap (k : IntKind) (n : Int) : Rep V (.int k (k.wrap n)) (.int k (k.wrap n)) := .int _ _ (wrap_range k n).1 (wrap_range k n).2

theorem rep_int64 {n : Nat} (h : n ≤ maxLen) : Rep V (.int .i64 n) (.int .i64 n) := by
  refine .int _ _ ?_ ?_
  · simp only [IntKind.min, IntKind.signed, IntKind.bits, if_true]; omega
  · simp only [IntKind.max, IntKind.signed, IntKind.bits, if_true]; simp only [maxLen] at h; omega

theorem tmod_range (k : IntKind) {a b : Int} (ha1 : k.min ≤ a) (ha2 : a ≤ k.max) (_hb : b ≠ 0) : k.min ≤ a.tmod b ∧ a.tmod b ≤ k.max := by
  have h0 : k.min ≤ 0 := by cases k <;> simp [IntKind.min, IntKind.signed, IntKind.bits]
  have h1 : 0 ≤ k.max := by cases k <;> simp [IntKind.max, IntKind.signed, IntKind.bits]
  rcases Int.le_total 0 a with h | h
  · have h2 := Int.tmod_nonneg b h
    have h3 : a.tmod b ≤ a := by
      rw [Int.tmod_eq_emod_of_nonneg h]
      rcases Int.lt_or_gt_of_ne _hb with hb | hb
      · have := Int.emod_nonneg a _hb
        rw [← Int.emod_neg]
        have h5 := Int.emod_def a (-b)
        have h6 : 0 ≤ a / (-b) := Int.ediv_nonneg h (by omega)
        have h7 : 0 ≤ -b * (a / -b) := Int.mul_nonneg (by omega) h6
        omega
      · have h5 := Int.emod_def a b
        have h6 : 0 ≤ a / b := Int.ediv_nonneg h (by omega)
        have h7 : 0 ≤ b * (a / b) := Int.mul_nonneg (by omega) h6
        omega
    omega
  · have h2 : (-a).tmod b = - a.tmod b := Int.neg_tmod a b
    have hna : 0 ≤ -a := by omega
    have h3 := Int.tmod_nonneg b hna
    have h4 : (-a).tmod b ≤ -a := by
      rw [Int.tmod_eq_emod_of_nonneg hna]
      rcases Int.lt_or_gt_of_ne _hb with hb | hb
      · rw [← Int.emod_neg]
        have h5 := Int.emod_def (-a) (-b)
        have h6 : 0 ≤ (-a) / (-b) := Int.ediv_nonneg hna (by omega)
        have h7 : 0 ≤ -b * (-a / -b) := Int.mul_nonneg (by omega) h6
        omega
      · have h5 := Int.emod_def (-a) b
        have h6 : 0 ≤ (-a) / b := Int.ediv_nonneg hna (by omega)
        have h7 : 0 ≤ b * (-a / b) := Int.mul_nonneg (by omega) h6
        omega
    omega

theorem run_quo {k : IntKind} {t : TypeId} {a b : Int} (hb : b ≠ 0) : (binOp .quo t (.int k a) (.int k b)).run P w = .ok (.int k (k.wrap (a.tdiv b))) w := by
  have : Op.intDiv .quo k a b = pure (.int k (k.wrap (a.tdiv b))) := by unfold Op.intDiv; rw [if_neg hb]
  simp [binOp, this]
theorem run_rem {k : IntKind} {t : TypeId} {a b : Int} (hb : b ≠ 0) : (binOp .rem t (.int k a) (.int k b)).run P w = .ok (.int k (a.tmod b)) w := by
  have : Op.intDiv .rem k a b = pure (.int k (a.tmod b)) := by unfold Op.intDiv; rw [if_neg hb]
  simp [binOp, this]

theorem run_binInt (op : BinOp) {k : IntKind} {t : TypeId} {a b : Int} (ha : k.min ≤ a ∧ a ≤ k.max) {c : Prop} {v : AV} (h : abinInt op k a b = some (c, v)) (hc : c) :
    ∃ u, (binOp op t (.int k a) (.int k b)).run P w = .ok u w ∧ Rep V u v := by
  cases op <;> simp only [abinInt, Option.some.injEq, Prod.mk.injEq] at h <;> first
    | (obtain ⟨hcc, rfl⟩ := h; rw [← hcc] at hc; exact ⟨_, run_quo hc, rep_wrap _ _⟩)
    | (obtain ⟨hcc, rfl⟩ := h; rw [← hcc] at hc; exact ⟨_, run_rem hc, .int _ _ (tmod_range k ha.1 ha.2 hc).1 (tmod_range k ha.1 ha.2 hc).2⟩)
    | (obtain ⟨_, rfl⟩ := h; exact ⟨_, by simp [binOp, Op.intArith, Op.intCmp], rep_wrap _ _⟩)
    | (obtain ⟨_, rfl⟩ := h; exact ⟨_, by simp [binOp, Op.intArith, Op.intCmp], .bool _⟩)
    | (cases h)

theorem equalIn_bool {t : TypeId} (hu : P.underlying t = some .bool) (a b : Bool) (d : Nat) : (Op.equalIn (d + 1) t (.bool a) (.bool b)).run P w = .ok (a == b) w := by
  simp only [Op.equalIn, Sem.run_bind, Go.run_underlying hu, Result.andThen_ok, Sem.run_pure]
theorem equalIn_nilp {t e : TypeId} (hu : P.underlying t = some (.pointer e)) (a : Addr) (d : Nat) : (Op.equalIn (d + 1) t (.pointer (some a)) (.pointer none)).run P w = .ok false w := by
  simp only [Op.equalIn, Sem.run_bind, Go.run_underlying hu, Result.andThen_ok, Sem.run_pure]
theorem equal_bool {t : TypeId} (hu : P.underlying t = some .bool) (a b : Bool) : (Op.equal t (.bool a) (.bool b)).run P w = .ok (a == b) w := equalIn_bool hu a b 9999
theorem equal_nilp {t e : TypeId} (hu : P.underlying t = some (.pointer e)) (a : Addr) : (Op.equal t (.pointer (some a)) (.pointer none)).run P w = .ok false w := equalIn_nilp hu a 9999

theorem run_bin (op : BinOp) {t : TypeId} {l : TL} (hT : TyOK P t l) {x y : Value} {ax ay : AV} (hx : Rep V x ax) (hy : Rep V y ay) {c : Prop} {v : AV} (h : abin l.d op ax ay = some (c, v)) (hc : c) :
    ∃ u, (binOp op t x y).run P w = .ok u w ∧ Rep V u v := by
  cases hx with
  | int k n h1 h2 =>
    cases hy with
    | int k' m h3 h4 =>
      simp only [abin] at h
      split at h
      · rename_i hk; subst hk; exact run_binInt op ⟨h1, h2⟩ h hc
      · cases h
    | _ => simp [abin] at h
  | bool b =>
    obtain ⟨d, hrd, hdd⟩ := hT.desc
    cases hy with
    | bool b' =>
      simp only [abin] at h
      split at h
      · rename_i hd
        rw [hd] at hdd; simp only [DescOK] at hdd; subst hdd
        simp only [Option.some.injEq, Prod.mk.injEq] at h; obtain ⟨_, rfl⟩ := h
        exact ⟨_, by simp only [binOp, Sem.run_bind, equal_bool hrd, Result.andThen_ok, Sem.run_pure], .bool _⟩
      · rename_i hd
        rw [hd] at hdd; simp only [DescOK] at hdd; subst hdd
        simp only [Option.some.injEq, Prod.mk.injEq] at h; obtain ⟨_, rfl⟩ := h
        exact ⟨_, by simp only [binOp, Sem.run_bind, equal_bool hrd, Result.andThen_ok, Sem.run_pure], .bool _⟩
      · cases h
    | _ => simp [abin] at h
  | str b hb =>
    cases hy with
    | str b' hb' =>
      cases op <;> simp only [abin, Option.some.injEq, Prod.mk.injEq] at h <;> first
        | (obtain ⟨_, rfl⟩ := h; exact ⟨_, by simp only [binOp, Op.stringOp, Sem.run_pure], .bool _⟩)
        | (cases h)
    | _ => simp [abin] at h
  | bptr r off b c' hl =>
    obtain ⟨d, hrd, hdd⟩ := hT.desc
    cases hy with
    | nilp =>
      simp only [abin] at h
      split at h
      · rename_i hd
        rw [hd] at hdd; obtain ⟨e, rfl⟩ := hdd
        simp only [Option.some.injEq, Prod.mk.injEq] at h; obtain ⟨_, rfl⟩ := h
        exact ⟨_, by simp only [binOp, Sem.run_bind, equal_nilp hrd, Result.andThen_ok, Sem.run_pure], .bool _⟩
      · rename_i hd
        rw [hd] at hdd; obtain ⟨e, rfl⟩ := hdd
        simp only [Option.some.injEq, Prod.mk.injEq] at h; obtain ⟨_, rfl⟩ := h
        exact ⟨_, by simp only [binOp, Sem.run_bind, equal_nilp hrd, Result.andThen_ok, Sem.run_pure, Bool.not_false], .bool _⟩
      · cases h
    | _ => simp [abin] at h
  | _ => simp [abin] at h

theorem run_eqGuard {V : View} (op : BinOp) {t : TypeId} {x y : Operand} {u v : Value} {ax ay : AV} {d : TD} (hx : Rep V u ax) (hy : Rep V v ay) {c : Prop × AV} (h : abin d op ax ay = some c) : (eqGuard op t x y u v).run P w = .ok () w := by
  have : ∀ u v : Value, (∀ a b, ¬ (u = .agg a ∧ v = .agg b)) → ¬ (u = .nilIface ∧ v = .nilIface) → (eqGuard op t x y u v).run P w = .ok () w := by
    intro u v h1 h2
    cases op <;> first
      | rfl
      | (simp only [eqGuard, Bool.not_true, Bool.false_eq_true, if_false, pure_bind]
         split
         · exact absurd ⟨rfl, rfl⟩ h2
         · exact absurd ⟨rfl, rfl⟩ (h1 _ _)
         · rfl)
  refine this u v (fun a b hab => ?_) (fun hab => ?_)
  · obtain ⟨rfl, rfl⟩ := hab
    cases hx <;> simp [abin] at h
  · obtain ⟨rfl, rfl⟩ := hab
    cases hx <;> simp [abin] at h

end
end Go.Ab
