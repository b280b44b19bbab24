/- The executor on abstract values: new objects, append. Conditions stand ahead of each part. -/
import Derived.Test.YtcpfjabjonpdaaaA1

/- The executor's operations run as the model's do: new objects, addresses, parts, literals, arithmetic. Condition: the executor's table of types is the program's. -/
set_option linter.unusedSimpArgs false
namespace Go.Ab
open Go.RowKit (Below)

section
variable {P : Program} {V : View} {w : World} {s : AState}

theorem new_box (hr : RelW V w s) {cells : Array Value} {cs : List AV} (hc : RepL V cells.toList cs) (ty : TypeId) :
    ∃ V', V.Le V' ∧ V'.loc (s.b + s.L.length) 0 = some (some w.heap.size, 0) ∧ RelW V' (w.alloc (.cells cells ty)) (s.new (.box cs)) := by
  obtain ⟨V', h1, h2, h3⟩ := hr.inv.newObj (s.b + s.L.length) (.inl (obj_next s)) (.box cs) (.cells cells ty) 0 0 (by
    intro V' hV hb hl _ hi
    refine ⟨⟨w.heap.size, 0, cells, ty, hl, heap_alloc_new w _, by rw [hb]; exact hr.inv.base, by simpa using hc.1, fun i hi => ?_, hi⟩, by simp [own, hl]⟩
    have := (hc.mono hV).2 i hi
    simpa [List.getD_eq_getElem?_getD] using this)
  exact ⟨V', h1, h2, hr.new _ h3⟩

theorem new_map (hr : RelW V w s) :
    ∃ V', V.Le V' ∧ V'.loc (s.b + s.L.length) 0 = some (some w.heap.size, 0) ∧ RelW V' (w.alloc (.map #[] 0)) (s.new (.map [])) := by
  obtain ⟨V', h1, h2, h3⟩ := hr.inv.newObj (s.b + s.L.length) (.inl (obj_next s)) (.map []) (.map #[] 0) 0 0 (by
    intro V' hV hb hl _ hi
    exact ⟨⟨w.heap.size, 0, #[], 0, hl, heap_alloc_new w _, by rw [hb]; exact hr.inv.base, ⟨rfl, fun i hi => absurd hi (by simp)⟩, hi⟩, by simp [own, hl]⟩)
  exact ⟨V', h1, h2, hr.new _ h3⟩

/-- The cells of a list of elements, one behind the other. -/
def RepE (V : View) (size : Nat) (cells : List Value) (es : List AV) : Prop :=
  (∀ i, i < es.length → (cellsOf (es.getD i .any)).length = size) ∧ ∀ i j, i < es.length → j < size → Rep V (cells.getD (i * size + j) undef) ((cellsOf (es.getD i .any)).getD j .any)

theorem RepE.mono {V V' : View} (hV : V.Le V') {size : Nat} {cells : List Value} {es : List AV} (h : RepE V size cells es) : RepE V' size cells es :=
  ⟨h.1, fun i j hi hj => (h.2 i j hi hj).mono hV⟩

theorem new_arr (hr : RelW V w s) {cells : Array Value} {size cap : Nat} {es : List AV} (hc : RepE V size cells.toList es) (hl : es.length ≤ cap) (hm : cap ≤ maxLen) (hs : cells.size = cap * size) (ty : TypeId) :
    ∃ V', V.Le V' ∧ V'.loc (s.b + s.L.length) 0 = some (some w.heap.size, cap) ∧ RelW V' (w.alloc (.cells cells ty)) (s.new (.arr 0 size es)) := by
  obtain ⟨V', h1, h2, h3⟩ := hr.inv.newObj (s.b + s.L.length) (.inl (obj_next s)) (.arr 0 size es) (.cells cells ty) cap 0 (by
    intro V' hV hb hloc hno hi
    refine ⟨⟨some w.heap.size, cap, hloc, fun m hm => hno m (by omega), hl, hm, hc.1, by rw [hb]; exact hr.inv.base, cells, ty, heap_alloc_new w _, hs, fun i j hi hj => ?_, hi⟩, by simp [own, hloc]⟩
    have := (hc.mono hV).2 i j hi hj
    simpa [List.getD_eq_getElem?_getD] using this)
  exact ⟨V', h1, h2, hr.new _ h3⟩

/-- A new row that is never written: a slice of its own. -/
theorem new_row (hr : RelW V w s) {cells : Array Value} {size : Nat} {es : List AV} (hc : RepE V size cells.toList es) (hs : cells.size = es.length * size) (hm : es.length ≤ maxLen) (ty : TypeId) :
    ∃ V', V.Le V' ∧ RelW V' (w.alloc (.cells cells ty)) s ∧ Rep V' (.slice (some ⟨w.heap.size, 0, none⟩) es.length es.length) (.sl es .full) := by
  obtain ⟨hV, hI⟩ := hr.inv.newRow cells ty
  refine ⟨_, hV, ⟨hr.hb, hr.bel, hI⟩, ?_⟩
  refine .sl _ es.length es.length es .full size w.heap.size 0 (fun j => cells.getD j undef) rfl (Nat.le_refl _) hm (fun _ => rfl) hc.1 ?_ ?_ (fun r h => by cases h) (fun _ => rfl)
  · intro j hj
    have : j < cells.size := by omega
    simp [View.withRow, this]
  · intro i j hi hj
    have := (hc.mono hV).2 i j hi hj
    simpa [List.getD_eq_getElem?_getD] using this

theorem RepE.nil (V : View) (size : Nat) : RepE V size [] [] := ⟨fun i hi => absurd hi (by simp), fun i j hi => absurd hi (by simp)⟩

theorem Rep.shift {v : Value} {x y : AV} {k : Nat} (h : Rep V v x) (hs : shift k x = some y) : ∃ b o, v = .pointer (some ⟨b, o, none⟩) ∧ Rep V (.pointer (some ⟨b, o + k, none⟩)) y := by
  cases h with
  | eptr e off b o val hi hr => simp only [Go.Ab.shift, Option.some.injEq] at hs; subst hs; exact ⟨b, o + off, rfl, by rw [Nat.add_assoc]; exact .eptr _ _ _ _ _ hi hr⟩
  | bptr r off b c h => simp only [Go.Ab.shift, Option.some.injEq] at hs; subst hs; exact ⟨b, off, rfl, .bptr _ _ _ _ h⟩
  | aptr r ver size i off b cap h => simp only [Go.Ab.shift, Option.some.injEq] at hs; subst hs; exact ⟨b, _, rfl, by rw [Nat.add_assoc]; exact .aptr _ _ _ _ _ _ _ h⟩
  | _ => simp [Go.Ab.shift] at hs

theorem wrap_both (k : IntKind) (n : Int) : (k.min ≤ k.wrap n ∧ k.wrap n ≤ k.max) ∧ (k.min ≤ n → n ≤ k.max → k.wrap n = n) := by
  have h8 := Int.emod_nonneg n (show (256 : Int) ≠ 0 by decide); have h8' := Int.emod_lt_of_pos n (show (0 : Int) < 256 by decide)
  have h16 := Int.emod_nonneg n (show (65536 : Int) ≠ 0 by decide); have h16' := Int.emod_lt_of_pos n (show (0 : Int) < 65536 by decide)
  cases k <;> simp only [IntKind.min, IntKind.max, IntKind.wrap, IntKind.signed, IntKind.bits, Bool.true_and, Bool.false_and, if_true, Bool.false_eq_true, if_false, ge_iff_le, decide_eq_true_eq, Nat.reduceSub, Nat.reducePow, Int.reducePow, Int.reduceNeg, Int.reduceSub] <;>
    (try split) <;> (constructor <;> (try constructor) <;> omega)
theorem wrap_range (k : IntKind) (n : Int) : k.min ≤ k.wrap n ∧ k.wrap n ≤ k.max := (wrap_both k n).1
theorem wrap_id (k : IntKind) (n : Int) (h1 : k.min ≤ n) (h2 : n ≤ k.max) : k.wrap n = n := (wrap_both k n).2 h1 h2

theorem rep_wrap (k : IntKind) (n : Int) : Rep V (.int k (k.wrap n)) (.int k (k.wrap n)) := .int _ _ (wrap_range k n).1 (wrap_range k n).2

theorem rep_int64 {n : Nat} (h : n ≤ maxLen) : Rep V (.int .i64 n) (.int .i64 n) := by
  refine .int _ _ ?_ ?_
  · simp only [IntKind.min, IntKind.signed, IntKind.bits, if_true]; omega
  · simp only [IntKind.max, IntKind.signed, IntKind.bits, if_true]; simp only [maxLen] at h; omega

theorem tmod_range (k : IntKind) {a b : Int} (ha1 : k.min ≤ a) (ha2 : a ≤ k.max) (_hb : b ≠ 0) : k.min ≤ a.tmod b ∧ a.tmod b ≤ k.max := by
  have h0 : k.min ≤ 0 := by cases k <;> simp [IntKind.min, IntKind.signed, IntKind.bits]
  have h1 : 0 ≤ k.max := by cases k <;> simp [IntKind.max, IntKind.signed, IntKind.bits]
  rcases Int.le_total 0 a with h | h
  · have h2 := Int.tmod_nonneg b h
    have h3 : a.tmod b ≤ a := by
      rw [Int.tmod_eq_emod_of_nonneg h]
      rcases Int.lt_or_gt_of_ne _hb with hb | hb
      · have := Int.emod_nonneg a _hb
        rw [← Int.emod_neg]
        have h5 := Int.emod_def a (-b)
        have h6 : 0 ≤ a / (-b) := Int.ediv_nonneg h (by omega)
        have h7 : 0 ≤ -b * (a / -b) := Int.mul_nonneg (by omega) h6
        omega
      · have h5 := Int.emod_def a b
        have h6 : 0 ≤ a / b := Int.ediv_nonneg h (by omega)
        have h7 : 0 ≤ b * (a / b) := Int.mul_nonneg (by omega) h6
        omega
    omega
  · have h2 : (-a).tmod b = - a.tmod b := Int.neg_tmod a b
    have hna : 0 ≤ -a := by omega
    have h3 := Int.tmod_nonneg b hna
    have h4 : (-a).tmod b ≤ -a := by
      rw [Int.tmod_eq_emod_of_nonneg hna]
      rcases Int.lt_or_gt_of_ne _hb with hb | hb
      · rw [← Int.emod_neg]
        have h5 := Int.emod_def (-a) (-b)
        have h6 : 0 ≤ (-a) / (-b) := Int.ediv_nonneg hna (by omega)
        have h7 : 0 ≤ -b * (-a / -b) := Int.mul_nonneg (by omega) h6
        omega
      · have h5 := Int.emod_def (-a) b
        have h6 : 0 ≤ (-a) / b := Int.ediv_nonneg hna (by omega)
        have h7 : 0 ≤ b * (-a / b) := Int.mul_nonneg (by omega) h6
        omega
    omega

theorem run_quo {k : IntKind} {t : TypeId} {a b : Int} (hb : b ≠ 0) : (binOp .quo t (.int k a) (.int k b)).run P w = .ok (.int k (k.wrap (a.tdiv b))) w := by
  have : Op.intDiv .quo k a b = pure (.int k (k.wrap (a.tdiv b))) := by unfold Op.intDiv; rw [if_neg hb]
  simp [binOp, this]
theorem run_rem {k : IntKind} {t : TypeId} {a b : Int} (hb : b ≠ 0) : (binOp .rem t (.int k a) (.int k b)).run P w = .ok (.int k (a.tmod b)) w := by
  have : Op.intDiv .rem k a b = pure (.int k (a.tmod b)) := by unfold Op.intDiv; rw [if_neg hb]
  simp [binOp, this]

theorem run_binInt (op : BinOp) {k : IntKind} {t : TypeId} {a b : Int} (ha : k.min ≤ a ∧ a ≤ k.max) {c : Prop} {v : AV} (h : abinInt op k a b = some (c, v)) (hc : c) :
    ∃ u, (binOp op t (.int k a) (.int k b)).run P w = .ok u w ∧ Rep V u v := by
  cases op <;> simp only [abinInt, Option.some.injEq, Prod.mk.injEq] at h <;> first
    | (obtain ⟨hcc, rfl⟩ := h; rw [← hcc] at hc; exact ⟨_, run_quo hc, rep_wrap _ _⟩)
    | (obtain ⟨hcc, rfl⟩ := h; rw [← hcc] at hc; exact ⟨_, run_rem hc, .int _ _ (tmod_range k ha.1 ha.2 hc).1 (tmod_range k ha.1 ha.2 hc).2⟩)
    | (obtain ⟨_, rfl⟩ := h; exact ⟨_, by simp [binOp, Op.intArith, Op.intCmp], rep_wrap _ _⟩)
    | (obtain ⟨_, rfl⟩ := h; exact ⟨_, by simp [binOp, Op.intArith, Op.intCmp], .bool _⟩)
    | (cases h)

theorem equalIn_bool {t : TypeId} (hu : P.underlying t = some .bool) (a b : Bool) (d : Nat) : (Op.equalIn (d + 1) t (.bool a) (.bool b)).run P w = .ok (a == b) w := by
  simp only [Op.equalIn, Sem.run_bind, Go.run_underlying hu, Result.andThen_ok, Sem.run_pure]
theorem equalIn_nilp {t e : TypeId} (hu : P.underlying t = some (.pointer e)) (a : Addr) (d : Nat) : (Op.equalIn (d + 1) t (.pointer (some a)) (.pointer none)).run P w = .ok false w := by
  simp only [Op.equalIn, Sem.run_bind, Go.run_underlying hu, Result.andThen_ok, Sem.run_pure]
theorem equal_bool {t : TypeId} (hu : P.underlying t = some .bool) (a b : Bool) : (Op.equal t (.bool a) (.bool b)).run P w = .ok (a == b) w := equalIn_bool hu a b 9999
theorem equal_nilp {t e : TypeId} (hu : P.underlying t = some (.pointer e)) (a : Addr) : (Op.equal t (.pointer (some a)) (.pointer none)).run P w = .ok false w := equalIn_nilp hu a 9999

theorem run_bin (op : BinOp) {t : TypeId} {l : TL} (hT : TyOK P t l) {x y : Value} {ax ay : AV} (hx : Rep V x ax) (hy : Rep V y ay) {c : Prop} {v : AV} (h : abin l.d op ax ay = some (c, v)) (hc : c) :
    ∃ u, (binOp op t x y).run P w = .ok u w ∧ Rep V u v := by
  cases hx with
  | int k n h1 h2 =>
    cases hy with
    | int k' m h3 h4 =>
      simp only [abin] at h
      split at h
      · rename_i hk; subst hk; exact run_binInt op ⟨h1, h2⟩ h hc
      · cases h
    | _ => simp [abin] at h
  | bool b =>
    obtain ⟨d, hrd, hdd⟩ := hT.desc
    cases hy with
    | bool b' =>
      simp only [abin] at h
      split at h
      · rename_i hd
        rw [hd] at hdd; simp only [DescOK] at hdd; subst hdd
        simp only [Option.some.injEq, Prod.mk.injEq] at h; obtain ⟨_, rfl⟩ := h
        exact ⟨_, by simp only [binOp, Sem.run_bind, equal_bool hrd, Result.andThen_ok, Sem.run_pure], .bool _⟩
      · rename_i hd
        rw [hd] at hdd; simp only [DescOK] at hdd; subst hdd
        simp only [Option.some.injEq, Prod.mk.injEq] at h; obtain ⟨_, rfl⟩ := h
        exact ⟨_, by simp only [binOp, Sem.run_bind, equal_bool hrd, Result.andThen_ok, Sem.run_pure], .bool _⟩
      · cases h
    | _ => simp [abin] at h
  | str b hb =>
    cases hy with
    | str b' hb' =>
      cases op <;> simp only [abin, Option.some.injEq, Prod.mk.injEq] at h <;> first
        | (obtain ⟨_, rfl⟩ := h; exact ⟨_, by simp only [binOp, Op.stringOp, Sem.run_pure], .bool _⟩)
        | (cases h)
    | _ => simp [abin] at h
  | bptr r off b c' hl =>
    obtain ⟨d, hrd, hdd⟩ := hT.desc
    cases hy with
    | nilp =>
      simp only [abin] at h
      split at h
      · rename_i hd
        rw [hd] at hdd; obtain ⟨e, rfl⟩ := hdd
        simp only [Option.some.injEq, Prod.mk.injEq] at h; obtain ⟨_, rfl⟩ := h
        exact ⟨_, by simp only [binOp, Sem.run_bind, equal_nilp hrd, Result.andThen_ok, Sem.run_pure], .bool _⟩
      · rename_i hd
        rw [hd] at hdd; obtain ⟨e, rfl⟩ := hdd
        simp only [Option.some.injEq, Prod.mk.injEq] at h; obtain ⟨_, rfl⟩ := h
        exact ⟨_, by simp only [binOp, Sem.run_bind, equal_nilp hrd, Result.andThen_ok, Sem.run_pure, Bool.not_false], .bool _⟩
      · cases h
    | _ => simp [abin] at h
  | _ => simp [abin] at h

theorem run_eqGuard {V : View} (op : BinOp) {t : TypeId} {x y : Operand} {u v : Value} {ax ay : AV} {d : TD} (hx : Rep V u ax) (hy : Rep V v ay) {c : Prop × AV} (h : abin d op ax ay = some c) : (eqGuard op t x y u v).run P w = .ok () w := by
  have : ∀ u v : Value, (∀ a b, ¬ (u = .agg a ∧ v = .agg b)) → ¬ (u = .nilIface ∧ v = .nilIface) → (eqGuard op t x y u v).run P w = .ok () w := by
    intro u v h1 h2
    cases op <;> first
      | rfl
      | (simp only [eqGuard, Bool.not_true, Bool.false_eq_true, if_false, pure_bind]
         split
         · exact absurd ⟨rfl, rfl⟩ h2
         · exact absurd ⟨rfl, rfl⟩ (h1 _ _)
         · rfl)
  refine this u v (fun a b hab => ?_) (fun hab => ?_)
  · obtain ⟨rfl, rfl⟩ := hab
    cases hx <;> simp [abin] at h
  · obtain ⟨rfl, rfl⟩ := hab
    cases hx <;> simp [abin] at h

end
end Go.Ab

/- The executor's append runs as the model's does, whatever room there is. Condition: the executor's table of types is the program's. -/
set_option linter.unusedSimpArgs false
namespace Go.Ab
open Go.RowKit (Below)

section
variable {P : Program} {V : View} {w : World} {s : AState}

theorem RepE.append {size : Nat} {c1 c2 c3 : List Value} {es xs : List AV} (h : RepE V size c1 es) (k : RepE V size c2 xs) (hl : c1.length = es.length * size) (hl2 : c2.length = xs.length * size) :
    RepE V size (c1 ++ c2 ++ c3) (es ++ xs) := by
  refine ⟨fun i hi => ?_, fun i j hi hj => ?_⟩
  · by_cases h1 : i < es.length
    · rw [getD_app_l _ _ _ h1]; exact h.1 i h1
    · rw [getD_app_r _ _ _ (by omega)]; exact k.1 _ (by simp at hi; omega)
  · have hmul : ∀ {p q : Nat}, p < q → p * size + j < q * size := fun {p q} hpq => by
      have : (p + 1) * size ≤ q * size := Nat.mul_le_mul_right _ hpq
      rw [Nat.succ_mul] at this; omega
    by_cases h1 : i < es.length
    · have h2 := hmul h1
      rw [getD_app_l _ _ _ h1, List.append_assoc, getD_app_l _ _ _ (by omega)]
      exact h.2 i j h1 hj
    · have h3 : i - es.length < xs.length := by simp at hi; omega
      have h2 := hmul h3
      have h4 : i * size = es.length * size + (i - es.length) * size := by rw [← Nat.add_mul]; congr 1; omega
      rw [List.append_assoc, getD_app_r c1 _ _ (by omega), getD_app_l _ _ _ (by omega), getD_app_r es _ _ (by omega), show i * size + j - c1.length = (i - es.length) * size + j by omega]
      exact k.2 _ j h3 hj

theorem RepE.of_solid {size : Nat} {es : List AV} {cells : List Value} (h1 : ∀ y ∈ es, (cellsOf y).length = size)
    (h2 : ∀ i j, i < es.length → j < size → Rep V (cells.getD (i * size + j) undef) ((cellsOf (es.getD i .any)).getD j .any)) : RepE V size cells es :=
  ⟨fun i hi => by rw [getD_lt _ hi]; exact h1 _ (List.getElem_mem hi), h2⟩

theorem RepE.oneCells {size : Nat} {cells : List Value} {es : List AV} (h : RepE V size cells es) (hs : ∀ y ∈ es, y.solid = true) (hl : cells.length = es.length * size) : ∀ u ∈ cells, u.oneCell' = true := by
  intro u hu
  obtain ⟨q, hq, rfl⟩ := List.mem_iff_getElem.1 hu
  have hpos : 0 < size := by
    rcases Nat.eq_zero_or_pos size with h0 | h0
    · subst h0; simp at hl; subst hl; simp at hq
    · exact h0
  have hi : q / size < es.length := by rw [Nat.div_lt_iff_lt_mul hpos, ← hl]; exact hq
  have hj : q % size < size := Nat.mod_lt _ hpos
  have h1 := h.2 _ _ hi hj
  have h2 : q / size * size + q % size = q := by rw [Nat.mul_comm]; exact Nat.div_add_mod q size
  rw [h2, getD_lt _ hq] at h1
  have hm : es.getD (q / size) .any ∈ es := by rw [getD_lt _ hi]; exact List.getElem_mem hi
  exact h1.oneCell (AV.solid_one (hs _ hm) _ (by rw [h.1 _ hi]; exact hj))

/-- The cells of an immutable slice's elements. -/
theorem sl_cells {V : View} {w : World} (himm : ∀ b o v, V.imm b o = some v → w.cell? ⟨b, o, none⟩ = some v) {u : Value} {es : List AV} {tk : Tk} (h : Rep V u (.sl es tk)) {size : Nat} (hsz : ∀ y ∈ es, (cellsOf y).length = size) :
    ∃ base cap b o, ∃ news : List Value, u = .slice base es.length cap ∧ es.length ≤ cap ∧ cap ≤ maxLen ∧ (0 < es.length → base = some ⟨b, o, none⟩) ∧
      news.length = es.length * size ∧ (∀ j v, news[j]? = some v → w.cell? ⟨b, o + j, none⟩ = some v) ∧ (∀ j v, news[j]? = some v → V.imm b (o + j) = some v) ∧ RepE V size news es ∧
      (∀ r, tk = .own r → ∃ blk, V.loc r es.length = some (blk, cap) ∧ base = baseOf blk) ∧ (tk = .full → cap = es.length) := by
  cases h with
  | sl bse len cap _ _ size' b o val hl hc hm hb hs hi hr ht hf =>
    subst hl
    have hsize : 0 < es.length → size' = size := fun h0 => by
      have h1 := hs 0 h0
      have h2 := hsz (es.getD 0 .any) (by rw [getD_lt _ h0]; exact List.getElem_mem h0)
      omega
    have key : ∀ j, j < es.length * size → j < es.length * size' := fun j hj => by
      rcases Nat.eq_zero_or_pos es.length with h0 | h0
      · rw [h0] at hj; simp at hj
      · rw [hsize h0]; exact hj
    have getVal : ∀ {j : Nat} {v : Value}, ((List.range (es.length * size)).map val)[j]? = some v → j < es.length * size ∧ val j = v := fun {j v} hv => by
      obtain ⟨h1, h2⟩ := List.getElem?_eq_some_iff.1 hv
      simp at h1 h2
      exact ⟨h1, h2⟩
    refine ⟨bse, cap, b, o, (List.range (es.length * size)).map val, rfl, hc, hm, hb, by simp, ?_, ?_, ?_, ht, hf⟩
    · intro j v hv
      obtain ⟨hj, rfl⟩ := getVal hv
      exact himm _ _ _ (hi _ (key _ hj))
    · intro j v hv
      obtain ⟨hj, rfl⟩ := getVal hv
      exact hi _ (key _ hj)
    · refine RepE.of_solid hsz fun i j hi' hj => ?_
      have h0 : 0 < es.length := by omega
      have hlt : i * size + j < es.length * size := by
        have : (i + 1) * size ≤ es.length * size := Nat.mul_le_mul_right _ hi'
        rw [Nat.succ_mul] at this; omega
      have := hr i j hi' (by rw [hsize h0]; exact hj)
      rw [hsize h0] at this
      simpa [List.getD_eq_getElem?_getD, hlt] using this

theorem run_firstCells (w : World) (size m cap : Nat) (base : Option Addr) (ad : Addr) (news : List Value) (hb : 0 < m → base = some ad) (hl : news.length = m * size)
    (hc : ∀ j v, news[j]? = some v → w.cell? (ad.add j) = some v) : (Builtin.firstCells size m (.slice base m cap)).run P w = .ok news.toArray w := by
  rcases Nat.eq_zero_or_pos m with h0 | h0
  · subst h0
    have : news = [] := List.eq_nil_of_length_eq_zero (by simpa using hl)
    subst this
    cases base with
    | none => simp [Builtin.firstCells]
    | some a => simp [Builtin.firstCells, loadCells, loadCellsFrom]
  · rw [hb h0]
    exact run_firstCells_some w size m ad m cap news hl hc

theorem run_append_in (w : World) {t ty e : TypeId} {i : TypeInfo} (ht : P.underlying t = some (.slice e)) (hi : P.info? e = some i)
    {b n cap : Nat} {cur : Array Value} {et : TypeId} (hg : w.heap[b]? = some (.cells cur et (0, 0))) {base : Option Addr} {ad : Addr} {m c : Nat} {news : List Value}
    (hb : 0 < m → base = some ad) (hl : news.length = m * i.size) (hc : ∀ j v, news[j]? = some v → w.cell? (ad.add j) = some v) (h1 : ∀ u ∈ news, u.oneCell' = true)
    (hroom : n + m ≤ cap) (hfit : n * i.size + news.length ≤ cur.size) :
    (Builtin.append_ #[t, t] ty #[.slice (some ⟨b, 0, none⟩) n cap, .slice base m c]).run P w =
      .ok (.slice (some ⟨b, 0, none⟩) (n + m) cap) (w.setRow b (cur.toList.take (n * i.size) ++ news ++ cur.toList.drop (n * i.size + news.length)).toArray) := by
  have hf := run_firstCells (P := P) w i.size m c base ad news hb hl hc
  have hst := run_storeCells_at P b (n * i.size) et news 0 cur w hg (by simpa using hfit) h1
  simp only [Nat.add_zero] at hst
  simp [Builtin.append_, Go.run_underlying ht, sizeOf, typeInfo, hi, Builtin.lenOf, hroom, hf, addr_add, hst]

theorem run_append_nil0 (w : World) {t ty e : TypeId} {i : TypeInfo} (ht : P.underlying t = some (.slice e)) (hi : P.info? e = some i) {base : Option Addr} {ad : Addr} {c : Nat} {news : List Value}
    (hb : 0 < 0 → base = some ad) (hl : news.length = 0 * i.size) (hc : ∀ j v, news[j]? = some v → w.cell? (ad.add j) = some v) :
    (Builtin.append_ #[t, t] ty #[.slice none 0 0, .slice base 0 c]).run P w = .ok (.slice none 0 0) w := by
  have hf := run_firstCells (P := P) w i.size 0 c base ad news hb hl hc
  simp [Builtin.append_, Go.run_underlying ht, sizeOf, typeInfo, hi, Builtin.lenOf, hf]

theorem run_append_out (w : World) {t ty e : TypeId} {i : TypeInfo} {z : Value} (ht : P.underlying t = some (.slice e)) (hi : P.info? e = some i) (hz : i.zero = some z)
    {base0 : Option Addr} {ad0 : Addr} {n cap : Nat} {olds : List Value} (hb0 : 0 < n → base0 = some ad0) (hl0 : olds.length = n * i.size) (hc0 : ∀ j v, olds[j]? = some v → w.cell? (ad0.add j) = some v)
    {base : Option Addr} {ad : Addr} {m c : Nat} {news : List Value} (hb : 0 < m → base = some ad) (hl : news.length = m * i.size) (hc : ∀ j v, news[j]? = some v → w.cell? (ad.add j) = some v)
    (hg : cap < n + m) (hby : (n + m) * i.bytes ≤ bytesMax) (hmax : n + m ≤ maxLen) :
    ∃ nc, n + m ≤ nc ∧ nc ≤ maxLen ∧ (Builtin.append_ #[t, t] ty #[.slice base0 n cap, .slice base m c]).run P w =
      .ok (.slice (some ⟨w.heap.size, 0, none⟩) (n + m) nc) (w.drew.alloc (.cells (olds ++ news ++ (Builtin.zeroCells z.cells (nc - (n + m))).toList).toArray e)) := by
  have hn : ¬ (n + m ≤ cap) := by omega
  have h63' : ¬ (9223372036854775807 < ((n : Int) + (m : Int))) := by simp only [maxLen] at hmax; omega
  have h48' : ¬ (281474976710656 < Builtin.nextslicecap (n + m) cap * i.bytes) := by have := growslice_fits hg hby; omega
  have hf := run_firstCells (P := P) w.drew i.size m c base ad news hb hl (by simpa using hc)
  have hfo : (Builtin.firstCells i.size n (.slice base0 n cap)).run P w.drew = .ok olds.toArray w.drew := run_firstCells (P := P) w.drew i.size n cap base0 ad0 olds hb0 hl0 (by simpa using hc0)
  refine ⟨grownCap w (n + m) cap e, grownCap_ge w _ _ _, grownCap_le_maxLen w _ _ _ hmax, ?_⟩
  simp [Builtin.append_, Go.run_underlying ht, sizeOf, typeInfo, zeroValue, hi, hz, Builtin.lenOf, hn, h63', h48', Question.forced, hf, hfo, newRow, grownCap]
  congr 2
  apply Array.ext'
  simp [List.append_assoc]

end
end Go.Ab

/- The executor's append, on its states. Condition: the executor's table of types is the program's. -/
set_option linter.unusedSimpArgs false
namespace Go.Ab
open Go.RowKit (Below)

section
variable {P : Program} {V : View} {w : World} {s : AState}

theorem RepE.take {size : Nat} {cells : List Value} {es : List AV} (h : RepE V size cells es) (n : Nat) : RepE V size (cells.take (n * size)) (es.take n) := by
  refine ⟨fun i hi => ?_, fun i j hi hj => ?_⟩
  · simp only [List.length_take] at hi
    have := h.1 i (by omega)
    simpa [List.getD_eq_getElem?_getD, List.getElem?_take, show i < n by omega] using this
  · simp only [List.length_take] at hi
    have h1 := h.2 i j (by omega) hj
    have hlt : i * size + j < n * size := by
      have : (i + 1) * size ≤ n * size := Nat.mul_le_mul_right _ (by omega)
      rw [Nat.succ_mul] at this; omega
    simpa [List.getD_eq_getElem?_getD, List.getElem?_take, show i < n by omega, hlt] using h1

theorem RepE.resize {size size' : Nat} {cells : List Value} {es : List AV} (h : RepE V size cells es) (hs : ∀ y ∈ es, (cellsOf y).length = size') : RepE V size' cells es := by
  rcases Nat.eq_zero_or_pos es.length with h0 | h0
  · exact ⟨fun i hi => absurd hi (by omega), fun i j hi => absurd hi (by omega)⟩
  · have h1 := h.1 0 h0
    have h2 := hs (es.getD 0 .any) (by rw [getD_lt _ h0]; exact List.getElem_mem h0)
    have : size = size' := by omega
    subst this; exact h

theorem arr_cells (hr : RelW V w s) {r ver size : Nat} {es : List AV} (ho : s.obj r = some (.arr ver size es)) :
    ∃ blk cap, V.loc r ver = some (blk, cap) ∧ (∀ m, ver < m → V.loc r m = none) ∧ es.length ≤ cap ∧ cap ≤ maxLen ∧ (blk = none → cap = 0) ∧ (∀ i, i < es.length → (cellsOf (es.getD i .any)).length = size) ∧
      ∀ b, blk = some b → V.base ≤ b ∧ ∃ cells ty, w.heap[b]? = some (.cells cells ty (0, 0)) ∧ cells.size = cap * size ∧ RepE V size cells.toList es ∧ ∀ o, V.imm b o = none := by
  obtain ⟨blk, cap, h1, h2, h3, h4, h5, h6⟩ := hr.inv.objs r _ ho
  refine ⟨blk, cap, h1, h2, h3, h4, ?_, h5, ?_⟩
  · intro hb; subst hb; exact h6
  · intro b hb; subst hb
    obtain ⟨h7, cells, ty, h8, h9, h10, h11⟩ := h6
    exact ⟨h7, cells, ty, h8, h9, ⟨h5, fun i j hi hj => by have := h10 i j hi hj; simpa [List.getD_eq_getElem?_getD] using this⟩, h11⟩

theorem src_cells (hr : RelW V w s) {u : Value} {ax : AV} (hu : Rep V u ax) {xs : List AV} {cx : Prop} (he : elemsOf s ax = some (xs, cx)) (hcx : cx) {size : Nat} (hsz : ∀ y ∈ xs, (cellsOf y).length = size) :
    ∃ base ad cap, ∃ news : List Value, u = .slice base xs.length cap ∧ (0 < xs.length → base = some ad) ∧ news.length = xs.length * size ∧ (∀ j v, news[j]? = some v → w.cell? (ad.add j) = some v) ∧ RepE V size news xs := by
  cases ax with
  | sl es tk =>
    simp only [elemsOf, Option.some.injEq, Prod.mk.injEq] at he
    obtain ⟨rfl, _⟩ := he
    obtain ⟨base, cap, b, o, news, h1, _, _, h4, h5, h6, _, h8, _⟩ := sl_cells hr.inv.imm hu hsz
    exact ⟨base, ⟨b, o, none⟩, cap, news, h1, h4, h5, fun j v hv => by rw [addr_add]; exact h6 j v hv, h8⟩
  | ms r ver len =>
    simp only [elemsOf] at he
    split at he
    · rename_i v' sz es ho
      simp only [Option.some.injEq, Prod.mk.injEq] at he
      obtain ⟨rfl, hce⟩ := he
      rw [← hce] at hcx
      obtain ⟨rfl, hlen⟩ := hcx
      cases hu with
      | ms _ _ _ blk cap hl hcap hm _ =>
        obtain ⟨blk', cap', h1, _, h3, h4, h5, h6, h7⟩ := arr_cells hr ho
        rw [hl] at h1
        simp only [Option.some.injEq, Prod.mk.injEq] at h1
        obtain ⟨rfl, rfl⟩ := h1
        have hlt : (es.take len).length = len := by simp; omega
        cases blk with
        | none =>
          have : cap = 0 := h5 rfl
          subst this
          have hl0 : len = 0 := by omega
          subst hl0
          exact ⟨none, ⟨0, 0, none⟩, 0, [], by simp [baseOf], fun h => absurd h (by simp), by simp, fun j v hv => by simp at hv, ⟨fun i hi => absurd hi (by simp), fun i j hi => absurd hi (by simp)⟩⟩
        | some b =>
          obtain ⟨h8, cells, ty, h9, h10, h11, _⟩ := h7 b rfl
          have hE : RepE V size (cells.toList.take (len * sz)) (es.take len) := (h11.take len).resize hsz
          have hszeq : len * sz = len * size := by
            rcases Nat.eq_zero_or_pos len with h0 | h0
            · simp [h0]
            · have e1 := h6 0 (by omega)
              have e2 := hsz (es.getD 0 .any) (by
                rw [getD_lt _ (by omega)]
                exact List.mem_of_getElem? (show (es.take len)[0]? = some es[0] by simp [List.getElem?_take, h0, show 0 < es.length by omega]))
              rw [← e1, e2]
          refine ⟨some ⟨b, 0, none⟩, ⟨b, 0, none⟩, cap, cells.toList.take (len * sz), by rw [hlt]; rfl, fun _ => rfl, ?_, ?_, hE⟩
          · have : len * sz ≤ cap * sz := Nat.mul_le_mul_right _ hcap
            have h0 : len * sz ≤ cells.toList.length := by rw [Array.length_toList, h10]; exact this
            rw [List.length_take, Nat.min_eq_left h0, hlt, hszeq]
          · intro j v hv
            rw [List.getElem?_take] at hv
            split at hv
            · rw [addr_add]; simp only [Nat.zero_add, World.cell?, h9]; simpa using hv
            · cases hv
    · cases he
  | _ => simp [elemsOf] at he

theorem sl_ownRep {V' : View} {size b n cap r : Nat} {cells : List Value} {es : List AV} {tk : Tk} (hn : es.length = n) (hc : n ≤ cap) (hm : cap ≤ maxLen) (hE : RepE V' size cells es)
    (hi : ∀ j, j < n * size → V'.imm b j = some (cells.getD j undef)) (ht : tk = .own r ∧ V'.loc r n = some (some b, cap)) : Rep V' (.slice (some ⟨b, 0, none⟩) n cap) (.sl es tk) := by
  subst hn
  refine .sl _ _ cap es tk size b 0 (fun j => cells.getD j undef) rfl hc hm (fun _ => rfl) hE.1 (fun j hj => by rw [Nat.zero_add]; exact hi j hj) hE.2 ?_ ?_
  · intro r' hr'
    obtain ⟨rfl, h2⟩ := ht
    cases hr'
    exact ⟨some b, h2, rfl⟩
  · intro h; obtain ⟨rfl, _⟩ := ht; cases h

/-- An owner's slice grows in its own block. -/
theorem own_in (hr : RelW V w s) {r n size : Nat} (ho : s.obj r = some (.tok n size)) {b cap : Nat} (hl : V.loc r n = some (some b, cap)) {es xs : List AV} {olds news : List Value}
    (hn : es.length = n) (hE : RepE V size olds es) (hol : olds.length = n * size) (hoi : ∀ j v, olds[j]? = some v → V.imm b j = some v)
    (hX : RepE V size news xs) (hnl : news.length = xs.length * size) (hroom : n + xs.length ≤ cap) :
    ∃ cur et, w.heap[b]? = some (.cells cur et (0, 0)) ∧ n * size + news.length ≤ cur.size ∧ ∃ V', V.Le V' ∧ V.base ≤ b ∧
      RelW V' (w.setRow b (cur.toList.take (n * size) ++ news ++ cur.toList.drop (n * size + news.length)).toArray) (s.setObj r (.tok (n + xs.length) size)) ∧
      Rep V' (.slice (some ⟨b, 0, none⟩) (n + xs.length) cap) (.sl (es ++ xs) (.own r)) := by
  obtain ⟨blk, cap', h1, h2, h3, h4, h5⟩ := hr.inv.objs r _ ho
  rw [hl] at h1
  simp only [Option.some.injEq, Prod.mk.injEq] at h1
  obtain ⟨rfl, rfl⟩ := h1
  obtain ⟨h6, cur, et, h7, h8, h9⟩ := h5
  have hfit : n * size + news.length ≤ cur.size := by
    rw [hnl, h8, ← Nat.add_mul]; exact Nat.mul_le_mul_right _ hroom
  refine ⟨cur, et, h7, hfit, ?_⟩
  let f : Nat → Option Value := fun o => if o < n * size then V.imm b o else if o < (n + xs.length) * size then news[o - n * size]? else none
  let V' : View := { base := V.base, imm := fun b' o => if b' = b then f o else V.imm b' o, loc := fun q m => if q = r ∧ m = n + xs.length then some (some b, cap) else V.loc q m }
  have hle : V.Le V' := by
    refine ⟨rfl, fun b' o v hv => ?_, fun q m y hy => ?_⟩
    · by_cases hb' : b' = b
      · subst hb'
        have : o < n * size := by
          rcases Nat.lt_or_ge o (n * size) with h | h
          · exact h
          · rw [h9 o h] at hv; cases hv
        simp [V', f, this, hv]
      · simp [V', hb', hv]
    · by_cases hq : q = r ∧ m = n + xs.length
      · obtain ⟨rfl, rfl⟩ := hq
        rcases Nat.eq_zero_or_pos xs.length with h0 | h0
        · rw [h0, Nat.add_zero, hl] at hy; simp [V', hy]
        · rw [h2 _ (by omega)] at hy; cases hy
      · simp [V', hq, hy]
  have hcells : ∀ o v, f o = some v → (cur.toList.take (n * size) ++ news ++ cur.toList.drop (n * size + news.length))[o]? = some v := by
    intro o v hv
    have ht : (cur.toList.take (n * size)).length = n * size := by simp; omega
    simp only [f] at hv
    split at hv
    · rename_i hlt
      have := hr.inv.imm _ _ _ hv
      rw [List.append_assoc, List.getElem?_append_left (by omega), List.getElem?_take, if_pos hlt]
      simpa [World.cell?, h7] using this
    · split at hv
      · rename_i h10 h11
        rw [Nat.add_mul] at h11
        rw [List.append_assoc, List.getElem?_append_right (by omega), ht, List.getElem?_append_left (by omega)]
        exact hv
      · cases hv
  have hlocn : V'.loc r (n + xs.length) = some (some b, cap) := by simp [V']
  refine ⟨V', hle, h6, ?_, ?_⟩
  · refine hr.setObj ho (hr.inv.write r _ (.tok (n + xs.length) size) ho b (by simp [own, hl]) (by simp [World.setRow]) (fun k hk => setRow_other w b k _ hk) V' hle ?_ ?_ ?_ ?_ ?_) (fun _ => rfl)
    · intro b1 o hb1; simp [V', hb1]
    · intro o v hv
      simp only [V', if_true] at hv
      have h12 := hcells o v hv
      simp only [World.cell?, setRow_heap w b cur _ et _ h7]
      simpa using h12
    · intro q m hq; simp [V', hq]
    · refine ⟨some b, cap, hlocn, fun m hm' => ?_, hroom, h4, h6, _, et, setRow_heap w b cur _ et _ h7, ?_, fun o ho' => ?_⟩
      · have : ¬ (m = n + xs.length) := by omega
        simp [V', this, h2 m (by omega)]
      · simp [List.length_append]; omega
      · have h10 : ¬ o < n * size := by rw [Nat.add_mul] at ho'; omega
        have h11 : ¬ o < (n + xs.length) * size := by omega
        simp [V', f, h10, h11]
    · simp [own, hlocn]
  · have hE' : RepE V' size (olds ++ news ++ []) (es ++ xs) := (hE.mono hle).append (hX.mono hle) (by rw [hn]; exact hol) hnl
    rw [List.append_nil] at hE'
    refine sl_ownRep (by simp [hn]) hroom h4 hE' ?_ ⟨rfl, hlocn⟩
    intro j hj
    have hj' : j < n * size + xs.length * size := by rw [← Nat.add_mul]; exact hj
    by_cases h10 : j < n * size
    · rw [getD_app_l _ _ _ (by omega)]
      have h11 := hoi j _ (List.getElem?_eq_getElem (show j < olds.length by omega))
      simp [V', f, h10, h11, List.getD_eq_getElem?_getD, show j < olds.length by omega]
    · rw [getD_app_r _ _ _ (by omega), hol]
      have h12 : j - n * size < news.length := by omega
      simp [V', f, h10, show j < (n + xs.length) * size from hj, List.getD_eq_getElem?_getD, h12]

/-- A slice grows into a new block: its owner's place is there from now on. -/
theorem own_out (hr : RelW V w s) {r : Nat} {n size : Nat} {s' : AState} (hs' : (∀ V' w', Inv V' (fun q => if q = r then some (.tok n size) else s.obj q) w' → RelW V' w' s'))
    (hloc : ∀ m, n ≤ m → V.loc r m = none) {es : List AV} {cells : Array Value} (hn : es.length = n) (hE : RepE V size cells.toList es) {cap : Nat} (hc : n ≤ cap) (hm : cap ≤ maxLen) (hsz : cells.size = cap * size) (et : TypeId) :
    ∃ V', V.Le V' ∧ RelW V' (w.alloc (.cells cells et)) s' ∧ Rep V' (.slice (some ⟨w.heap.size, 0, none⟩) n cap) (.sl es (.own r)) := by
  let V' : View := { base := V.base, imm := fun b' o => if b' = w.heap.size then (if o < n * size then cells[o]? else none) else V.imm b' o,
                     loc := fun q m => if q = r ∧ m = n then some (some w.heap.size, cap) else V.loc q m }
  have hle : V.Le V' := by
    refine ⟨rfl, fun b' o v hv => ?_, fun q m y hy => ?_⟩
    · have := hr.inv.imm_lt hv
      have : ¬ b' = w.heap.size := by omega
      simp [V', this, hv]
    · by_cases hq : q = r ∧ m = n
      · obtain ⟨rfl, rfl⟩ := hq; rw [hloc m (Nat.le_refl _)] at hy; cases hy
      · simp [V', hq, hy]
  have hlocn : V'.loc r n = some (some w.heap.size, cap) := by simp [V']
  refine ⟨V', hle, hs' _ _ (hr.inv.upd hle r _ (by simp) ?_ ?_ ?_ ?_ ?_), ?_⟩
  · intro b o v hv
    by_cases hb : b = w.heap.size
    · subst hb
      simp only [V', if_true] at hv
      split at hv
      · rw [World.cell?_alloc_new]; exact hv
      · cases hv
    · simp only [V', hb, if_false] at hv
      rw [World.cell?_alloc_old w _ ⟨b, o, none⟩ hb]
      exact hr.inv.imm b o v hv
  · intro r1 x1 hne ho b hb
    have hlt := ((hr.inv.objs r1 x1 ho).own_lt hb).2
    refine ⟨heap_alloc_lt w _ hlt, fun o hn => ?_⟩
    have : ¬ b = w.heap.size := by omega
    simp [V', this, hn]
  · intro r1 m hne; simp [V', hne]
  · refine ⟨some w.heap.size, cap, hlocn, fun m hm' => ?_, hc, hm, hr.inv.base, cells, et, heap_alloc_new w _, hsz, fun o ho => ?_⟩
    · have : ¬ m = n := by omega
      simp [V', this, hloc m (by omega)]
    · have : ¬ o < n * size := by omega
      simp [V', this]
  · intro b hb r1 x1 hne ho hb1
    simp only [own, hlocn, Option.bind_some, Option.some.injEq] at hb
    subst hb
    exact absurd ((hr.inv.objs r1 x1 ho).own_lt hb1).2 (by omega)
  · refine sl_ownRep hn hc hm (hE.mono hle) ?_ ⟨rfl, hlocn⟩
    intro j hj
    have h1 : j < cells.size := by
      have : n * size ≤ cap * size := Nat.mul_le_mul_right _ hc
      omega
    simp [V', hj, List.getD_eq_getElem?_getD, h1]

/-- A mutable row grows in its own block. -/
theorem arr_in (hr : RelW V w s) {r ver size len : Nat} {es xs : List AV} (ho : s.obj r = some (.arr ver size es)) (hlen : len ≤ es.length) {b cap : Nat} (hl : V.loc r ver = some (some b, cap))
    {news : List Value} (hX : RepE V size news xs) (hnl : news.length = xs.length * size) (hroom : len + xs.length ≤ cap) (hbel : r < s.b → AV.belL s.b xs = true) :
    ∃ cur et, w.heap[b]? = some (.cells cur et (0, 0)) ∧ len * size + news.length ≤ cur.size ∧ ∃ V', V.Le V' ∧ V.base ≤ b ∧
      RelW V' (w.setRow b (cur.toList.take (len * size) ++ news ++ cur.toList.drop (len * size + news.length)).toArray) (s.setObj r (.arr (ver + 1) size (es.take len ++ xs))) ∧
      Rep V' (.slice (some ⟨b, 0, none⟩) (len + xs.length) cap) (.ms r (ver + 1) (len + xs.length)) := by
  obtain ⟨blk, cap', h1, h2, h3, h4, _, hszs, h5⟩ := arr_cells hr ho
  rw [hl] at h1
  simp only [Option.some.injEq, Prod.mk.injEq] at h1
  obtain ⟨rfl, rfl⟩ := h1
  obtain ⟨h6, cur, et, h7, h8, h9, h10⟩ := h5 b rfl
  have hfit : len * size + news.length ≤ cur.size := by
    rw [hnl, h8, ← Nat.add_mul]; exact Nat.mul_le_mul_right _ hroom
  refine ⟨cur, et, h7, hfit, ?_⟩
  let V' : View := { V with loc := fun q m => if q = r ∧ m = ver + 1 then some (some b, cap) else V.loc q m }
  have hle : V.Le V' := ⟨rfl, fun _ _ _ h => h, fun q m y hy => by
    by_cases hq : q = r ∧ m = ver + 1
    · obtain ⟨rfl, rfl⟩ := hq; rw [h2 _ (Nat.lt_succ_self _)] at hy; cases hy
    · simp [V', hq, hy]⟩
  have hlocn : V'.loc r (ver + 1) = some (some b, cap) := by simp [V']
  have htl : (es.take len).length = len := by simp; omega
  have hlt : (cur.toList.take (len * size)).length = len * size := by simp; omega
  have hE : RepE V' size (cur.toList.take (len * size) ++ news ++ cur.toList.drop (len * size + news.length)) (es.take len ++ xs) :=
    ((h9.take len).mono hle).append (hX.mono hle) (by rw [htl, hlt]) hnl
  refine ⟨V', hle, h6, ?_, .ms r (ver + 1) (len + xs.length) (some b) cap hlocn hroom h4 (fun h => by cases h)⟩
  refine hr.setObj ho (hr.inv.write r _ (.arr (ver + 1) size (es.take len ++ xs)) ho b (by simp [own, hl]) (by simp [World.setRow]) (fun k hk => setRow_other w b k _ hk) V' hle
    (fun _ _ _ => rfl) (fun o v hv => by rw [h10 o] at hv; cases hv) (fun q m hq => by simp [V', hq]) ?_ (by simp [own, hlocn])) ?_
  · refine ⟨some b, cap, hlocn, fun m hm' => ?_, by simp only [List.length_append, htl]; exact hroom, h4, hE.1, h6, _, et, setRow_heap w b cur _ et _ h7, ?_, fun i j hi hj => ?_, h10⟩
    · have : ¬ m = ver + 1 := by omega
      simp [V', this, h2 m (by omega)]
    · simp [List.length_append]; omega
    · have := hE.2 i j hi hj
      simpa [List.getD_eq_getElem?_getD] using this
  · intro hlt'
    have hb0 : AV.belL s.b es = true := by
      have := hr.bel (.arr ver size es) (by unfold AState.obj at ho; rw [if_pos hlt'] at ho; exact List.mem_of_getElem? ho)
      exact this
    have hb1 := hbel hlt'
    simp only [AObj.bel]
    rw [belL_iff] at *
    intro x hx
    rcases List.mem_append.1 hx with h | h
    · exact hb0 x (List.mem_of_mem_take h)
    · exact hb1 x h

/-- A mutable row grows into a new block. -/
theorem arr_out (hr : RelW V w s) {r ver size : Nat} {es' : List AV} {x : AObj} (ho : s.obj r = some x) {s' : AState} (hs' : (∀ V' w', Inv V' (fun q => if q = r then some (.arr ver size es') else s.obj q) w' → RelW V' w' s'))
    (hloc : ∀ m, ver ≤ m → V.loc r m = none) {cells : Array Value} (hE : RepE V size cells.toList es') {cap : Nat} (hc : es'.length ≤ cap) (hm : cap ≤ maxLen) (hsz : cells.size = cap * size) (et : TypeId) :
    ∃ V', V.Le V' ∧ RelW V' (w.alloc (.cells cells et)) s' ∧ Rep V' (.slice (some ⟨w.heap.size, 0, none⟩) es'.length cap) (.ms r ver es'.length) := by
  let V' : View := { V with loc := fun q m => if q = r ∧ m = ver then some (some w.heap.size, cap) else V.loc q m }
  have hle : V.Le V' := ⟨rfl, fun _ _ _ h => h, fun q m y hy => by
    by_cases hq : q = r ∧ m = ver
    · obtain ⟨rfl, rfl⟩ := hq; rw [hloc _ (Nat.le_refl _)] at hy; cases hy
    · simp [V', hq, hy]⟩
  have hlocn : V'.loc r ver = some (some w.heap.size, cap) := by simp [V']
  refine ⟨V', hle, hs' _ _ (hr.inv.upd hle r _ (by simp) ?_ ?_ ?_ ?_ ?_), .ms r ver es'.length (some w.heap.size) cap hlocn hc hm (fun h => by cases h)⟩
  · intro b o v hv
    have hlt := hr.inv.imm_lt (show V.imm b o = some v from hv)
    rw [World.cell?_alloc_old w _ ⟨b, o, none⟩ (by simp; omega)]
    exact hr.inv.imm b o v hv
  · intro r1 x1 hne ho1 b hb
    exact ⟨heap_alloc_lt w _ ((hr.inv.objs r1 x1 ho1).own_lt hb).2, fun _ h => h⟩
  · intro r1 m hne; simp [V', hne]
  · refine ⟨some w.heap.size, cap, hlocn, fun m hm' => ?_, hc, hm, hE.1, hr.inv.base, cells, et, heap_alloc_new w _, hsz, fun i j hi hj => ?_, fun o => hr.inv.imm_new (Nat.le_refl _) o⟩
    · have : ¬ m = ver := by omega
      simp [V', this, hloc m (by omega)]
    · have := (hE.mono hle).2 i j hi hj
      simpa [List.getD_eq_getElem?_getD] using this
  · intro b hb r1 x1 hne ho1 hb1
    simp only [own, hlocn, Option.bind_some, Option.some.injEq] at hb
    subst hb
    exact absurd ((hr.inv.objs r1 x1 ho1).own_lt hb1).2 (by omega)

end
end Go.Ab

/- The executor's append, on its states: joined. Condition: the executor's table of types is the program's. -/
set_option linter.unusedSimpArgs false
namespace Go.Ab
open Go.RowKit (Below)

section
variable {P : Program} {C : Cfg} {V : View} {w : World} {s : AState}

theorem below_drew_alloc {B : Nat} (w : World) (o : Obj) (h : B ≤ w.heap.size) : Below B w (w.drew.alloc o) := ((Below.refl B w).drew).alloc h o

theorem append_sound (hC : CfgOK P C) (hr : RelW V w s) {inpl : Bool} {t ty : Nat} {a x : AV} {va vx : Value} (ha : Rep V va a) (hx : Rep V vx x) {out : Out}
    (h : effAppend C inpl t s a x = some out) (hc : out.c) :
    ∃ u w' V', (Builtin.append_ #[t, t] ty #[va, vx]).run P w = .ok u w' ∧ V.Le V' ∧ Below V.base w w' ∧ RelW V' w' out.s ∧ out.s.env = s.env ∧ out.s.n = s.n ∧ out.s.b = s.b ∧ Rep V' u out.v := by
  unfold effAppend at h
  split at h
  case h_2 => cases h
  rename_i e sz by_ ze hty
  split at h
  case h_2 => cases h
  rename_i le xs cx hle hxs
  obtain ⟨d, hd1, hd2⟩ := (hC _ _ hty).desc
  simp only [DescOK] at hd2
  subst hd2
  obtain ⟨i, z, hi1, hi2, hi3, hi4, _, _⟩ := (hC _ _ hle).info
  have hz : ∀ n, (Builtin.zeroCells z.cells n).size = n * i.size := fun n => by
    obtain ⟨i', z', g1, g2, g3, g4, g5, g6⟩ := (hC _ _ hle).info
    have hTs := (hC _ _ hle).size
    have hTo := (hC _ _ hle).solid
    rw [hi1] at g1; cases g1
    rw [hi4] at g4; cases g4
    have hrep := ofVal_rep V g5
    rw [g6] at hrep
    have h1 := (hrep.cells hTo).1
    rw [size_zeroCells, h1, hTs, hi2]
  split at h
  · -- a slice that nobody writes
    rename_i es tk
    split at h
    · -- with an owner
      rename_i r
      split at h
      case h_2 => cases h
      rename_i n size ho
      simp only [Option.some.injEq] at h
      subst h
      obtain ⟨hcx, hn, hsz, hmax, hby, hes, hxss⟩ := hc
      subst hsz
      subst hn
      obtain ⟨base, cap, b, o, olds, rfl, hle1, hcm, hb, hol, hoc, hoi, hE, hown, _⟩ := sl_cells hr.inv.imm ha hes
      obtain ⟨blk, hl, hbase⟩ := hown r rfl
      obtain ⟨xbase, ad, xcap, news, rfl, hxb, hnl, hnc, hX⟩ := src_cells hr hx hxs hcx (fun y hy => (hxss y hy).2)
      have hone : ∀ u ∈ news, u.oneCell' = true := hX.oneCells (fun y hy => (hxss y hy).1) hnl
      by_cases hroom : es.length + xs.length ≤ cap
      · cases blk with
        | none =>
          obtain ⟨blk', cap', h1, _, h3, h4, h5⟩ := hr.inv.objs r _ ho
          rw [hl] at h1
          simp only [Option.some.injEq, Prod.mk.injEq] at h1
          obtain ⟨rfl, rfl⟩ := h1
          simp only at h5
          subst h5
          have h0 : es = [] := List.eq_nil_of_length_eq_zero (by omega)
          have h00 : xs = [] := List.eq_nil_of_length_eq_zero (by omega)
          subst h0; subst h00
          subst hbase
          refine ⟨_, w, V, run_append_nil0 w hd1 hi1 hxb (by simpa using hnl) hnc, .refl V, .refl _ _, ?_, setObj_env _ _ _, setObj_n _ _ _, setObj_b _ _ _, ha⟩
          have hsame : s.setObj r (.tok (0 + 0) le.size) = s := by
            unfold AState.setObj
            unfold AState.obj at ho
            split
            · rename_i hlt
              rw [if_pos hlt] at ho
              have h9 : s.H.set r (.tok (0 + 0) le.size) = s.H := by
                apply List.ext_getElem?; intro k
                rw [List.getElem?_set]
                split
                · rename_i hk; subst hk; rw [if_pos (List.getElem?_eq_some_iff.1 ho).1, ho]; rfl
                · rfl
              rw [h9]
            · rename_i hlt
              rw [if_neg hlt] at ho
              have h9 : s.L.set (r - s.b) (.tok (0 + 0) le.size) = s.L := by
                apply List.ext_getElem?; intro k
                rw [List.getElem?_set]
                split
                · rename_i hk; subst hk; rw [if_pos (List.getElem?_eq_some_iff.1 ho).1, ho]; rfl
                · rfl
              rw [h9]
          show RelW V w (s.setObj r (.tok (0 + 0) le.size))
          rw [hsame]; exact hr
        | some b' =>
          subst hbase
          have hoi' : ∀ j v, olds[j]? = some v → V.imm b' j = some v := fun j v hv => by
            have h0 : 0 < es.length := by
              rcases Nat.eq_zero_or_pos es.length with h0 | h0
              · rw [h0] at hol; simp at hol; subst hol; simp at hv
              · exact h0
            have h1 := hb h0
            simp only [baseOf, Option.map_some, Option.some.injEq, Addr.mk.injEq] at h1
            obtain ⟨rfl, rfl, _⟩ := h1
            simpa using hoi j v hv
          obtain ⟨cur, et, hg, hfit, V', hV', hbb, hrel, hrep⟩ := own_in hr ho hl rfl hE hol hoi' hX hnl hroom
          have hrun := run_append_in (P := P) w (ty := ty) hd1 hi1 hg (n := es.length) (cap := cap) hxb (c := xcap) (by rw [hi2]; exact hnl) hnc hone hroom (by rw [hi2]; exact hfit)
          rw [hi2] at hrun
          exact ⟨_, _, V', hrun, hV', below_setRow w b' _ hbb, hrel, setObj_env _ _ _, setObj_n _ _ _, setObj_b _ _ _, hrep⟩
      · obtain ⟨blk', cap', h1, h2, h3, h4, h5⟩ := hr.inv.objs r _ ho
        rw [hl] at h1
        simp only [Option.some.injEq, Prod.mk.injEq] at h1
        obtain ⟨rfl, rfl⟩ := h1
        obtain ⟨nc, hnc1, hnc2, hrun⟩ := run_append_out (P := P) w (ty := ty) hd1 hi1 hi4 (ad0 := ⟨b, o, none⟩) (n := es.length) (cap := cap) hb (by rw [hi2]; exact hol) (fun j v hv => by rw [addr_add]; exact hoc j v hv)
          hxb (c := xcap) (by rw [hi2]; exact hnl) hnc (by omega) (by rw [hi3]; exact hby) hmax
        have hE2 := hE.append (c3 := (Builtin.zeroCells z.cells (nc - (es.length + xs.length))).toList) hX hol hnl
        obtain ⟨V', hV', hrel, hrep⟩ := own_out hr.drew (r := r) (n := es.length + xs.length) (size := le.size) (s' := s.setObj r (.tok (es.length + xs.length) le.size))
          (fun V' w' hI => RelW.setObj hr.drew ho hI (fun _ => rfl)) (fun m hm => h2 m (by omega)) (es := es ++ xs)
          (cells := (olds ++ news ++ (Builtin.zeroCells z.cells (nc - (es.length + xs.length))).toList).toArray) (by simp) hE2 hnc1 hnc2
          (by simp only [List.size_toArray, List.length_append, Array.length_toList, hz, hol, hnl, hi2, ← Nat.add_mul]; congr 1; omega) e
        exact ⟨_, _, V', hrun, hV', below_drew_alloc w _ hr.inv.base, hrel, setObj_env _ _ _, setObj_n _ _ _, setObj_b _ _ _, hrep⟩
    · -- full
      split at h
      · simp only [Option.some.injEq] at h
        subst h
        have hcx := hc
        obtain ⟨xbase, ad, xcap, news, rfl, hxb, hnl, hnc, hX⟩ := src_cells (size := 0) hr hx hxs hcx (fun y hy => by simp at hy)
        cases ha with
        | sl bse len cap _ _ size b o val hl hcap hm hb hs hi hrr ht hf =>
          refine ⟨.slice bse len cap, w, V, ?_, .refl V, .refl _ _, hr, rfl, rfl, rfl, .sl bse len cap es .full size b o val hl hcap hm hb hs hi hrr ht hf⟩
          have hf0 : (Builtin.firstCells i.size 0 (.slice xbase 0 xcap)).run P w = .ok #[] w := by
            have := run_firstCells (P := P) w i.size 0 xcap xbase ad [] (fun h => absurd h (by omega)) (by simp) (fun j v hv => by simp at hv)
            simpa using this
          cases bse with
          | none => simp [Builtin.append_, Go.run_underlying hd1, sizeOf, typeInfo, hi1, Builtin.lenOf, hf0, hcap]
          | some a0 => simp [Builtin.append_, Go.run_underlying hd1, sizeOf, typeInfo, hi1, Builtin.lenOf, hf0, hcap, storeCells]
      · rename_i x0 xs0
        split at h
        · -- a mutable row
          simp only [Option.some.injEq] at h
          subst h
          obtain ⟨hcx, hmax, hby, hes, hxss⟩ := hc
          obtain ⟨base, cap, b, o, olds, rfl, hle1, hcm, hb, hol, hoc, hoi, hE, _, hfull⟩ := sl_cells hr.inv.imm ha hes
          obtain ⟨xbase, ad, xcap, news, rfl, hxb, hnl, hnc, hX⟩ := src_cells hr hx hxs hcx (fun y hy => (hxss y hy).2)
          have hcapn := hfull rfl
          have hpos : 0 < (x0 :: xs0).length := by simp
          obtain ⟨nc, hnc1, hnc2, hrun⟩ := run_append_out (P := P) w (ty := ty) hd1 hi1 hi4 (ad0 := ⟨b, o, none⟩) (n := es.length) (cap := cap) hb (by rw [hi2]; exact hol) (fun j v hv => by rw [addr_add]; exact hoc j v hv)
            hxb (c := xcap) (by rw [hi2]; exact hnl) hnc (by omega) (by rw [hi3]; exact hby) hmax
          have hE2 := hE.append (c3 := (Builtin.zeroCells z.cells (nc - (es.length + (x0 :: xs0).length))).toList) hX hol hnl
          obtain ⟨V', hV', hlocn, hrel⟩ := new_arr hr.drew (cells := (olds ++ news ++ (Builtin.zeroCells z.cells (nc - (es.length + (x0 :: xs0).length))).toList).toArray) (cap := nc) hE2 (by simp only [List.length_append]; exact hnc1) hnc2
            (by simp only [List.size_toArray, List.length_append, Array.length_toList, hz, hol, hnl, hi2, ← Nat.add_mul]; congr 1; omega) e
          exact ⟨_, _, V', hrun, hV', below_drew_alloc w _ hr.inv.base, hrel, rfl, rfl, rfl, .ms _ _ _ (some w.heap.size) nc hlocn hnc1 hnc2 (fun h => by cases h)⟩
        · simp only [Option.some.injEq] at h
          subst h
          obtain ⟨hcx, hmax, hby, hes, hxss⟩ := hc
          obtain ⟨base, cap, b, o, olds, rfl, hle1, hcm, hb, hol, hoc, hoi, hE, _, hfull⟩ := sl_cells hr.inv.imm ha hes
          obtain ⟨xbase, ad, xcap, news, rfl, hxb, hnl, hnc, hX⟩ := src_cells hr hx hxs hcx (fun y hy => (hxss y hy).2)
          have hcapn := hfull rfl
          have hpos : 0 < (x0 :: xs0).length := by simp
          obtain ⟨nc, hnc1, hnc2, hrun⟩ := run_append_out (P := P) w (ty := ty) hd1 hi1 hi4 (ad0 := ⟨b, o, none⟩) (n := es.length) (cap := cap) hb (by rw [hi2]; exact hol) (fun j v hv => by rw [addr_add]; exact hoc j v hv)
            hxb (c := xcap) (by rw [hi2]; exact hnl) hnc (by omega) (by rw [hi3]; exact hby) hmax
          have hE2 := hE.append (c3 := (Builtin.zeroCells z.cells (nc - (es.length + (x0 :: xs0).length))).toList) hX hol hnl
          have hnone : ∀ m, V.loc (s.b + s.L.length) m = none := fun m => by
            cases hm : V.loc (s.b + s.L.length) m with
            | none => rfl
            | some y => have := hr.inv.dom _ m y hm; rw [obj_next] at this; simp at this
          obtain ⟨V', hV', hrel, hrep⟩ := own_out hr.drew (r := s.b + s.L.length) (n := es.length + (x0 :: xs0).length) (size := le.size) (s' := s.new (.tok (es.length + (x0 :: xs0).length) le.size))
            (fun V' w' hI => RelW.new hr.drew _ hI) (fun m _ => hnone m) (es := es ++ x0 :: xs0)
            (cells := (olds ++ news ++ (Builtin.zeroCells z.cells (nc - (es.length + (x0 :: xs0).length))).toList).toArray) (by simp) hE2 hnc1 hnc2
            (by simp only [List.size_toArray, List.length_append, Array.length_toList, hz, hol, hnl, hi2, ← Nat.add_mul]; congr 1; omega) e
          exact ⟨_, _, V', hrun, hV', below_drew_alloc w _ hr.inv.base, hrel, rfl, rfl, rfl, hrep⟩
    · cases h
  · -- a mutable row
    rename_i r ver len
    split at h
    case h_2 => cases h
    rename_i v' size es ho
    simp only [Option.some.injEq] at h
    subst h
    obtain ⟨hcx, rfl, hlen, rfl, hmax, hby, hxss, hbel⟩ := hc
    obtain ⟨xbase, ad, xcap, news, rfl, hxb, hnl, hnc, hX⟩ := src_cells hr hx hxs hcx (fun y hy => (hxss y hy).2)
    have hone : ∀ u ∈ news, u.oneCell' = true := hX.oneCells (fun y hy => (hxss y hy).1) hnl
    cases ha with
    | ms _ _ _ blk cap hl hcap hm _ =>
      obtain ⟨blk', cap', h1, h2, h3, h4, h5, h6, h7⟩ := arr_cells hr ho
      rw [hl] at h1
      simp only [Option.some.injEq, Prod.mk.injEq] at h1
      obtain ⟨rfl, rfl⟩ := h1
      have htl : (es.take len).length = len := by simp; omega
      by_cases hroom : len + xs.length ≤ cap
      · cases blk with
        | none =>
          have h8 := h5 rfl
          subst h8
          have h0 : len = 0 := by omega
          subst h0
          have h00 : xs = [] := List.eq_nil_of_length_eq_zero (by omega)
          subst h00
          have h9 : es = [] := List.eq_nil_of_length_eq_zero (by omega)
          subst h9
          let V' : View := { V with loc := fun q m => if q = r ∧ m = v' + 1 then some (none, 0) else V.loc q m }
          have hle : V.Le V' := ⟨rfl, fun _ _ _ h => h, fun q m y hy => by
            by_cases hq : q = r ∧ m = v' + 1
            · obtain ⟨rfl, rfl⟩ := hq; rw [h2 _ (Nat.lt_succ_self _)] at hy; cases hy
            · simp [V', hq, hy]⟩
          have hlocn : V'.loc r (v' + 1) = some (none, 0) := by simp [V']
          refine ⟨_, w, V', run_append_nil0 w hd1 hi1 hxb (by simpa using hnl) hnc, hle, .refl _ _, ?_, setObj_env _ _ _, setObj_n _ _ _, setObj_b _ _ _, .ms r (v' + 1) 0 none 0 hlocn (Nat.le_refl _) (Nat.zero_le _) (fun _ => rfl)⟩
          refine hr.setObj ho (hr.inv.upd hle r _ (Nat.le_refl _) hr.inv.imm (fun _ _ _ _ _ _ => ⟨rfl, fun _ h => h⟩) (fun q m hq => by simp [V', hq]) ?_ (fun b hb => by simp [own, hlocn] at hb)) (fun _ => by simp [AObj.bel, AV.belL])
          refine ⟨none, 0, hlocn, fun m hm' => ?_, by simp, Nat.zero_le _, fun i hi => absurd hi (by simp), rfl⟩
          have : ¬ m = v' + 1 := by omega
          simp [V', this, h2 m (by omega)]
        | some b =>
          obtain ⟨cur, et, hg, hfit, V', hV', hbb, hrel, hrep⟩ := arr_in hr ho hlen hl hX hnl hroom hbel
          have hrun := run_append_in (P := P) w (ty := ty) hd1 hi1 hg (n := len) (cap := cap) hxb (c := xcap) (by rw [hi2]; exact hnl) hnc hone hroom (by rw [hi2]; exact hfit)
          rw [hi2] at hrun
          exact ⟨_, _, V', hrun, hV', below_setRow w b _ hbb, hrel, setObj_env _ _ _, setObj_n _ _ _, setObj_b _ _ _, hrep⟩
      · -- the old elements, as cells
        obtain ⟨olds, hol, hoc, hE⟩ : ∃ olds : List Value, olds.length = len * le.size ∧ (0 < len → ∃ b, blk = some b ∧ ∀ j v, olds[j]? = some v → w.cell? ⟨b, j, none⟩ = some v) ∧ RepE V le.size olds (es.take len) := by
          cases blk with
          | none =>
            have h8 := h5 rfl
            have h0 : len = 0 := by omega
            subst h0
            exact ⟨[], by simp, fun h => absurd h (by omega), ⟨fun i hi => absurd hi (by simp), fun i j hi => absurd hi (by simp)⟩⟩
          | some b =>
            obtain ⟨h8, cells, et, h9, h10, h11, _⟩ := h7 b rfl
            have hle2 : len * le.size ≤ cap * le.size := Nat.mul_le_mul_right _ hcap
            refine ⟨cells.toList.take (len * le.size), by simp; omega, fun _ => ⟨b, rfl, fun j v hv => ?_⟩, h11.take len⟩
            rw [List.getElem?_take] at hv
            split at hv
            · simp only [World.cell?, h9]; simpa using hv
            · cases hv
        obtain ⟨nc, hnc1, hnc2, hrun⟩ := run_append_out (P := P) w (ty := ty) hd1 hi1 hi4 (base0 := baseOf blk) (ad0 := ⟨blk.getD 0, 0, none⟩) (n := len) (cap := cap)
          (fun h0 => by obtain ⟨b, hb, _⟩ := hoc h0; subst hb; rfl) (by rw [hi2]; exact hol) (fun j v hv => by
            have h0 : 0 < len := by
              rcases Nat.eq_zero_or_pos len with h0 | h0
              · rw [h0] at hol; simp at hol; subst hol; simp at hv
              · exact h0
            obtain ⟨b, hb, hbc⟩ := hoc h0
            subst hb
            rw [addr_add]; simpa using hbc j v hv)
          hxb (c := xcap) (by rw [hi2]; exact hnl) hnc (by omega) (by rw [hi3]; exact hby) hmax
        have hE2 := hE.append (c3 := (Builtin.zeroCells z.cells (nc - (len + xs.length))).toList) hX (by rw [htl]; exact hol) hnl
        have hlen2 : (es.take len ++ xs).length = len + xs.length := by rw [List.length_append, htl]
        obtain ⟨V', hV', hrel, hrep⟩ := arr_out hr.drew (r := r) (ver := v' + 1) (size := le.size) (es' := es.take len ++ xs) ho (s' := s.setObj r (.arr (v' + 1) le.size (es.take len ++ xs)))
          (fun V' w' hI => RelW.setObj hr.drew ho hI (fun hlt => by
            have hb0 : AV.belL s.b es = true := by
              have := hr.bel (.arr v' le.size es) (by unfold AState.obj at ho; rw [if_pos hlt] at ho; exact List.mem_of_getElem? ho)
              exact this
            have hb1 := hbel hlt
            simp only [AObj.bel]
            rw [belL_iff] at *
            intro x hx
            rcases List.mem_append.1 hx with h | h
            · exact hb0 x (List.mem_of_mem_take h)
            · exact hb1 x h)) (fun m hm' => h2 m (by omega))
          (cells := (olds ++ news ++ (Builtin.zeroCells z.cells (nc - (len + xs.length))).toList).toArray) hE2 (by rw [hlen2]; exact hnc1) hnc2
          (by simp only [List.size_toArray, List.length_append, Array.length_toList, hz, hol, hnl, hi2, ← Nat.add_mul]; congr 1; omega) e
        rw [hlen2] at hrep
        exact ⟨_, _, V', hrun, hV', below_drew_alloc w _ hr.inv.base, hrel, setObj_env _ _ _, setObj_n _ _ _, setObj_b _ _ _, hrep⟩
  · cases h

end
end Go.Ab

/- The executor's operations run as the model's do: one theorem an operation. Condition: the executor's table of types is the program's. -/
set_option linter.unusedSimpArgs false
namespace Go.Ab
open Go.RowKit (Below)

/- Filling a row. -/

theorem foldSet_get (l : List Value) : ∀ (k off : Nat) (cells : Array Value), off + k + l.length ≤ cells.size →
    ((l.zipIdx k).foldl (fun cs (x : Value × Nat) => cs.setIfInBounds (off + x.2) x.1) cells).size = cells.size ∧
    ∀ q, ((l.zipIdx k).foldl (fun cs (x : Value × Nat) => cs.setIfInBounds (off + x.2) x.1) cells)[q]? = if off + k ≤ q ∧ q < off + k + l.length then l[q - (off + k)]? else cells[q]? := by
  induction l with
  | nil => intro k off cells _; exact ⟨rfl, fun q => by rw [if_neg (by simp only [List.length_nil]; omega)]; rfl⟩
  | cons v l ih =>
    intro k off cells h
    simp only [List.length_cons] at h
    obtain ⟨h1, h2⟩ := ih (k + 1) off (cells.setIfInBounds (off + k) v) (by simp; omega)
    refine ⟨by simp only [List.zipIdx_cons, List.foldl_cons]; rw [h1]; simp, fun q => ?_⟩
    simp only [List.zipIdx_cons, List.foldl_cons]
    rw [h2 q]
    simp only [List.length_cons]
    by_cases e1 : q = off + k
    · subst e1
      rw [if_neg (by omega), if_pos (by omega), Array.getElem?_setIfInBounds_self, if_pos (by omega)]
      simp
    · by_cases e2 : off + (k + 1) ≤ q ∧ q < off + (k + 1) + l.length
      · rw [if_pos e2, if_pos (by omega), show q - (off + k) = (q - (off + (k + 1))) + 1 by omega]
        simp
      · rw [if_neg e2, if_neg (by omega), Array.getElem?_setIfInBounds_ne (Ne.symm e1)]

theorem zipIdx_foldl (v : Value) (off : Nat) (cells : Array Value) :
    v.cells.zipIdx.foldl (fun cs (x : Value × Nat) => cs.setIfInBounds (off + x.2) x.1) cells = (v.cells.toList.zipIdx 0).foldl (fun cs (x : Value × Nat) => cs.setIfInBounds (off + x.2) x.1) cells := by
  rw [← Array.foldl_toList]
  congr 1
  simp

section
variable {P : Program} {C : Cfg} {V : View} {w : World} {s : AState} {a : Act} {o : Oper}

theorem fill_sound {place : Nat → Option (Nat × Nat)} : ∀ (ps : List (Nat × AV)) (vs : List (Nat × Value)) (cells : Array Value) (as : List AV) {c : Prop} {out : List AV},
    vs.length = ps.length → (∀ (k : Nat) p v, ps[k]? = some p → vs[k]? = some v → v.1 = p.1 ∧ Rep V v.2 p.2) → RepL V cells.toList as → fillA place ps as = some (c, out) → c →
    ∃ r, Instr.fill place cells vs = some r ∧ RepL V r.toList out
  | [], vs, cells, as, c, out, hl, _, hr, h, _ => by
    have : vs = [] := List.eq_nil_of_length_eq_zero (by simpa using hl)
    subst this
    simp only [fillA, Option.some.injEq, Prod.mk.injEq] at h
    obtain ⟨_, rfl⟩ := h
    exact ⟨cells, rfl, hr⟩
  | (i, x) :: ps, vs, cells, as, c, out, hl, hp, hr, h, hc => by
    cases vs with
    | nil => simp at hl
    | cons v vs =>
      obtain ⟨i', v⟩ := v
      obtain ⟨hi, hv⟩ := hp 0 _ _ rfl rfl
      simp only at hi hv
      subst hi
      simp only [fillA] at h
      cases hpl : place i' with
      | none => rw [hpl] at h; simp at h
      | some z =>
        obtain ⟨off, size⟩ := z
        simp only [hpl] at h
        cases hrest : fillA place ps (setRange as off (cellsOf x)) with
        | none => rw [hrest] at h; simp at h
        | some y =>
          obtain ⟨c', out'⟩ := y
          simp only [hrest, Option.some.injEq, Prod.mk.injEq] at h
          obtain ⟨hce, rfl⟩ := h
          rw [← hce] at hc
          obtain ⟨⟨h1, h2, h3⟩, h4⟩ := hc
          have hvc := hv.cellsL h1
          have hlen : cells.size = as.length := by simpa using hr.1
          have hvl : v.cells.size = size := by rw [← h2, ← hvc.1]; simp
          obtain ⟨g1, g2⟩ := foldSet_get v.cells.toList 0 off cells (by simp; omega)
          have hnew : RepL V ((v.cells.toList.zipIdx 0).foldl (fun cs (x : Value × Nat) => cs.setIfInBounds (off + x.2) x.1) cells).toList (setRange as off (cellsOf x)) := by
            refine RepL.of_get (by rw [setRange_length]; simp only [Array.length_toList]; rw [g1]; exact hlen) fun k u b hu hb => ?_
            rw [Array.getElem?_toList, g2 k] at hu
            rw [setRange_get _ _ _ _ (by omega)] at hb
            simp only [Nat.add_zero, Array.length_toList] at hu
            by_cases e1 : off ≤ k ∧ k < off + v.cells.size
            · rw [if_pos e1] at hu
              rw [if_neg (by omega), if_pos (by omega)] at hb
              exact hvc.get hu hb
            · rw [if_neg e1] at hu
              have hb' : as[k]? = some b := by
                by_cases e2 : k < off
                · rw [if_pos e2] at hb; exact hb
                · rw [if_neg e2, if_neg (by omega)] at hb; exact hb
              exact hr.get (by rw [Array.getElem?_toList]; exact hu) hb'
          obtain ⟨r, hr1, hr2⟩ := fill_sound ps vs _ _ (by simpa using hl) (fun k p v hp1 hv1 => hp (k + 1) p v (by simpa using hp1) (by simpa using hv1)) hnew hrest h4
          refine ⟨r, ?_, hr2⟩
          simp only [Instr.fill, hpl]
          rw [if_neg (by simp; omega)]
          rw [zipIdx_foldl]
          exact hr1

theorem fillE_length {size : Nat} : ∀ (ps : List (Nat × AV)) (es : List AV), (fillE size ps es).2.length = es.length
  | [], es => rfl
  | (i, v) :: ps, es => by simp only [fillE]; rw [fillE_length ps]; simp

theorem fillE_sound {size : Nat} : ∀ (ps : List (Nat × AV)) (vs : List (Nat × Value)) (cells : Array Value) (es : List AV),
    vs.length = ps.length → (∀ (k : Nat) p v, ps[k]? = some p → vs[k]? = some v → v.1 = p.1 ∧ Rep V v.2 p.2) → RepE V size cells.toList es → cells.size = es.length * size → (fillE size ps es).1 →
    ∃ r, Instr.fill (fun i => some (i * size, size)) cells vs = some r ∧ RepE V size r.toList (fillE size ps es).2 ∧ r.size = cells.size
  | [], vs, cells, es, hl, _, hr, _, _ => by
    have : vs = [] := List.eq_nil_of_length_eq_zero (by simpa using hl)
    subst this
    exact ⟨cells, rfl, hr, rfl⟩
  | (i, x) :: ps, vs, cells, es, hl, hp, hr, hsz, hc => by
    cases vs with
    | nil => simp at hl
    | cons v vs =>
      obtain ⟨i', v⟩ := v
      obtain ⟨hi, hv⟩ := hp 0 _ _ rfl rfl
      simp only at hi hv
      subst hi
      simp only [fillE] at hc ⊢
      obtain ⟨⟨h1, h2, h3⟩, h4⟩ := hc
      have hvc := hv.cellsL h1
      have hvl : v.cells.size = size := by rw [← h2, ← hvc.1]; simp
      have hfit : i' * size + size ≤ cells.size := by
        rw [hsz]
        have : (i' + 1) * size ≤ es.length * size := Nat.mul_le_mul_right _ h3
        rwa [Nat.succ_mul] at this
      obtain ⟨g1, g2⟩ := foldSet_get v.cells.toList 0 (i' * size) cells (by simp; omega)
      have hnew : RepE V size ((v.cells.toList.zipIdx 0).foldl (fun cs (x : Value × Nat) => cs.setIfInBounds (i' * size + x.2) x.1) cells).toList (es.set i' x) := by
        refine ⟨fun q hq => ?_, fun q j hq hj => ?_⟩
        · simp only [List.length_set] at hq
          by_cases e : q = i'
          · subst e; simp [List.getD_eq_getElem?_getD, hq, h2]
          · have := hr.1 q hq
            simpa [List.getD_eq_getElem?_getD, List.getElem?_set, Ne.symm e] using this
        · simp only [List.length_set] at hq
          have hg := g2 (q * size + j)
          simp only [Nat.add_zero, Array.length_toList] at hg
          rw [List.getD_eq_getElem?_getD, Array.getElem?_toList, hg]
          by_cases e : q = i'
          · subst e
            rw [if_pos (by omega), show q * size + j - q * size = j by omega]
            have := hvc.2 j (by omega)
            simpa [List.getD_eq_getElem?_getD, hq] using this
          · have hne : ¬ (i' * size ≤ q * size + j ∧ q * size + j < i' * size + v.cells.size) := by
              rw [hvl]
              rcases Nat.lt_or_gt_of_ne e with hlt | hgt
              · have : (q + 1) * size ≤ i' * size := Nat.mul_le_mul_right _ hlt
                rw [Nat.succ_mul] at this; omega
              · have : (i' + 1) * size ≤ q * size := Nat.mul_le_mul_right _ hgt
                rw [Nat.succ_mul] at this; omega
            rw [if_neg hne]
            have := hr.2 q j hq hj
            simpa [List.getD_eq_getElem?_getD, List.getElem?_set, Ne.symm e] using this
      obtain ⟨r, hr1, hr2, hr3⟩ := fillE_sound ps vs _ _ (by simpa using hl) (fun k p v hp1 hv1 => hp (k + 1) p v (by simpa using hp1) (by simpa using hv1)) hnew (by rw [g1, hsz]; simp) h4
      refine ⟨r, ?_, hr2, by rw [hr3, g1]⟩
      simp only [Instr.fill]
      rw [if_neg (by simp; omega)]
      rw [zipIdx_foldl]
      exact hr1

theorem parts_rep (hr : Rel V a w s) {parts : Array (Nat × Operand)} (ho : ∀ p ∈ parts.toList, opndOK p.2 = true) :
    (parts.map fun (i, x) => (i, a.eval x)).toList.length = (parts.toList.map fun p => (p.1, s.ev p.2)).length ∧
    ∀ (k : Nat) p v, (parts.toList.map fun p => (p.1, s.ev p.2))[k]? = some p → (parts.map fun (i, x) => (i, a.eval x)).toList[k]? = some v → v.1 = p.1 ∧ Rep V v.2 p.2 := by
  refine ⟨by simp, fun k p v hp hv => ?_⟩
  simp only [List.getElem?_map, Array.toList_map, Option.map_eq_some_iff] at hp hv
  obtain ⟨q, hq, rfl⟩ := hp
  obtain ⟨q', hq', rfl⟩ := hv
  rw [hq] at hq'
  cases hq'
  exact ⟨rfl, ev_rep hr _ (ho q (List.mem_of_getElem? hq))⟩

end
end Go.Ab

