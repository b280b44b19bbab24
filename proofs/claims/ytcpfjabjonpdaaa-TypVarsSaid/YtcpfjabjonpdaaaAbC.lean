/- The executor's operations run as the model's do: arrays, literals, slices, maps. Condition: the executor's table of types is the program's. -/
import Derived.Test.YtcpfjabjonpdaaaAbB
set_option linter.unusedSimpArgs false
namespace Go.Ab
open Go.RowKit (Below)

section
variable {P : Program} {C : Cfg} {V : View} {w : World} {s : AState} {a : Act} {o : Oper}

theorem snd_indexAddr_arr (hC : CfgOK P C) (hr : Rel V a w s) {t e m : Nat} {x i : Operand} {l le : TL} {k : IntKind} {n : Int} {v : AV} (hx : opndOK x = true) (hi : opndOK i = true) (hT : C.ty t = some l) (hd : l.d = .arr m e) (hle : C.ty e = some le)
    (hev2 : s.ev i = .int k n) (hs : shift (n.toNat * le.size) (s.ev x) = some v) {cnd : Prop} (hc : 0 ≤ n ∧ n < m) (hop : o.op = .indexAddr t x i) : OpSound P V a w s o ⟨cnd, v, s⟩ := by
  obtain ⟨h1, h2⟩ := hc
  obtain ⟨d, hrd, hdd⟩ := (hC _ _ hT).run_underlying w
  rw [hd] at hdd; simp only [DescOK] at hdd; subst hdd
  have hsz := (hC _ _ hle).run_sizeOf w
  have hri := ev_rep hr i hi
  rw [hev2] at hri
  generalize hv2 : a.eval i = u2 at hri
  cases hri
  obtain ⟨b, q, hv, hrep⟩ := (ev_rep hr x hx).shift hs
  refine .val hr (u := .pointer (some ⟨b, q + n.toNat * le.size, none⟩)) ?_ hrep
  have hcond : 0 ≤ n ∧ n < (m : Int) := by omega
  simp only [execOp, hop, hv, hv2, Instr.indexAt, asIntOf, Sem.run_bind, Sem.run_pure, Result.andThen_ok, hrd, Instr.sureAddr]
  simp [hcond, hsz, addr_add]

theorem snd_index_arr (hC : CfgOK P C) (hr : Rel V a w s) {t e m : Nat} {x i : Operand} {l le : TL} {k : IntKind} {n : Int} {cs : List AV} (hx : opndOK x = true) (hi : opndOK i = true) (hT : C.ty t = some l) (hd : l.d = .arr m e) (hle : C.ty e = some le)
    (hev : s.ev x = .agg cs) (hev2 : s.ev i = .int k n) {cnd : Prop} (hc : 0 ≤ n ∧ n < m ∧ (partA le cs (n.toNat * le.size)).1) (hop : o.op = .index t x i) : OpSound P V a w s o ⟨cnd, (partA le cs (n.toNat * le.size)).2, s⟩ := by
  obtain ⟨h1, h2, h3⟩ := hc
  obtain ⟨d, hrd, hdd⟩ := (hC _ _ hT).run_underlying w
  rw [hd] at hdd; simp only [DescOK] at hdd; subst hdd
  have hsz := (hC _ _ hle).run_sizeOf w
  have hri := ev_rep hr i hi
  rw [hev2] at hri
  generalize hv2 : a.eval i = u2 at hri
  cases hri
  have hrx := ev_rep hr x hx
  rw [hev] at hrx
  obtain ⟨cells, hv, hcs⟩ := RepL.of_agg hrx
  obtain ⟨u, hu, hrep⟩ := run_part (P := P) (w := w) (hC _ _ hle) hcs h3
  refine .val hr (u := u) ?_ hrep
  have hcond : 0 ≤ n ∧ n < (m : Int) := by omega
  simp only [execOp, hop, hv, hv2, Instr.index, asIntOf, Sem.run_bind, Sem.run_pure, Result.andThen_ok, hrd]
  simp [hcond, hsz, hu]

theorem mapM_places (hC : CfgOK P C) : ∀ (fs : List Field) (w : World), (∀ p ∈ fs, (C.ty p.type).isSome = true) →
    ∃ ps : List (Nat × Nat), (List.mapM (fun f : Field => (do pure (f.offset, ← sizeOf f.type) : Sem (Nat × Nat))) fs).run P w = .ok ps w ∧
      ps = fs.map fun f => (f.offset, ((C.ty f.type).map (·.size)).getD 0) := by
  intro fs
  induction fs with
  | nil => intro w _; exact ⟨[], rfl, rfl⟩
  | cons f fs ih =>
    intro w h
    obtain ⟨ps, h1, h2⟩ := ih w (fun p hp => h p (by simp [hp]))
    have h3 := h f (by simp)
    cases hf : C.ty f.type with
    | none => rw [hf] at h3; simp at h3
    | some lf =>
      have hsz := (hC _ _ hf).run_sizeOf w
      refine ⟨(f.offset, lf.size) :: ps, ?_, by simp [h2, hf]⟩
      rw [List.mapM_cons]
      simp only [Sem.run_bind, hsz, Result.andThen_ok, Sem.run_pure, h1]

theorem snd_build_st (hC : CfgOK P C) (hr : Rel V a w s) {t : Nat} {l : TL} {fs : List (Nat × Nat)} {parts : Array (Nat × Operand)} {c : Prop} {cs : List AV} (ho : ∀ p ∈ parts.toList, opndOK p.2 = true) (hT : C.ty t = some l) (hd : l.d = .st fs)
    (hf : fillA (placeSt C fs) (parts.toList.map fun p => (p.1, s.ev p.2)) (cellsOf l.zero) = some (c, cs)) {cnd : Prop} (hc : c ∧ (∀ p ∈ fs, (C.ty p.2).isSome = true)) (hop : o.op = .build t parts) : OpSound P V a w s o ⟨cnd, .agg cs, s⟩ := by
  obtain ⟨hc, hall⟩ := hc
  have hTy := hC _ _ hT
  obtain ⟨d, hrd, hdd⟩ := hTy.run_underlying w
  rw [hd] at hdd
  obtain ⟨fa, rfl, rfl⟩ := hdd
  obtain ⟨z, hz, hzr⟩ := hTy.run_zero w
  obtain ⟨ps, hps, hpe⟩ := mapM_places hC fa.toList w (fun p hp => hall (p.offset, p.type) (List.mem_map.2 ⟨p, hp, rfl⟩))
  obtain ⟨hp1, hp2⟩ := parts_rep (s := s) hr ho
  obtain ⟨r, hr1, hr2⟩ := fill_sound _ _ z.cells (cellsOf l.zero) hp1 hp2 ((hzr V).cellsL hTy.solid) hf hc
  refine .val hr (u := .agg r) ?_ (RepL.agg hr2)
  have hpl : (fun i => ps.toArray[i]?) = placeSt C (fa.toList.map fun x => (x.offset, x.type)) := by
    funext i
    rw [hpe]
    simp only [placeSt, List.getElem?_toArray, List.getElem?_map]
    cases hfi : fa.toList[i]? with
    | none => simp
    | some f =>
      have h3 := hall (f.offset, f.type) (List.mem_map.2 ⟨f, List.mem_of_getElem? hfi, rfl⟩)
      cases hf : C.ty f.type with
      | none => rw [hf] at h3; simp at h3
      | some lf => simp [hf]
  have hm : (Array.mapM (fun f : Field => (do pure (f.offset, ← sizeOf f.type) : Sem (Nat × Nat))) fa).run P w = .ok ps.toArray w := by
    rw [Array.mapM_eq_mapM_toList]
    simp only [Sem.run_map, hps, Result.andThen_ok]
  simp only [execOp, hop, Instr.build, Sem.run_bind, hz, Result.andThen_ok, hrd, hm, hpl, hr1, Sem.run_pure]

theorem snd_build_arr (hC : CfgOK P C) (hr : Rel V a w s) {t m e : Nat} {l le : TL} {parts : Array (Nat × Operand)} {c : Prop} {cs : List AV} (ho : ∀ p ∈ parts.toList, opndOK p.2 = true) (hT : C.ty t = some l) (hd : l.d = .arr m e) (hle : C.ty e = some le)
    (hf : fillA (fun i => some (i * le.size, le.size)) (parts.toList.map fun p => (p.1, s.ev p.2)) (cellsOf l.zero) = some (c, cs)) (hc : c) (hop : o.op = .build t parts) : OpSound P V a w s o ⟨c, .agg cs, s⟩ := by
  have hTy := hC _ _ hT
  obtain ⟨d, hrd, hdd⟩ := hTy.run_underlying w
  rw [hd] at hdd; simp only [DescOK] at hdd; subst hdd
  obtain ⟨z, hz, hzr⟩ := hTy.run_zero w
  obtain ⟨hp1, hp2⟩ := parts_rep (s := s) hr ho
  obtain ⟨r, hr1, hr2⟩ := fill_sound _ _ z.cells (cellsOf l.zero) hp1 hp2 ((hzr V).cellsL hTy.solid) hf hc
  have hsz := (hC _ _ hle).run_sizeOf w
  refine .val hr (u := .agg r) ?_ (RepL.agg hr2)
  simp only [execOp, hop, Instr.build, Sem.run_bind, hz, Result.andThen_ok, hrd, hsz, hr1, Sem.run_pure]

theorem zeros_rep {V : View} {z : Value} {l : TL} (hz : Rep V z l.zero) (hs : l.zero.solid = true) (hl : (cellsOf l.zero).length = l.size) (n : Nat) :
    RepE V l.size ((Array.range (n * l.size)).map (fun i => z.cells[i % z.cells.size]!)).toList (List.replicate n l.zero) := by
  have hc := hz.cellsL hs
  have hzs : z.cells.size = l.size := by rw [← hl, ← hc.1]; simp
  refine ⟨fun i hi => ?_, fun i j hi hj => ?_⟩
  · simp at hi; simp [List.getD_eq_getElem?_getD, hi, hl]
  · simp at hi
    have hlt : i * l.size + j < n * l.size := by
      have : (i + 1) * l.size ≤ n * l.size := Nat.mul_le_mul_right _ hi
      rw [Nat.succ_mul] at this; omega
    have hmod : (i * l.size + j) % l.size = j := by rw [Nat.add_comm, Nat.add_mul_mod_self_right]; exact Nat.mod_eq_of_lt hj
    have h1 := hc.2 j (by omega)
    have hjz : j < z.cells.size := by omega
    rw [show (List.replicate n l.zero).getD i .any = l.zero by simp [List.getD_eq_getElem?_getD, hi]]
    have : ((Array.range (n * l.size)).map (fun i => z.cells[i % z.cells.size]!)).toList.getD (i * l.size + j) undef = z.cells.toList.getD j undef := by
      simp [List.getD_eq_getElem?_getD, hlt, hzs, hmod]
      rw [getElem!_pos z.cells j hjz, Array.getElem?_eq_getElem hjz]; rfl
    rw [this]
    exact h1

theorem zeroCells_run (hC : CfgOK P C) {e : Nat} {le : TL} (hle : C.ty e = some le) (n : Nat) (w : World) : ∃ zc : Array Value,
    (n * le.size = 0 → zc = #[]) ∧ (¬ n * le.size = 0 → ∃ z, (zeroValue e).run P w = .ok z w ∧ zc = z.cells) ∧
    ∀ V, RepE V le.size ((Array.range (n * le.size)).map (fun i => zc[i % zc.size]!)).toList (List.replicate n le.zero) := by
  obtain ⟨z, hz, hzr⟩ := (hC _ _ hle).run_zero w
  by_cases h0 : n * le.size = 0
  · refine ⟨#[], fun _ => rfl, fun h => absurd h0 h, fun V => ?_⟩
    have hn : n = 0 := by
      rcases Nat.mul_eq_zero.1 h0 with h | h
      · exact h
      · have := (hC _ _ hle).pos; omega
    subst hn
    exact ⟨fun i hi => absurd hi (by simp), fun i j hi => absurd hi (by simp)⟩
  · exact ⟨z.cells, fun h => absurd h h0, fun _ => ⟨z, hz, rfl⟩, fun V => zeros_rep (hzr V) (hC _ _ hle).solid (hC _ _ hle).size n⟩

theorem run_buildSlice (hC : CfgOK P C) (hr : Rel V a w s) {t e len : Nat} {l le : TL} {parts : Array (Nat × Operand)} (ho : ∀ p ∈ parts.toList, opndOK p.2 = true) (hT : C.ty t = some l) (hd : l.d = .sl e) (hle : C.ty e = some le)
    (hc : (fillE le.size (parts.toList.map fun p => (p.1, s.ev p.2)) (List.replicate len le.zero)).1 ∧ len * le.size ≤ 2 ^ 24) (hop : o.op = .buildSlice t len parts) :
    ∃ cells : Array Value, RepE V le.size cells.toList (fillE le.size (parts.toList.map fun p => (p.1, s.ev p.2)) (List.replicate len le.zero)).2 ∧ cells.size = len * le.size ∧
      (execOp a.eval o).run P w = .ok (.value (.slice (some ⟨w.heap.size, 0, none⟩) len len)) (w.alloc (.cells cells e)) := by
  obtain ⟨d, hrd, hdd⟩ := (hC _ _ hT).run_underlying w
  rw [hd] at hdd; simp only [DescOK] at hdd; subst hdd
  have hsz := (hC _ _ hle).run_sizeOf w
  obtain ⟨zc, hz0, hz1, hzr⟩ := zeroCells_run hC hle len w
  obtain ⟨hp1, hp2⟩ := parts_rep (s := s) hr ho
  obtain ⟨r, hr1, hr2, hr3⟩ := fillE_sound _ _ _ _ hp1 hp2 (hzr V) (by simp) hc.1
  refine ⟨r, hr2, by rw [hr3]; simp, ?_⟩
  have hnot : ¬ (16777216 < len * le.size) := by have := hc.2; simp at this; omega
  simp only [execOp, hop, Instr.buildSlice, Sem.run_bind, hrd, Result.andThen_ok, hsz]
  rw [if_neg (by omega)]
  by_cases h0 : len * le.size = 0
  · have := hz0 h0
    subst this
    simp only [h0, if_true, Sem.run_bind, Result.andThen_ok, Sem.run_pure, Go.newRow, run_newObj, World.alloc_eq]
    rw [h0] at hr1
    simp only [hr1, Sem.run_bind, Result.andThen_ok, Sem.run_pure, run_newObj, World.alloc_eq]
  · obtain ⟨z, hz, rfl⟩ := hz1 h0
    simp only [h0, if_false, Sem.run_bind, Result.andThen_ok, Sem.run_pure, Go.newRow, run_newObj, World.alloc_eq, hz, hr1]

theorem snd_buildSlice (hC : CfgOK P C) (hr : Rel V a w s) {t e len : Nat} {l le : TL} {parts : Array (Nat × Operand)} (ho : ∀ p ∈ parts.toList, opndOK p.2 = true) (hT : C.ty t = some l) (hd : l.d = .sl e) (hle : C.ty e = some le) {cnd : Prop}
    (hc : (fillE le.size (parts.toList.map fun p => (p.1, s.ev p.2)) (List.replicate len le.zero)).1 ∧ len * le.size ≤ 2 ^ 24) (hop : o.op = .buildSlice t len parts) :
    OpSound P V a w s o ⟨cnd, .sl (fillE le.size (parts.toList.map fun p => (p.1, s.ev p.2)) (List.replicate len le.zero)).2 .full, s⟩ ∧
    OpSound P V a w s o ⟨cnd, .ms (s.b + s.L.length) 0 len, s.new (.arr 0 le.size (fillE le.size (parts.toList.map fun p => (p.1, s.ev p.2)) (List.replicate len le.zero)).2)⟩ := by
  obtain ⟨cells, hE, hsz, hrun⟩ := run_buildSlice hC hr ho hT hd hle hc hop
  have hlen : (fillE le.size (parts.toList.map fun p => (p.1, s.ev p.2)) (List.replicate len le.zero)).2.length = len := by rw [fillE_length]; simp
  have hlm : len ≤ maxLen := by
    have h1 := hc.2
    have h2 := (hC _ _ hle).pos
    have : len * 1 ≤ len * le.size := Nat.mul_le_mul_left _ h2
    simp only [maxLen]; omega
  refine ⟨?_, ?_⟩
  · obtain ⟨V', hV, hrel, hrep⟩ := new_row hr.toW hE (by rw [hlen]; exact hsz) (by rw [hlen]; exact hlm) e
    rw [hlen] at hrep
    exact ⟨_, _, V', hrun, hV, below_alloc w _ hr.inv.base, hrel, rfl, rfl, rfl, .inl ⟨_, rfl, hrep⟩⟩
  · obtain ⟨V', hV, hloc, hrel⟩ := new_arr hr.toW hE (cap := len) (by rw [hlen]; exact Nat.le_refl _) hlm hsz e
    exact ⟨_, _, V', hrun, hV, below_alloc w _ hr.inv.base, hrel, rfl, rfl, rfl, .inl ⟨_, rfl, .ms _ _ _ (some w.heap.size) len hloc (Nat.le_refl _) hlm (fun h => by cases h)⟩⟩

theorem snd_makeSlice (hC : CfgOK P C) (hr : Rel V a w s) {t e : Nat} {l le : TL} {x y : Operand} {n c : Int} (hx : opndOK x = true) (hy : opndOK y = true) (hT : C.ty t = some l) (hd : l.d = .sl e) (hle : C.ty e = some le)
    (hev : s.ev x = .int .i64 n) (hev2 : s.ev y = .int .i64 c) {cnd : Prop} (hc : 0 ≤ n ∧ n = c ∧ n * le.bytes ≤ bytesMax) (hop : o.op = .makeSlice t x y) :
    OpSound P V a w s o ⟨cnd, .sl (List.replicate n.toNat le.zero) .full, s⟩ ∧ OpSound P V a w s o ⟨cnd, .ms (s.b + s.L.length) 0 n.toNat, s.new (.arr 0 le.size (List.replicate n.toNat le.zero))⟩ := by
  obtain ⟨h1, rfl, h3⟩ := hc
  obtain ⟨d, hrd, hdd⟩ := (hC _ _ hT).run_underlying w
  rw [hd] at hdd; simp only [DescOK] at hdd; subst hdd
  obtain ⟨i, z, hi1, hi2, hi3, _⟩ := (hC _ _ hle).info
  have hsz := (hC _ _ hle).run_sizeOf w
  have hrx := ev_rep hr x hx
  have hry := ev_rep hr y hy
  rw [hev] at hrx
  rw [hev2] at hry
  generalize hv : a.eval x = u at hrx
  generalize hv2 : a.eval y = u2 at hry
  cases hrx with
  | int _ _ hr1 hr2 =>
  cases hry
  have hwr : IntKind.wrap .i64 n = n := wrap_id _ _ hr1 hr2
  obtain ⟨zc, hz0, hz1, hzr⟩ := zeroCells_run hC hle n.toNat w
  have hnm : n.toNat ≤ maxLen := by simp only [IntKind.max, IntKind.signed, IntKind.bits, if_true] at hr2; simp only [maxLen]; omega
  have hrun : (execOp a.eval o).run P w = .ok (.value (.slice (some ⟨w.heap.size, 0, none⟩) n.toNat n.toNat)) (w.alloc (.cells ((Array.range (n.toNat * le.size)).map (fun i => zc[i % zc.size]!)) e)) := by
    have hbig : ¬ (281474976710656 < (i.bytes : Int) * n) := by
      rw [hi3, Int.mul_comm]; simp only [bytesMax] at h3; omega
    simp only [execOp, hop, hv, hv2, Instr.makeSlice, Sem.run_bind, hrd, Result.andThen_ok, asInt, asIntOf, Sem.run_pure, typeInfo, run_program, hi1, hwr]
    have hcond : ((decide (n < 0) || decide ((i.bytes : Int) * n > 2 ^ 48)) || decide (n < 0) || decide (n > n)) = false := by
      have e1 : ¬ n < 0 := by omega
      have e2 : ¬ ((i.bytes : Int) * n > 2 ^ 48) := by simpa using hbig
      simp [e1, hbig]
    rw [if_neg (by rw [hcond]; simp)]
    simp only [Sem.run_bind, Sem.run_pure, Result.andThen_ok, run_askRoom, hsz, Go.newRow]
    by_cases h0 : n.toNat * le.size = 0
    · have := hz0 h0
      subst this
      simp only [h0, if_true, Sem.run_bind, Result.andThen_ok, Sem.run_pure, run_newObj, World.alloc_eq]
    · obtain ⟨z, hz, rfl⟩ := hz1 h0
      simp only [h0, if_false, Sem.run_bind, Result.andThen_ok, Sem.run_pure, run_newObj, World.alloc_eq, hz]
  refine ⟨?_, ?_⟩
  · obtain ⟨V', hV, hrel, hrep⟩ := new_row hr.toW (hzr V) (by simp) (by simpa using hnm) e
    simp only [List.length_replicate] at hrep
    exact ⟨_, _, V', hrun, hV, below_alloc w _ hr.inv.base, hrel, rfl, rfl, rfl, .inl ⟨_, rfl, hrep⟩⟩
  · obtain ⟨V', hV, hloc, hrel⟩ := new_arr hr.toW (hzr V) (cap := n.toNat) (by simp) hnm (by simp) e
    exact ⟨_, _, V', hrun, hV, below_alloc w _ hr.inv.base, hrel, rfl, rfl, rfl, .inl ⟨_, rfl, .ms _ _ _ (some w.heap.size) n.toNat hloc (Nat.le_refl _) hnm (fun h => by cases h)⟩⟩

theorem snd_extract (hr : Rel V a w s) {x : Operand} {i : Nat} {vs : List AV} (hx : opndOK x = true) (hev : s.ev x = .tup vs) (hc : i < vs.length) (hop : o.op = .extract x i) : OpSound P V a w s o ⟨i < vs.length, vs.getD i .any, s⟩ := by
  have hrx := ev_rep hr x hx
  rw [hev] at hrx
  obtain ⟨cs, hv, hcs⟩ := RepL.of_tup hrx
  have hlt : i < cs.size := by have := hcs.1; simp at this; omega
  refine .val hr (u := cs[i]) ?_ ?_
  · simp only [execOp, hop, hv, Instr.extract, Sem.run_bind]
    simp [hlt]
  · have := hcs.2 i hc
    simpa [List.getD_eq_getElem?_getD, hlt] using this

theorem snd_makeMap (hr : Rel V a w s) {t : Nat} (hop : o.op = .makeMap t none) : OpSound P V a w s o ⟨True, .mp (s.b + s.L.length), s.new (.map [])⟩ := by
  obtain ⟨V', h1, h2, h3⟩ := new_map hr.toW
  refine ⟨_, _, V', ?_, h1, below_alloc w _ hr.inv.base, h3, rfl, rfl, rfl, .inl ⟨_, rfl, .mp _ _ _ h2⟩⟩
  simp only [execOp, hop, Instr.makeMap, Option.map_none, Sem.run_bind, run_newObj, Result.andThen_ok, Sem.run_pure, World.alloc_eq]

end
end Go.Ab
