/- The executor's append, on its states. Condition: the executor's table of types is the program's. -/
import Derived.Test.YtcpfjabjonpdaaaAb6
set_option linter.unusedSimpArgs false
namespace Go.Ab
open Go.RowKit (Below)

section
variable {P : Program} {V : View} {w : World} {s : AState}

theorem RepE.take {size : Nat} {cells : List Value} {es : List AV} (h : RepE V size cells es) (n : Nat) : RepE V size (cells.take (n * size)) (es.take n) := by
  refine ⟨fun i hi => ?_, fun i j hi hj => ?_⟩
  · simp only [List.length_take] at hi
    have := h.1 i (by omega)
    simpa [List.getD_eq_getElem?_getD, List.getElem?_take, show i < n by omega] using this
  · simp only [List.length_take] at hi
    have h1 := h.2 i j (by omega) hj
    have hlt : i * size + j < n * size := by
      have : (i + 1) * size ≤ n * size := Nat.mul_le_mul_right _ (by omega)
      rw [Nat.succ_mul] at this; omega
    simpa [List.getD_eq_getElem?_getD, List.getElem?_take, show i < n by omega, hlt] using h1

theorem RepE.resize {size size' : Nat} {cells : List Value} {es : List AV} (h : RepE V size cells es) (hs : ∀ y ∈ es, (cellsOf y).length = size') : RepE V size' cells es := by
  rcases Nat.eq_zero_or_pos es.length with h0 | h0
  · exact ⟨fun i hi => absurd hi (by omega), fun i j hi => absurd hi (by omega)⟩
  · have h1 := h.1 0 h0
    have h2 := hs (es.getD 0 .any) (by rw [getD_lt _ h0]; exact List.getElem_mem h0)
    have : size = size' := by omega
    subst this; exact h

theorem arr_cells (hr : RelW V w s) {r ver size : Nat} {es : List AV} (ho : s.obj r = some (.arr ver size es)) :
    ∃ blk cap, V.loc r ver = some (blk, cap) ∧ (∀ m, ver < m → V.loc r m = none) ∧ es.length ≤ cap ∧ cap ≤ maxLen ∧ (blk = none → cap = 0) ∧ (∀ i, i < es.length → (cellsOf (es.getD i .any)).length = size) ∧
      ∀ b, blk = some b → V.base ≤ b ∧ ∃ cells ty, w.heap[b]? = some (.cells cells ty (0, 0)) ∧ cells.size = cap * size ∧ RepE V size cells.toList es ∧ ∀ o, V.imm b o = none := by
  obtain ⟨blk, cap, h1, h2, h3, h4, h5, h6⟩ := hr.inv.objs r _ ho
  refine ⟨blk, cap, h1, h2, h3, h4, ?_, h5, ?_⟩
  · intro hb; subst hb; exact h6
  · intro b hb; subst hb
    obtain ⟨h7, cells, ty, h8, h9, h10, h11⟩ := h6
    exact ⟨h7, cells, ty, h8, h9, ⟨h5, fun i j hi hj => by have := h10 i j hi hj; simpa [List.getD_eq_getElem?_getD] using this⟩, h11⟩

theorem src_cells (hr : RelW V w s) {u : Value} {ax : AV} (hu : Rep V u ax) {xs : List AV} {cx : Prop} (he : elemsOf s ax = some (xs, cx)) (hcx : cx) {size : Nat} (hsz : ∀ y ∈ xs, (cellsOf y).length = size) :
    ∃ base ad cap, ∃ news : List Value, u = .slice base xs.length cap ∧ (0 < xs.length → base = some ad) ∧ news.length = xs.length * size ∧ (∀ j v, news[j]? = some v → w.cell? (ad.add j) = some v) ∧ RepE V size news xs := by
  cases ax with
  | sl es tk =>
    simp only [elemsOf, Option.some.injEq, Prod.mk.injEq] at he
    obtain ⟨rfl, _⟩ := he
    obtain ⟨base, cap, b, o, news, h1, _, _, h4, h5, h6, _, h8, _⟩ := sl_cells hr.inv.imm hu hsz
    exact ⟨base, ⟨b, o, none⟩, cap, news, h1, h4, h5, fun j v hv => by rw [addr_add]; exact h6 j v hv, h8⟩
  | ms r ver len =>
    simp only [elemsOf] at he
    split at he
    · rename_i v' sz es ho
      simp only [Option.some.injEq, Prod.mk.injEq] at he
      obtain ⟨rfl, hce⟩ := he
      rw [← hce] at hcx
      obtain ⟨rfl, hlen⟩ := hcx
      cases hu with
      | ms _ _ _ blk cap hl hcap hm _ =>
        obtain ⟨blk', cap', h1, _, h3, h4, h5, h6, h7⟩ := arr_cells hr ho
        rw [hl] at h1
        simp only [Option.some.injEq, Prod.mk.injEq] at h1
        obtain ⟨rfl, rfl⟩ := h1
        have hlt : (es.take len).length = len := by simp; omega
        cases blk with
        | none =>
          have : cap = 0 := h5 rfl
          subst this
          have hl0 : len = 0 := by omega
          subst hl0
          exact ⟨none, ⟨0, 0, none⟩, 0, [], by simp [baseOf], fun h => absurd h (by simp), by simp, fun j v hv => by simp at hv, ⟨fun i hi => absurd hi (by simp), fun i j hi => absurd hi (by simp)⟩⟩
        | some b =>
          obtain ⟨h8, cells, ty, h9, h10, h11, _⟩ := h7 b rfl
          have hE : RepE V size (cells.toList.take (len * sz)) (es.take len) := (h11.take len).resize hsz
          have hszeq : len * sz = len * size := by
            rcases Nat.eq_zero_or_pos len with h0 | h0
            · simp [h0]
            · have e1 := h6 0 (by omega)
              have e2 := hsz (es.getD 0 .any) (by
                rw [getD_lt _ (by omega)]
                exact List.mem_of_getElem? (show (es.take len)[0]? = some es[0] by simp [List.getElem?_take, h0, show 0 < es.length by omega]))
              rw [← e1, e2]
          refine ⟨some ⟨b, 0, none⟩, ⟨b, 0, none⟩, cap, cells.toList.take (len * sz), by rw [hlt]; rfl, fun _ => rfl, ?_, ?_, hE⟩
          · have : len * sz ≤ cap * sz := Nat.mul_le_mul_right _ hcap
            have h0 : len * sz ≤ cells.toList.length := by rw [Array.length_toList, h10]; exact this
            rw [List.length_take, Nat.min_eq_left h0, hlt, hszeq]
          · intro j v hv
            rw [List.getElem?_take] at hv
            split at hv
            · rw [addr_add]; simp only [Nat.zero_add, World.cell?, h9]; simpa using hv
            · cases hv
    · cases he
  | _ => simp [elemsOf] at he

theorem sl_ownRep {V' : View} {size b n cap r : Nat} {cells : List Value} {es : List AV} {tk : Tk} (hn : es.length = n) (hc : n ≤ cap) (hm : cap ≤ maxLen) (hE : RepE V' size cells es)
    (hi : ∀ j, j < n * size → V'.imm b j = some (cells.getD j undef)) (ht : tk = .own r ∧ V'.loc r n = some (some b, cap)) : Rep V' (.slice (some ⟨b, 0, none⟩) n cap) (.sl es tk) := by
  subst hn
  refine .sl _ _ cap es tk size b 0 (fun j => cells.getD j undef) rfl hc hm (fun _ => rfl) hE.1 (fun j hj => by rw [Nat.zero_add]; exact hi j hj) hE.2 ?_ ?_
  · intro r' hr'
    obtain ⟨rfl, h2⟩ := ht
    cases hr'
    exact ⟨some b, h2, rfl⟩
  · intro h; obtain ⟨rfl, _⟩ := ht; cases h

/-- An owner's slice grows in its own block. -/
theorem own_in (hr : RelW V w s) {r n size : Nat} (ho : s.obj r = some (.tok n size)) {b cap : Nat} (hl : V.loc r n = some (some b, cap)) {es xs : List AV} {olds news : List Value}
    (hn : es.length = n) (hE : RepE V size olds es) (hol : olds.length = n * size) (hoi : ∀ j v, olds[j]? = some v → V.imm b j = some v)
    (hX : RepE V size news xs) (hnl : news.length = xs.length * size) (hroom : n + xs.length ≤ cap) :
    ∃ cur et, w.heap[b]? = some (.cells cur et (0, 0)) ∧ n * size + news.length ≤ cur.size ∧ ∃ V', V.Le V' ∧ V.base ≤ b ∧
      RelW V' (w.setRow b (cur.toList.take (n * size) ++ news ++ cur.toList.drop (n * size + news.length)).toArray) (s.setObj r (.tok (n + xs.length) size)) ∧
      Rep V' (.slice (some ⟨b, 0, none⟩) (n + xs.length) cap) (.sl (es ++ xs) (.own r)) := by
  obtain ⟨blk, cap', h1, h2, h3, h4, h5⟩ := hr.inv.objs r _ ho
  rw [hl] at h1
  simp only [Option.some.injEq, Prod.mk.injEq] at h1
  obtain ⟨rfl, rfl⟩ := h1
  obtain ⟨h6, cur, et, h7, h8, h9⟩ := h5
  have hfit : n * size + news.length ≤ cur.size := by
    rw [hnl, h8, ← Nat.add_mul]; exact Nat.mul_le_mul_right _ hroom
  refine ⟨cur, et, h7, hfit, ?_⟩
  let f : Nat → Option Value := fun o => if o < n * size then V.imm b o else if o < (n + xs.length) * size then news[o - n * size]? else none
  let V' : View := { base := V.base, imm := fun b' o => if b' = b then f o else V.imm b' o, loc := fun q m => if q = r ∧ m = n + xs.length then some (some b, cap) else V.loc q m }
  have hle : V.Le V' := by
    refine ⟨rfl, fun b' o v hv => ?_, fun q m y hy => ?_⟩
    · by_cases hb' : b' = b
      · subst hb'
        have : o < n * size := by
          rcases Nat.lt_or_ge o (n * size) with h | h
          · exact h
          · rw [h9 o h] at hv; cases hv
        simp [V', f, this, hv]
      · simp [V', hb', hv]
    · by_cases hq : q = r ∧ m = n + xs.length
      · obtain ⟨rfl, rfl⟩ := hq
        rcases Nat.eq_zero_or_pos xs.length with h0 | h0
        · rw [h0, Nat.add_zero, hl] at hy; simp [V', hy]
        · rw [h2 _ (by omega)] at hy; cases hy
      · simp [V', hq, hy]
  have hcells : ∀ o v, f o = some v → (cur.toList.take (n * size) ++ news ++ cur.toList.drop (n * size + news.length))[o]? = some v := by
    intro o v hv
    have ht : (cur.toList.take (n * size)).length = n * size := by simp; omega
    simp only [f] at hv
    split at hv
    · rename_i hlt
      have := hr.inv.imm _ _ _ hv
      rw [List.append_assoc, List.getElem?_append_left (by omega), List.getElem?_take, if_pos hlt]
      simpa [World.cell?, h7] using this
    · split at hv
      · rename_i h10 h11
        rw [Nat.add_mul] at h11
        rw [List.append_assoc, List.getElem?_append_right (by omega), ht, List.getElem?_append_left (by omega)]
        exact hv
      · cases hv
  have hlocn : V'.loc r (n + xs.length) = some (some b, cap) := by simp [V']
  refine ⟨V', hle, h6, ?_, ?_⟩
  · refine hr.setObj ho (hr.inv.write r _ (.tok (n + xs.length) size) ho b (by simp [own, hl]) (by simp [World.setRow]) (fun k hk => setRow_other w b k _ hk) V' hle ?_ ?_ ?_ ?_ ?_) (fun _ => rfl)
    · intro b1 o hb1; simp [V', hb1]
    · intro o v hv
      simp only [V', if_true] at hv
      have h12 := hcells o v hv
      simp only [World.cell?, setRow_heap w b cur _ et _ h7]
      simpa using h12
    · intro q m hq; simp [V', hq]
    · refine ⟨some b, cap, hlocn, fun m hm' => ?_, hroom, h4, h6, _, et, setRow_heap w b cur _ et _ h7, ?_, fun o ho' => ?_⟩
      · have : ¬ (m = n + xs.length) := by omega
        simp [V', this, h2 m (by omega)]
      · simp [List.length_append]; omega
      · have h10 : ¬ o < n * size := by rw [Nat.add_mul] at ho'; omega
        have h11 : ¬ o < (n + xs.length) * size := by omega
        simp [V', f, h10, h11]
    · simp [own, hlocn]
  · have hE' : RepE V' size (olds ++ news ++ []) (es ++ xs) := (hE.mono hle).append (hX.mono hle) (by rw [hn]; exact hol) hnl
    rw [List.append_nil] at hE'
    refine sl_ownRep (by simp [hn]) hroom h4 hE' ?_ ⟨rfl, hlocn⟩
    intro j hj
    have hj' : j < n * size + xs.length * size := by rw [← Nat.add_mul]; exact hj
    by_cases h10 : j < n * size
    · rw [getD_app_l _ _ _ (by omega)]
      have h11 := hoi j _ (List.getElem?_eq_getElem (show j < olds.length by omega))
      simp [V', f, h10, h11, List.getD_eq_getElem?_getD, show j < olds.length by omega]
    · rw [getD_app_r _ _ _ (by omega), hol]
      have h12 : j - n * size < news.length := by omega
      simp [V', f, h10, show j < (n + xs.length) * size from hj, List.getD_eq_getElem?_getD, h12]

/-- A slice grows into a new block: its owner's place is there from now on. -/
theorem own_out (hr : RelW V w s) {r : Nat} {n size : Nat} {s' : AState} (hs' : (∀ V' w', Inv V' (fun q => if q = r then some (.tok n size) else s.obj q) w' → RelW V' w' s'))
    (hloc : ∀ m, n ≤ m → V.loc r m = none) {es : List AV} {cells : Array Value} (hn : es.length = n) (hE : RepE V size cells.toList es) {cap : Nat} (hc : n ≤ cap) (hm : cap ≤ maxLen) (hsz : cells.size = cap * size) (et : TypeId) :
    ∃ V', V.Le V' ∧ RelW V' (w.alloc (.cells cells et)) s' ∧ Rep V' (.slice (some ⟨w.heap.size, 0, none⟩) n cap) (.sl es (.own r)) := by
  let V' : View := { base := V.base, imm := fun b' o => if b' = w.heap.size then (if o < n * size then cells[o]? else none) else V.imm b' o,
                     loc := fun q m => if q = r ∧ m = n then some (some w.heap.size, cap) else V.loc q m }
  have hle : V.Le V' := by
    refine ⟨rfl, fun b' o v hv => ?_, fun q m y hy => ?_⟩
    · have := hr.inv.imm_lt hv
      have : ¬ b' = w.heap.size := by omega
      simp [V', this, hv]
    · by_cases hq : q = r ∧ m = n
      · obtain ⟨rfl, rfl⟩ := hq; rw [hloc m (Nat.le_refl _)] at hy; cases hy
      · simp [V', hq, hy]
  have hlocn : V'.loc r n = some (some w.heap.size, cap) := by simp [V']
  refine ⟨V', hle, hs' _ _ (hr.inv.upd hle r _ (by simp) ?_ ?_ ?_ ?_ ?_), ?_⟩
  · intro b o v hv
    by_cases hb : b = w.heap.size
    · subst hb
      simp only [V', if_true] at hv
      split at hv
      · rw [World.cell?_alloc_new]; exact hv
      · cases hv
    · simp only [V', hb, if_false] at hv
      rw [World.cell?_alloc_old w _ ⟨b, o, none⟩ hb]
      exact hr.inv.imm b o v hv
  · intro r1 x1 hne ho b hb
    have hlt := ((hr.inv.objs r1 x1 ho).own_lt hb).2
    refine ⟨heap_alloc_lt w _ hlt, fun o hn => ?_⟩
    have : ¬ b = w.heap.size := by omega
    simp [V', this, hn]
  · intro r1 m hne; simp [V', hne]
  · refine ⟨some w.heap.size, cap, hlocn, fun m hm' => ?_, hc, hm, hr.inv.base, cells, et, heap_alloc_new w _, hsz, fun o ho => ?_⟩
    · have : ¬ m = n := by omega
      simp [V', this, hloc m (by omega)]
    · have : ¬ o < n * size := by omega
      simp [V', this]
  · intro b hb r1 x1 hne ho hb1
    simp only [own, hlocn, Option.bind_some, Option.some.injEq] at hb
    subst hb
    exact absurd ((hr.inv.objs r1 x1 ho).own_lt hb1).2 (by omega)
  · refine sl_ownRep hn hc hm (hE.mono hle) ?_ ⟨rfl, hlocn⟩
    intro j hj
    have h1 : j < cells.size := by
      have : n * size ≤ cap * size := Nat.mul_le_mul_right _ hc
      omega
    simp [V', hj, List.getD_eq_getElem?_getD, h1]

/-- A mutable row grows in its own block. -/
theorem arr_in (hr : RelW V w s) {r ver size len : Nat} {es xs : List AV} (ho : s.obj r = some (.arr ver size es)) (hlen : len ≤ es.length) {b cap : Nat} (hl : V.loc r ver = some (some b, cap))
    {news : List Value} (hX : RepE V size news xs) (hnl : news.length = xs.length * size) (hroom : len + xs.length ≤ cap) (hbel : r < s.b → AV.belL s.b xs = true) :
    ∃ cur et, w.heap[b]? = some (.cells cur et (0, 0)) ∧ len * size + news.length ≤ cur.size ∧ ∃ V', V.Le V' ∧ V.base ≤ b ∧
      RelW V' (w.setRow b (cur.toList.take (len * size) ++ news ++ cur.toList.drop (len * size + news.length)).toArray) (s.setObj r (.arr (ver + 1) size (es.take len ++ xs))) ∧
      Rep V' (.slice (some ⟨b, 0, none⟩) (len + xs.length) cap) (.ms r (ver + 1) (len + xs.length)) := by
  obtain ⟨blk, cap', h1, h2, h3, h4, _, hszs, h5⟩ := arr_cells hr ho
  rw [hl] at h1
  simp only [Option.some.injEq, Prod.mk.injEq] at h1
  obtain ⟨rfl, rfl⟩ := h1
  obtain ⟨h6, cur, et, h7, h8, h9, h10⟩ := h5 b rfl
  have hfit : len * size + news.length ≤ cur.size := by
    rw [hnl, h8, ← Nat.add_mul]; exact Nat.mul_le_mul_right _ hroom
  refine ⟨cur, et, h7, hfit, ?_⟩
  let V' : View := { V with loc := fun q m => if q = r ∧ m = ver + 1 then some (some b, cap) else V.loc q m }
  have hle : V.Le V' := ⟨rfl, fun _ _ _ h => h, fun q m y hy => by
    by_cases hq : q = r ∧ m = ver + 1
    · obtain ⟨rfl, rfl⟩ := hq; rw [h2 _ (Nat.lt_succ_self _)] at hy; cases hy
    · simp [V', hq, hy]⟩
  have hlocn : V'.loc r (ver + 1) = some (some b, cap) := by simp [V']
  have htl : (es.take len).length = len := by simp; omega
  have hlt : (cur.toList.take (len * size)).length = len * size := by simp; omega
  have hE : RepE V' size (cur.toList.take (len * size) ++ news ++ cur.toList.drop (len * size + news.length)) (es.take len ++ xs) :=
    ((h9.take len).mono hle).append (hX.mono hle) (by rw [htl, hlt]) hnl
  refine ⟨V', hle, h6, ?_, .ms r (ver + 1) (len + xs.length) (some b) cap hlocn hroom h4 (fun h => by cases h)⟩
  refine hr.setObj ho (hr.inv.write r _ (.arr (ver + 1) size (es.take len ++ xs)) ho b (by simp [own, hl]) (by simp [World.setRow]) (fun k hk => setRow_other w b k _ hk) V' hle
    (fun _ _ _ => rfl) (fun o v hv => by rw [h10 o] at hv; cases hv) (fun q m hq => by simp [V', hq]) ?_ (by simp [own, hlocn])) ?_
  · refine ⟨some b, cap, hlocn, fun m hm' => ?_, by simp only [List.length_append, htl]; exact hroom, h4, hE.1, h6, _, et, setRow_heap w b cur _ et _ h7, ?_, fun i j hi hj => ?_, h10⟩
    · have : ¬ m = ver + 1 := by omega
      simp [V', this, h2 m (by omega)]
    · simp [List.length_append]; omega
    · have := hE.2 i j hi hj
      simpa [List.getD_eq_getElem?_getD] using this
  · intro hlt'
    have hb0 : AV.belL s.b es = true := by
      have := hr.bel (.arr ver size es) (by unfold AState.obj at ho; rw [if_pos hlt'] at ho; exact List.mem_of_getElem? ho)
      exact this
    have hb1 := hbel hlt'
    simp only [AObj.bel]
    rw [belL_iff] at *
    intro x hx
    rcases List.mem_append.1 hx with h | h
    · exact hb0 x (List.mem_of_mem_take h)
    · exact hb1 x h

/-- A mutable row grows into a new block. -/
theorem arr_out (hr : RelW V w s) {r ver size : Nat} {es' : List AV} {x : AObj} (ho : s.obj r = some x) {s' : AState} (hs' : (∀ V' w', Inv V' (fun q => if q = r then some (.arr ver size es') else s.obj q) w' → RelW V' w' s'))
    (hloc : ∀ m, ver ≤ m → V.loc r m = none) {cells : Array Value} (hE : RepE V size cells.toList es') {cap : Nat} (hc : es'.length ≤ cap) (hm : cap ≤ maxLen) (hsz : cells.size = cap * size) (et : TypeId) :
    ∃ V', V.Le V' ∧ RelW V' (w.alloc (.cells cells et)) s' ∧ Rep V' (.slice (some ⟨w.heap.size, 0, none⟩) es'.length cap) (.ms r ver es'.length) := by
  let V' : View := { V with loc := fun q m => if q = r ∧ m = ver then some (some w.heap.size, cap) else V.loc q m }
  have hle : V.Le V' := ⟨rfl, fun _ _ _ h => h, fun q m y hy => by
    by_cases hq : q = r ∧ m = ver
    · obtain ⟨rfl, rfl⟩ := hq; rw [hloc _ (Nat.le_refl _)] at hy; cases hy
    · simp [V', hq, hy]⟩
  have hlocn : V'.loc r ver = some (some w.heap.size, cap) := by simp [V']
  refine ⟨V', hle, hs' _ _ (hr.inv.upd hle r _ (by simp) ?_ ?_ ?_ ?_ ?_), .ms r ver es'.length (some w.heap.size) cap hlocn hc hm (fun h => by cases h)⟩
  · intro b o v hv
    have hlt := hr.inv.imm_lt (show V.imm b o = some v from hv)
    rw [World.cell?_alloc_old w _ ⟨b, o, none⟩ (by simp; omega)]
    exact hr.inv.imm b o v hv
  · intro r1 x1 hne ho1 b hb
    exact ⟨heap_alloc_lt w _ ((hr.inv.objs r1 x1 ho1).own_lt hb).2, fun _ h => h⟩
  · intro r1 m hne; simp [V', hne]
  · refine ⟨some w.heap.size, cap, hlocn, fun m hm' => ?_, hc, hm, hE.1, hr.inv.base, cells, et, heap_alloc_new w _, hsz, fun i j hi hj => ?_, fun o => hr.inv.imm_new (Nat.le_refl _) o⟩
    · have : ¬ m = ver := by omega
      simp [V', this, hloc m (by omega)]
    · have := (hE.mono hle).2 i j hi hj
      simpa [List.getD_eq_getElem?_getD] using this
  · intro b hb r1 x1 hne ho1 hb1
    simp only [own, hlocn, Option.bind_some, Option.some.injEq] at hb
    subst hb
    exact absurd ((hr.inv.objs r1 x1 ho1).own_lt hb1).2 (by omega)

end
end Go.Ab
