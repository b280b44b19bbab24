/- The executor's append runs as the model's does, whatever room there is. Condition: the executor's table of types is the program's. -/
import Derived.Test.YtcpfjabjonpdaaaAb5
set_option linter.unusedSimpArgs false
namespace Go.Ab
open Go.RowKit (Below)

section
variable {P : Program} {V : View} {w : World} {s : AState}

theorem RepE.append {size : Nat} {c1 c2 c3 : List Value} {es xs : List AV} (h : RepE V size c1 es) (k : RepE V size c2 xs) (hl : c1.length = es.length * size) (hl2 : c2.length = xs.length * size) :
    RepE V size (c1 ++ c2 ++ c3) (es ++ xs) := by
  refine ⟨fun i hi => ?_, fun i j hi hj => ?_⟩
  · by_cases h1 : i < es.length
    · rw [getD_app_l _ _ _ h1]; exact h.1 i h1
    · rw [getD_app_r _ _ _ (by omega)]; exact k.1 _ (by simp at hi; omega)
  · have hmul : ∀ {p q : Nat}, p < q → p * size + j < q * size := fun {p q} hpq => by
      have : (p + 1) * size ≤ q * size := Nat.mul_le_mul_right _ hpq
      rw [Nat.succ_mul] at this; omega
    by_cases h1 : i < es.length
    · have h2 := hmul h1
      rw [getD_app_l _ _ _ h1, List.append_assoc, getD_app_l _ _ _ (by omega)]
      exact h.2 i j h1 hj
    · have h3 : i - es.length < xs.length := by simp at hi; omega
      have h2 := hmul h3
      have h4 : i * size = es.length * size + (i - es.length) * size := by rw [← Nat.add_mul]; congr 1; omega
      rw [List.append_assoc, getD_app_r c1 _ _ (by omega), getD_app_l _ _ _ (by omega), getD_app_r es _ _ (by omega), show i * size + j - c1.length = (i - es.length) * size + j by omega]
      exact k.2 _ j h3 hj

theorem RepE.of_solid {size : Nat} {es : List AV} {cells : List Value} (h1 : ∀ y ∈ es, (cellsOf y).length = size)
    (h2 : ∀ i j, i < es.length → j < size → Rep V (cells.getD (i * size + j) undef) ((cellsOf (es.getD i .any)).getD j .any)) : RepE V size cells es :=
  ⟨fun i hi => by rw [getD_lt _ hi]; exact h1 _ (List.getElem_mem hi), h2⟩

theorem RepE.oneCells {size : Nat} {cells : List Value} {es : List AV} (h : RepE V size cells es) (hs : ∀ y ∈ es, y.solid = true) (hl : cells.length = es.length * size) : ∀ u ∈ cells, u.oneCell' = true := by
  intro u hu
  obtain ⟨q, hq, rfl⟩ := List.mem_iff_getElem.1 hu
  have hpos : 0 < size := by
    rcases Nat.eq_zero_or_pos size with h0 | h0
    · subst h0; simp at hl; subst hl; simp at hq
    · exact h0
  have hi : q / size < es.length := by rw [Nat.div_lt_iff_lt_mul hpos, ← hl]; exact hq
  have hj : q % size < size := Nat.mod_lt _ hpos
  have h1 := h.2 _ _ hi hj
  have h2 : q / size * size + q % size = q := by rw [Nat.mul_comm]; exact Nat.div_add_mod q size
  rw [h2, getD_lt _ hq] at h1
  have hm : es.getD (q / size) .any ∈ es := by rw [getD_lt _ hi]; exact List.getElem_mem hi
  exact h1.oneCell (AV.solid_one (hs _ hm) _ (by rw [h.1 _ hi]; exact hj))

/-- The cells of an immutable slice's elements. -/
theorem sl_cells {V : View} {w : World} (himm : ∀ b o v, V.imm b o = some v → w.cell? ⟨b, o, none⟩ = some v) {u : Value} {es : List AV} {tk : Tk} (h : Rep V u (.sl es tk)) {size : Nat} (hsz : ∀ y ∈ es, (cellsOf y).length = size) :
    ∃ base cap b o, ∃ news : List Value, u = .slice base es.length cap ∧ es.length ≤ cap ∧ cap ≤ maxLen ∧ (0 < es.length → base = some ⟨b, o, none⟩) ∧
      news.length = es.length * size ∧ (∀ j v, news[j]? = some v → w.cell? ⟨b, o + j, none⟩ = some v) ∧ (∀ j v, news[j]? = some v → V.imm b (o + j) = some v) ∧ RepE V size news es ∧
      (∀ r, tk = .own r → ∃ blk, V.loc r es.length = some (blk, cap) ∧ base = baseOf blk) ∧ (tk = .full → cap = es.length) := by
  cases h with
  | sl bse len cap _ _ size' b o val hl hc hm hb hs hi hr ht hf =>
    subst hl
    have hsize : 0 < es.length → size' = size := fun h0 => by
      have h1 := hs 0 h0
      have h2 := hsz (es.getD 0 .any) (by rw [getD_lt _ h0]; exact List.getElem_mem h0)
      omega
    have key : ∀ j, j < es.length * size → j < es.length * size' := fun j hj => by
      rcases Nat.eq_zero_or_pos es.length with h0 | h0
      · rw [h0] at hj; simp at hj
      · rw [hsize h0]; exact hj
    have getVal : ∀ {j : Nat} {v : Value}, ((List.range (es.length * size)).map val)[j]? = some v → j < es.length * size ∧ val j = v := fun {j v} hv => by
      obtain ⟨h1, h2⟩ := List.getElem?_eq_some_iff.1 hv
      simp at h1 h2
      exact ⟨h1, h2⟩
    refine ⟨bse, cap, b, o, (List.range (es.length * size)).map val, rfl, hc, hm, hb, by simp, ?_, ?_, ?_, ht, hf⟩
    · intro j v hv
      obtain ⟨hj, rfl⟩ := getVal hv
      exact himm _ _ _ (hi _ (key _ hj))
    · intro j v hv
      obtain ⟨hj, rfl⟩ := getVal hv
      exact hi _ (key _ hj)
    · refine RepE.of_solid hsz fun i j hi' hj => ?_
      have h0 : 0 < es.length := by omega
      have hlt : i * size + j < es.length * size := by
        have : (i + 1) * size ≤ es.length * size := Nat.mul_le_mul_right _ hi'
        rw [Nat.succ_mul] at this; omega
      have := hr i j hi' (by rw [hsize h0]; exact hj)
      rw [hsize h0] at this
      simpa [List.getD_eq_getElem?_getD, hlt] using this

theorem run_firstCells (w : World) (size m cap : Nat) (base : Option Addr) (ad : Addr) (news : List Value) (hb : 0 < m → base = some ad) (hl : news.length = m * size)
    (hc : ∀ j v, news[j]? = some v → w.cell? (ad.add j) = some v) : (Builtin.firstCells size m (.slice base m cap)).run P w = .ok news.toArray w := by
  rcases Nat.eq_zero_or_pos m with h0 | h0
  · subst h0
    have : news = [] := List.eq_nil_of_length_eq_zero (by simpa using hl)
    subst this
    cases base with
    | none => simp [Builtin.firstCells]
    | some a => simp [Builtin.firstCells, loadCells, loadCellsFrom]
  · rw [hb h0]
    exact run_firstCells_some w size m ad m cap news hl hc

theorem run_append_in (w : World) {t ty e : TypeId} {i : TypeInfo} (ht : P.underlying t = some (.slice e)) (hi : P.info? e = some i)
    {b n cap : Nat} {cur : Array Value} {et : TypeId} (hg : w.heap[b]? = some (.cells cur et (0, 0))) {base : Option Addr} {ad : Addr} {m c : Nat} {news : List Value}
    (hb : 0 < m → base = some ad) (hl : news.length = m * i.size) (hc : ∀ j v, news[j]? = some v → w.cell? (ad.add j) = some v) (h1 : ∀ u ∈ news, u.oneCell' = true)
    (hroom : n + m ≤ cap) (hfit : n * i.size + news.length ≤ cur.size) :
    (Builtin.append_ #[t, t] ty #[.slice (some ⟨b, 0, none⟩) n cap, .slice base m c]).run P w =
      .ok (.slice (some ⟨b, 0, none⟩) (n + m) cap) (w.setRow b (cur.toList.take (n * i.size) ++ news ++ cur.toList.drop (n * i.size + news.length)).toArray) := by
  have hf := run_firstCells (P := P) w i.size m c base ad news hb hl hc
  have hst := run_storeCells_at P b (n * i.size) et news 0 cur w hg (by simpa using hfit) h1
  simp only [Nat.add_zero] at hst
  simp [Builtin.append_, Go.run_underlying ht, sizeOf, typeInfo, hi, Builtin.lenOf, hroom, hf, addr_add, hst]

theorem run_append_nil0 (w : World) {t ty e : TypeId} {i : TypeInfo} (ht : P.underlying t = some (.slice e)) (hi : P.info? e = some i) {base : Option Addr} {ad : Addr} {c : Nat} {news : List Value}
    (hb : 0 < 0 → base = some ad) (hl : news.length = 0 * i.size) (hc : ∀ j v, news[j]? = some v → w.cell? (ad.add j) = some v) :
    (Builtin.append_ #[t, t] ty #[.slice none 0 0, .slice base 0 c]).run P w = .ok (.slice none 0 0) w := by
  have hf := run_firstCells (P := P) w i.size 0 c base ad news hb hl hc
  simp [Builtin.append_, Go.run_underlying ht, sizeOf, typeInfo, hi, Builtin.lenOf, hf]

theorem run_append_out (w : World) {t ty e : TypeId} {i : TypeInfo} {z : Value} (ht : P.underlying t = some (.slice e)) (hi : P.info? e = some i) (hz : i.zero = some z)
    {base0 : Option Addr} {ad0 : Addr} {n cap : Nat} {olds : List Value} (hb0 : 0 < n → base0 = some ad0) (hl0 : olds.length = n * i.size) (hc0 : ∀ j v, olds[j]? = some v → w.cell? (ad0.add j) = some v)
    {base : Option Addr} {ad : Addr} {m c : Nat} {news : List Value} (hb : 0 < m → base = some ad) (hl : news.length = m * i.size) (hc : ∀ j v, news[j]? = some v → w.cell? (ad.add j) = some v)
    (hg : cap < n + m) (hby : (n + m) * i.bytes ≤ bytesMax) (hmax : n + m ≤ maxLen) :
    ∃ nc, n + m ≤ nc ∧ nc ≤ maxLen ∧ (Builtin.append_ #[t, t] ty #[.slice base0 n cap, .slice base m c]).run P w =
      .ok (.slice (some ⟨w.heap.size, 0, none⟩) (n + m) nc) (w.drew.alloc (.cells (olds ++ news ++ (Builtin.zeroCells z.cells (nc - (n + m))).toList).toArray e)) := by
  have hn : ¬ (n + m ≤ cap) := by omega
  have h63' : ¬ (9223372036854775807 < ((n : Int) + (m : Int))) := by simp only [maxLen] at hmax; omega
  have h48' : ¬ (281474976710656 < Builtin.nextslicecap (n + m) cap * i.bytes) := by have := growslice_fits hg hby; omega
  have hf := run_firstCells (P := P) w.drew i.size m c base ad news hb hl (by simpa using hc)
  have hfo : (Builtin.firstCells i.size n (.slice base0 n cap)).run P w.drew = .ok olds.toArray w.drew := run_firstCells (P := P) w.drew i.size n cap base0 ad0 olds hb0 hl0 (by simpa using hc0)
  refine ⟨grownCap w (n + m) cap e, grownCap_ge w _ _ _, grownCap_le_maxLen w _ _ _ hmax, ?_⟩
  simp [Builtin.append_, Go.run_underlying ht, sizeOf, typeInfo, zeroValue, hi, hz, Builtin.lenOf, hn, h63', h48', Question.forced, hf, hfo, newRow, grownCap]
  congr 2
  apply Array.ext'
  simp [List.append_assoc]

end
end Go.Ab
