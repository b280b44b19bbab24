/- The executor on code, and calls by abstract values. Condition: the executor's table of types is the program's; the constants are of their types. -/
import Derived.Test.YtcpfjabjonpdaaaAbG
set_option linter.unusedSimpArgs false
namespace Go.Ab
open Go.RowKit (Below)

/-! Views cut off at an object's number. -/

def View.cut (V : View) (m : Nat) : View := { V with loc := fun r n => if r < m then V.loc r n else none }

theorem belL_get {m : Nat} {l : List AV} (h : AV.belL m l = true) (i : Nat) : (l.getD i .any).bel m = true := by
  by_cases hi : i < l.length
  · rw [getD_lt _ hi]; exact (belL_iff m l).1 h _ (List.getElem_mem hi)
  · simp [List.getD_eq_getElem?_getD, List.getElem?_eq_none (Nat.le_of_not_lt hi), AV.bel]

theorem Rep.cut {V : View} {v : Value} {a : AV} (h : Rep V v a) {m : Nat} (hb : a.bel m = true) : Rep (V.cut m) v a := by
  have hloc : ∀ {r n x}, V.loc r n = some x → r < m → (V.cut m).loc r n = some x := fun {r n x} h1 h2 => by simp [View.cut, h2, h1]
  induction h with
  | any v => exact .any v
  | int k n h1 h2 => exact .int k n h1 h2
  | bool b => exact .bool b
  | str s h => exact .str s h
  | nilp => exact .nilp
  | agg cs as hl _ ih => exact .agg cs as hl fun i hi => ih i hi (belL_get hb i)
  | tup cs as hl _ ih => exact .tup cs as hl fun i hi => ih i hi (belL_get hb i)
  | sl bse len cap es tok size b o val hl hc hm hb' hs hi _ ht hf ih =>
    simp only [AV.bel, Bool.and_eq_true] at hb
    refine .sl bse len cap es tok size b o val hl hc hm hb' hs hi (fun i j hi' hj => ih i j hi' hj (belL_get (cellsOf_bel (belL_get hb.1 i)) j)) (fun r hr => ?_) hf
    obtain ⟨blk, h1, h2⟩ := ht r hr
    subst hr
    exact ⟨blk, hloc h1 (by simpa using hb.2), h2⟩
  | eptr e off b o val hi _ ih => exact .eptr e off b o val hi fun j hj => ih j hj (belL_get hb j)
  | bptr r off b c h => exact .bptr r off b c (hloc h (by simpa [AV.bel] using hb))
  | ms r ver len blk cap h hc hm hn => exact .ms r ver len blk cap (hloc h (by simpa [AV.bel] using hb)) hc hm hn
  | aptr r ver size i off b cap h => exact .aptr r ver size i off b cap (hloc h (by simpa [AV.bel] using hb))
  | mp r b c h => exact .mp r b c (hloc h (by simpa [AV.bel] using hb))
  | nilm => exact .nilm
  | fn f => exact .fn f
  | nilf => exact .nilf

theorem Rep.belOf {V : View} {v : Value} {a : AV} (h : Rep V v a) {m : Nat} (hd : ∀ r n x, V.loc r n = some x → r < m) : a.bel m = true := by
  induction h with
  | agg cs as hl _ ih =>
    simp only [AV.bel]; rw [belL_iff]; intro x hx
    obtain ⟨i, hi, rfl⟩ := List.mem_iff_getElem.1 hx
    have := ih i hi
    rwa [getD_lt _ hi] at this
  | tup cs as hl _ ih =>
    simp only [AV.bel]; rw [belL_iff]; intro x hx
    obtain ⟨i, hi, rfl⟩ := List.mem_iff_getElem.1 hx
    have := ih i hi
    rwa [getD_lt _ hi] at this
  | sl bse len cap es tok size b o val hl hc hm hb' hs hi _ ht hf ih =>
    simp only [AV.bel, Bool.and_eq_true]
    refine ⟨?_, ?_⟩
    · rw [belL_iff]; intro x hx
      obtain ⟨i, hi', rfl⟩ := List.mem_iff_getElem.1 hx
      have h1 := hs i (by omega)
      have h2 := fun j hj => ih i j (by omega) hj
      rw [getD_lt _ hi'] at h1 h2
      generalize es[i] = x at h1 h2
      cases x with
      | agg cs =>
        simp only [cellsOf] at h1 h2
        simp only [AV.bel]; rw [belL_iff]; intro y hy
        obtain ⟨j, hj, rfl⟩ := List.mem_iff_getElem.1 hy
        have := h2 j (by omega)
        rwa [getD_lt _ hj] at this
      | _ =>
        simp only [cellsOf, List.length_cons, List.length_nil, Nat.zero_add] at h1 h2
        have := h2 0 (by omega)
        simpa using this
    · cases tok with
      | own r => obtain ⟨blk, h1, _⟩ := ht r rfl; simpa using hd _ _ _ h1
      | _ => rfl
  | eptr e off b o val hi _ ih =>
    simp only [AV.bel]; rw [belL_iff]; intro x hx
    obtain ⟨i, hi', rfl⟩ := List.mem_iff_getElem.1 hx
    have := ih i hi'
    rwa [getD_lt _ hi'] at this
  | bptr r off b c h => simpa [AV.bel] using hd _ _ _ h
  | ms r ver len blk cap h hc hm hn => simpa [AV.bel] using hd _ _ _ h
  | aptr r ver size i off b cap h => simpa [AV.bel] using hd _ _ _ h
  | mp r b c h => simpa [AV.bel] using hd _ _ _ h
  | _ => rfl

theorem normL_length : ∀ l : List AV, (AV.normL l).length = l.length
  | [] => rfl
  | a :: as => by simp [AV.normL, normL_length as]
theorem normL_getD : ∀ (l : List AV) (i : Nat), (AV.normL l).getD i .any = (l.getD i .any).norm
  | [], i => by simp [AV.normL, AV.norm]
  | a :: as, 0 => by simp [AV.normL]
  | a :: as, i + 1 => by simpa [AV.normL] using normL_getD as i
theorem cellsOf_norm (a : AV) : cellsOf a.norm = AV.normL (cellsOf a) := by
  cases a <;> first | rfl | (simp [AV.norm, cellsOf, AV.normL])

theorem Rep.normed {V : View} {v : Value} {a : AV} (h : Rep V v a) : Rep V v a.norm := by
  induction h with
  | agg cs as hl _ ih => exact .agg cs _ (by rw [normL_length]; exact hl) fun i hi => by rw [normL_getD]; rw [normL_length] at hi; exact ih i hi
  | tup cs as hl _ ih => exact .tup cs _ (by rw [normL_length]; exact hl) fun i hi => by rw [normL_getD]; rw [normL_length] at hi; exact ih i hi
  | sl bse len cap es tok size b o val hl hc hm hb' hs hi _ ht hf ih =>
    refine .sl bse len cap _ .no size b o val (by rw [normL_length]; exact hl) hc hm hb' (fun i hi => ?_) hi (fun i j hi' hj => ?_) (fun r h => by cases h) (fun h => by cases h)
    · rw [normL_getD, cellsOf_norm, normL_length]; exact hs i hi
    · rw [normL_getD, cellsOf_norm, normL_getD]; exact ih i j hi' hj
  | eptr e off b o val hi _ ih => exact .eptr _ off b o val (fun j hj => by rw [normL_length] at hj; exact hi j hj) fun j hj => by rw [normL_getD]; rw [normL_length] at hj; exact ih j hj
  | any v => exact .any v
  | int k n h1 h2 => exact .int k n h1 h2
  | bool b => exact .bool b
  | str s h => exact .str s h
  | nilp => exact .nilp
  | bptr r off b c h => exact .bptr r off b c h
  | ms r ver len blk cap h hc hm hn => exact .ms r ver len blk cap h hc hm hn
  | aptr r ver size i off b cap h => exact .aptr r ver size i off b cap h
  | mp r b c h => exact .mp r b c h
  | nilm => exact .nilm
  | fn f => exact .fn f
  | nilf => exact .nilf

theorem RepMap.cut {V : View} {en : List MapEntry} {es : List (AV × AV)} (h : RepMap V en es) {m : Nat} (hb : (AObj.map es).bel m = true) : RepMap (V.cut m) en es := by
  simp only [AObj.bel, Bool.and_eq_true, belL_iff, List.mem_map, forall_exists_index, and_imp, forall_apply_eq_imp_iff₂] at hb
  exact ⟨h.1, fun i hi e p he hp => by
    have hm := List.mem_of_getElem? hp
    exact ⟨(h.2 i hi e p he hp).1.cut (hb.1 p hm), (h.2 i hi e p he hp).2.cut (hb.2 p hm)⟩⟩

theorem ObjOK.cut {V : View} {w : World} {r : Nat} {x : AObj} (h : ObjOK V w r x) {m : Nat} (hr : r < m) (hb : x.bel m = true) : ObjOK (V.cut m) w r x ∧ own (V.cut m) r x = own V r x := by
  have hloc : ∀ n, (V.cut m).loc r n = V.loc r n := fun n => by simp [View.cut, hr]
  cases x with
  | box cs =>
    obtain ⟨b, c, cells, ty, h1, h2, h3, h4, h5, h6⟩ := h
    exact ⟨⟨b, c, cells, ty, by rw [hloc]; exact h1, h2, h3, h4, fun i hi => (h5 i hi).cut (belL_get hb i), h6⟩, by simp [own, hloc]⟩
  | tok n size =>
    obtain ⟨blk, cap, h1, h2, h3, h4, h5⟩ := h
    exact ⟨⟨blk, cap, by rw [hloc]; exact h1, fun m hm => by rw [hloc]; exact h2 m hm, h3, h4, h5⟩, by simp [own, hloc]⟩
  | arr ver size es =>
    obtain ⟨blk, cap, h1, h2, h3, h4, hsz, h5⟩ := h
    refine ⟨⟨blk, cap, by rw [hloc]; exact h1, fun m hm => by rw [hloc]; exact h2 m hm, h3, h4, hsz, ?_⟩, by simp [own, hloc]⟩
    cases blk with
    | none => exact h5
    | some b =>
      obtain ⟨h6, cells, ty, h7, h8, h9, h10⟩ := h5
      exact ⟨h6, cells, ty, h7, h8, fun i j hi hj => (h9 i j hi hj).cut (belL_get (cellsOf_bel (belL_get hb i)) j), h10⟩
  | map es =>
    obtain ⟨b, c, entries, clock, h1, h2, h3, h4, h6⟩ := h
    exact ⟨⟨b, c, entries, clock, by rw [hloc]; exact h1, h2, h3, h4.cut hb, h6⟩, by simp [own, hloc]⟩
  | dead => exact ⟨fun n => by rw [hloc]; exact h n, rfl⟩

/-- The objects from a number on are forgotten. -/
theorem Inv.cut {V : View} {w : World} {obj obj' : Nat → Option AObj} (h : Inv V obj w) {m : Nat} (hlt : ∀ r, r < m → obj' r = obj r) (hge : ∀ r, ¬ r < m → obj' r = none) (hb : ∀ r x, r < m → obj r = some x → x.bel m = true) : Inv (V.cut m) obj' w := by
  refine ⟨h.base, h.imm, fun r n x hx => ?_, fun r x hx => ?_, fun r r' x x' b h1 h2 h3 h4 => ?_⟩
  · by_cases hr : r < m
    · rw [hlt r hr]; exact h.dom r n x (by simpa [View.cut, hr] using hx)
    · simp [View.cut, hr] at hx
  · by_cases hr : r < m
    · rw [hlt r hr] at hx; exact ((h.objs r x hx).cut hr (hb r x hr hx)).1
    · rw [hge r hr] at hx; cases hx
  · by_cases hr : r < m
    · by_cases hr' : r' < m
      · rw [hlt r hr] at h1
        rw [hlt r' hr'] at h2
        rw [((h.objs r x h1).cut hr (hb r x hr h1)).2] at h3
        rw [((h.objs r' x' h2).cut hr' (hb r' x' hr' h2)).2] at h4
        exact h.sep r r' x x' b h1 h2 h3 h4
      · rw [hge r' hr'] at h2; cases h2
    · rw [hge r hr] at h1; cases h1

theorem ObjOK.belOf {V : View} {w : World} {r : Nat} {x : AObj} (h : ObjOK V w r x) {m : Nat} (hd : ∀ r n y, V.loc r n = some y → r < m) : x.bel m = true := by
  cases x with
  | box cs =>
    obtain ⟨b, c, cells, ty, h1, h2, h3, h4, h5, h6⟩ := h
    simp only [AObj.bel]; rw [belL_iff]; intro y hy
    obtain ⟨i, hi, rfl⟩ := List.mem_iff_getElem.1 hy
    have := (h5 i hi).belOf hd
    rwa [getD_lt _ hi] at this
  | tok n size => rfl
  | arr ver size es =>
    obtain ⟨blk, cap, h1, h2, h3, h4, hsz, h5⟩ := h
    simp only [AObj.bel]; rw [belL_iff]; intro y hy
    obtain ⟨i, hi, rfl⟩ := List.mem_iff_getElem.1 hy
    cases blk with
    | none => simp only at h5; omega
    | some b =>
      obtain ⟨h6, cells, ty, h7, h8, h9, h10⟩ := h5
      have e1 := hsz i hi
      have e2 := fun j hj => (h9 i j hi hj).belOf hd
      rw [getD_lt _ hi] at e1 e2
      generalize es[i] = x at e1 e2
      cases x with
      | agg cs =>
        simp only [cellsOf] at e1 e2
        simp only [AV.bel]; rw [belL_iff]; intro y hy
        obtain ⟨j, hj, rfl⟩ := List.mem_iff_getElem.1 hy
        have := e2 j (by omega)
        rwa [getD_lt _ hj] at this
      | _ =>
        simp only [cellsOf, List.length_cons, List.length_nil, Nat.zero_add] at e1 e2
        have := e2 0 (by omega)
        simpa using this
  | map es =>
    obtain ⟨b, c, entries, clock, h1, h2, h3, h4, h6⟩ := h
    simp only [AObj.bel, Bool.and_eq_true, belL_iff, List.mem_map, forall_exists_index, and_imp, forall_apply_eq_imp_iff₂]
    have key : ∀ p ∈ es, p.1.bel m = true ∧ p.2.bel m = true := by
      intro p hp
      obtain ⟨i, hi, rfl⟩ := List.mem_iff_getElem.1 hp
      have hi' : i < entries.toList.length := by rw [h4.1]; exact hi
      have := h4.2 i hi _ _ (List.getElem?_eq_getElem hi') (List.getElem?_eq_getElem hi)
      exact ⟨this.1.belOf hd, this.2.belOf hd⟩
    exact ⟨fun p hp => (key p hp).1, fun p hp => (key p hp).2⟩
  | dead => rfl

end Go.Ab
