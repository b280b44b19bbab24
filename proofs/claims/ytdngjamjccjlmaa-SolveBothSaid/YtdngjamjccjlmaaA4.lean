/- The executor on abstract values: code, calls, loops. Conditions stand ahead of each part. -/
import Derived.Test.YtdngjamjccjlmaaA3
import Derived.LoopN
import Derived.KernelRfl

/- The executor's regions, in the text's order, run as the model's do. Condition: the executor's table of types is the program's; the constants are of their types. -/
set_option linter.unusedSimpArgs false
namespace Go.Ab
open Go.RowKit (Below)

def dstOK (n : Nat) (o : Oper) : Bool := match o.dst with | some d => decide (d < n) | none => true

def Post (V : View) (w : World) (n b : Nat) (Q : Exit → AState → Prop) (e : Exit) (a' : Act) (w' : World) : Prop :=
  ∃ V' s', V.LeB b V' ∧ Below V.base w w' ∧ Rel V' a' w' s' ∧ s'.n = n ∧ s'.b = b ∧ Q e s'

theorem callK_fn {P : Program} : ∀ g args s K, CallK P g args s K → FnOK P g := fun _ _ _ _ h => h.1

section
variable {P : Program} {C : Cfg} {V : View} {w : World} {s : AState} {a : Act} {o : Oper}

theorem Rel.put (hr : Rel V a w s) {u : Value} {v : AV} (hu : Rep V u v) {dst : Option Tmp} (hd : ∀ d, dst = some d → d < s.n) : Rel V (a.put dst u) w (s.put dst v) := by
  cases dst with
  | none => exact hr
  | some d =>
    have hlt := hd d rfl
    refine ⟨hr.hb, hr.bel, hr.inv, by simp [Act.put, AState.put, hr.size], hr.defers, fun t => ?_⟩
    simp only [Act.put, AState.put, upd]
    by_cases ht : t = d
    · subst ht
      have : t < a.tmps.size := by rw [hr.size]; exact hlt
      simp [this, hu]
    · have := hr.env t
      simp only [ht, if_false]
      simpa [Array.getElem?_setIfInBounds_ne (Ne.symm ht)] using this

theorem Rel.of_w {V' : View} {w' : World} {s' : AState} (hr : Rel V a w s) (hV : V.Le V') (h : RelW V' w' s') (he : s'.env = s.env) (hn : s'.n = s.n) : Rel V' a w' s' :=
  ⟨h.hb, h.bel, h.inv, by rw [hn]; exact hr.size, hr.defers, fun t => by rw [he]; exact (hr.env t).mono hV⟩

theorem dst_lt {n : Nat} (h : dstOK n o = true) : ∀ d, o.dst = some d → d < n := by
  intro d hd
  simpa [dstOK, hd] using h

theorem exec_call {f : Operand} {args : Array Operand} {ts : Array Nat} {g : Nat} (hop : o.op = .call { callee := .value f, args := args, argTypes := ts }) (hf : a.eval f = .func (.func g) #[] #[]) (hg : FnOK P g) :
    (execOp a.eval o).run P w = .ok (.enter g (args.map a.eval)) w := by
  obtain ⟨fn, h1, h2, h3⟩ := hg
  have hb : fn.body.isNone = false := by cases hh : fn.body <;> simp [hh] at h2 ⊢
  simp only [execOp, hop, resolve, hf, Deferred.ofValue, invoke, callFunc, Sem.run_bind, Sem.run_pure, Result.andThen_ok, run_program]
  simp [h1, h3, hb]

theorem xop_sound (hC : CfgOK P C) (hr : Rel V a w s) (hok : operOK o = true) (hd : dstOK s.n o = true) (hg : ∀ g args s K, CallK P g args s K → FnOK P g) {K : AState → Prop} {K' : Act → World → Prop} {Q : Exit → Act → World → Prop}
    (h : xop P C o K s) (hK : ∀ V' a' w' s', V.Le V' → Below V.base w w' → Rel V' a' w' s' → s'.n = s.n → s'.b = s.b → K s' → K' a' w') : o.wp P a w K' Q := by
  have hk : ∀ x ∈ o.op.operands.toList, opndOK x = true := List.all_eq_true.1 hok
  unfold xop at h
  split at h
  · rename_i f args ts hop
    split at h
    case h_2 => cases h
    rename_i g hev
    have hrf := ev_rep hr f (hk f (by simp [hop, Op.operands, Call.operands]))
    rw [hev] at hrf
    generalize hvf : a.eval f = vf at hrf
    cases hrf
    have hfn := hg _ _ _ _ h
    unfold Oper.wp
    rw [exec_call hop hvf hfn, Oper.upon_enter]
    have hcall := h.2 V w (args.map a.eval) hr.hb hr.inv hr.bel (by simp) (fun i hi => by
      simp only [List.length_map, Array.length_toList] at hi
      have hm : args[i] ∈ args.toList := by simp
      have := ev_rep hr args[i] (hk _ (by simp only [hop, Op.operands, Call.operands]; simp))
      simpa [List.getD_eq_getElem?_getD, hi] using this)
    refine hcall.mono fun e w' he => ?_
    obtain ⟨V', v, r, s', h1, h2, rfl, h4, h5, h6, h7, h8, h9, h10, h11⟩ := he
    have hrel : Rel V' a w' s' := hr.of_w h1 ⟨h7, h6, h5⟩ h8 h9
    exact hK V' _ w' _ h1 h2 (hrel.put h4 (fun d hd' => by rw [h9]; exact dst_lt hd d hd')) (by rw [← h9]; cases o.dst <;> rfl) (by rw [← h10]; cases o.dst <;> rfl) h11
  · split at h
    case h_2 => cases h
    rename_i c v s' heff
    obtain ⟨hc, hKs⟩ := h
    obtain ⟨nx, w', V', g1, g2, g3, g4, g5, g6, g7, g8⟩ := eff_sound hC hr heff hc hok
    have hrel : Rel V' a w' s' := hr.of_w g2 g4 g5 g6
    unfold Oper.wp
    rw [g1]
    have hn : ∀ x, (s'.put o.dst x).n = s.n := fun x => by rw [← g6]; cases o.dst <;> rfl
    have hbb : ∀ x, (s'.put o.dst x).b = s.b := fun x => by rw [← g7]; cases o.dst <;> rfl
    rcases g8 with ⟨u, rfl, hu⟩ | ⟨rfl, hv⟩
    · rw [Oper.upon_value]
      exact hK V' _ w' _ g2 g3 (hrel.put hu (fun d hd' => by rw [g6]; exact dst_lt hd d hd')) (hn _) (hbb _) hKs
    · rw [Oper.upon_skip]
      simp only at hv
      subst hv
      exact hK V' _ w' _ g2 g3 (hrel.put (.any _) (fun d hd' => by rw [g6]; exact dst_lt hd d hd')) (hn _) (hbb _) hKs

theorem rep_undef (V : View) : Rep V undef (.tup []) := .tup #[] [] rfl fun i hi => absurd hi (by simp)

theorem xguard_sound (hC : CfgOK P C) (hr : Rel V a w s) {ops : Array Oper} {i : Nat} (hi : ops[i]? = some o) (hok : operOK o = true) (hd : dstOK s.n o = true) (hg : ∀ g args s K, CallK P g args s K → FnOK P g) {K : AState → Prop} {K' : Act → World → Prop} {Q : Exit → Act → World → Prop}
    (h : xguard P C ops o K s) (hK : ∀ V' a' w' s', V.Le V' → Below V.base w w' → Rel V' a' w' s' → s'.n = s.n → s'.b = s.b → K s' → K' a' w') : wpOp P ops Q i K' a w := by
  have hwant : ∀ t want b, guardOf ops o = some (some t, want) → s.env t = .bool b → Region.wanted o (yielded ops a.tmps) = (b == want) := by
    intro t want b h1 h2
    unfold guardOf at h1
    cases hgd : o.guard with
    | none => rw [hgd] at h1; simp at h1
    | some gw =>
      obtain ⟨j, wt⟩ := gw
      rw [hgd] at h1
      simp only [Option.map_some, Option.some.injEq, Prod.mk.injEq] at h1
      obtain ⟨h3, rfl⟩ := h1
      have h4 := hr.env t
      rw [h2] at h4
      generalize hv : a.tmps.getD t undef = v at h4
      cases h4
      have h5 : a.tmps[t]? = some (.bool b) := by
        rw [Array.getD_eq_getD_getElem?] at hv
        cases ht : a.tmps[t]? with
        | none => rw [ht] at hv; simp [undef] at hv
        | some y => rw [ht] at hv; simp at hv; rw [hv]
      simp only [Region.wanted, hgd, yielded, h3, Option.bind_some, h5]
      cases b <;> cases wt <;> rfl
  have hskip : ∀ t want, guardOf ops o = some (some t, want) → s.env t = .tup [] → Region.wanted o (yielded ops a.tmps) = false := by
    intro t want h1 h2
    unfold guardOf at h1
    cases hgd : o.guard with
    | none => rw [hgd] at h1; simp at h1
    | some gw =>
      obtain ⟨j, wt⟩ := gw
      rw [hgd] at h1
      simp only [Option.map_some, Option.some.injEq, Prod.mk.injEq] at h1
      obtain ⟨h3, rfl⟩ := h1
      have h4 := hr.env t
      rw [h2] at h4
      generalize hv : a.tmps.getD t undef = v at h4
      cases h4
      rename_i cs hl hh
      have h5 : a.tmps[t]? = some (.tuple cs) ∨ a.tmps[t]? = none := by
        rw [Array.getD_eq_getD_getElem?] at hv
        cases ht : a.tmps[t]? with
        | none => exact .inr rfl
        | some y => rw [ht] at hv; simp at hv; rw [hv]; exact .inl rfl
      simp only [Region.wanted, hgd, yielded, h3, Option.bind_some]
      rcases h5 with h5 | h5 <;> simp [h5]
  unfold wpOp
  simp only [hi]
  unfold xguard at h
  split at h
  · rename_i hgd
    have hno : o.guard = none := by
      unfold guardOf at hgd
      simpa using hgd
    rw [if_pos (by simp [Region.wanted, hno])]
    exact .inl (xop_sound hC hr hok hd hg h hK)
  · rename_i t want hgd
    split at h
    case h_3 => cases h
    · rename_i b hev
      have hw := hwant t want b hgd hev
      split at h
      · rename_i hbw
        rw [if_pos (by rw [hw]; simp [hbw])]
        exact .inl (xop_sound hC hr hok hd hg h hK)
      · rename_i hbw
        rw [if_neg (by rw [hw]; simp [hbw])]
        exact hK V _ w _ (.refl V) (.refl _ _) (hr.put (rep_undef V) (fun d hd' => dst_lt hd d hd')) (by cases o.dst <;> rfl) (by cases o.dst <;> rfl) h
    · rename_i hev
      rw [if_neg (by rw [hskip t want hgd hev]; simp)]
      exact hK V _ w _ (.refl V) (.refl _ _) (hr.put (rep_undef V) (fun d hd' => dst_lt hd d hd')) (by cases o.dst <;> rfl) (by cases o.dst <;> rfl) h
  · cases h

theorem xops_sound (hC : CfgOK P C) {ops : Array Oper} (hg : ∀ g args s K, CallK P g args s K → FnOK P g) {n : Nat} (hok : ∀ o ∈ ops.toList, operOK o = true ∧ dstOK n o = true) {Q : Exit → AState → Prop} {V0 : View} {w0 : World} {b : Nat} :
    ∀ (l : List Nat) {V : View} {a : Act} {w : World} {s : AState}, s.n = n → s.b = b → Rel V a w s → V0.LeB b V → Below V0.base w0 w → xops P C ops (l.filterMap (ops[·]?)) (Q .normal) s → wpOps P ops (Post V0 w0 n b Q) l a w
  | [], V, a, w, s, hn, hb, hr, hV, hB, h => ⟨V, s, hV, hB, hr, hn, hb, h⟩
  | i :: l, V, a, w, s, hn, hb, hr, hV, hB, h => by
    rw [wpOps_cons]
    cases hi : ops[i]? with
    | none =>
      unfold wpOp
      simp only [hi]
      rw [List.filterMap_cons, hi] at h
      exact xops_sound hC hg hok l hn hb hr hV hB h
    | some o =>
      rw [List.filterMap_cons, hi] at h
      simp only [xops] at h
      have ho := hok o (Array.mem_toList_iff.2 (Array.mem_of_getElem? hi))
      refine xguard_sound hC hr hi ho.1 (by rw [hn]; exact ho.2) hg h fun V' a' w' s' h1 h2 h3 h4 h4b h5 => ?_
      exact xops_sound hC hg hok l (by rw [h4, hn]) (by rw [h4b, hb]) h3 (hV.trans (h1.toB b)) (hB.trans (by rw [← hV.base]; exact h2)) h5

theorem filterMap_range {α : Type} (ops : Array α) : (List.range ops.size).filterMap (ops[·]?) = ops.toList := by
  apply List.ext_getElem?
  intro i
  have key : ∀ n, n ≤ ops.size → (List.range n).filterMap (ops[·]?) = ops.toList.take n := by
    intro n
    induction n with
    | zero => intro _; simp
    | succ n ih =>
      intro hn
      rw [List.range_succ, List.filterMap_append, ih (by omega)]
      have : ops[n]? = some ops[n] := Array.getElem?_eq_getElem (by omega)
      rw [List.filterMap_cons, this]
      simp only [List.filterMap_nil]
      rw [List.take_add_one]
      simp [show n < ops.size by omega]
  rw [key ops.size (Nat.le_refl _), List.take_of_length_le (by simp)]

end
end Go.Ab

/- The executor on code, and calls by abstract values. Condition: the executor's table of types is the program's; the constants are of their types. -/
set_option linter.unusedSimpArgs false
namespace Go.Ab
open Go.RowKit (Below)

/- Views cut off at an object's number. -/

def View.cut (V : View) (m : Nat) : View := { V with loc := fun r n => if r < m then V.loc r n else none }

theorem belL_get {m : Nat} {l : List AV} (h : AV.belL m l = true) (i : Nat) : (l.getD i .any).bel m = true := by
  by_cases hi : i < l.length
  · rw [getD_lt _ hi]; exact (belL_iff m l).1 h _ (List.getElem_mem hi)
  · simp [List.getD_eq_getElem?_getD, List.getElem?_eq_none (Nat.le_of_not_lt hi), AV.bel]

theorem Rep.cut {V : View} {v : Value} {a : AV} (h : Rep V v a) {m : Nat} (hb : a.bel m = true) : Rep (V.cut m) v a := by
  have hloc : ∀ {r n x}, V.loc r n = some x → r < m → (V.cut m).loc r n = some x := fun {r n x} h1 h2 => by simp [View.cut, h2, h1]
  induction h with
  | any v => exact .any v
  | int k n h1 h2 => exact .int k n h1 h2
  | bool b => exact .bool b
  | str s h => exact .str s h
  | nilp => exact .nilp
  | agg cs as hl _ ih => exact .agg cs as hl fun i hi => ih i hi (belL_get hb i)
  | tup cs as hl _ ih => exact .tup cs as hl fun i hi => ih i hi (belL_get hb i)
  | sl bse len cap es tok size b o val hl hc hm hb' hs hi _ ht hf ih =>
    simp only [AV.bel, Bool.and_eq_true] at hb
    refine .sl bse len cap es tok size b o val hl hc hm hb' hs hi (fun i j hi' hj => ih i j hi' hj (belL_get (cellsOf_bel (belL_get hb.1 i)) j)) (fun r hr => ?_) hf
    obtain ⟨blk, h1, h2⟩ := ht r hr
    subst hr
    exact ⟨blk, hloc h1 (by simpa using hb.2), h2⟩
  | eptr e off b o val hi _ ih => exact .eptr e off b o val hi fun j hj => ih j hj (belL_get hb j)
  | bptr r off b c h => exact .bptr r off b c (hloc h (by simpa [AV.bel] using hb))
  | ms r ver len blk cap h hc hm hn => exact .ms r ver len blk cap (hloc h (by simpa [AV.bel] using hb)) hc hm hn
  | aptr r ver size i off b cap h => exact .aptr r ver size i off b cap (hloc h (by simpa [AV.bel] using hb))
  | mp r b c h => exact .mp r b c (hloc h (by simpa [AV.bel] using hb))
  | nilm => exact .nilm
  | fn f => exact .fn f
  | clo f cs as hl _ ih => exact .clo f cs as hl fun i hi => ih i hi (belL_get hb i)
  | yld r b c h => exact .yld r b c (hloc h (by simpa [AV.bel] using hb))
  | nilf => exact .nilf

theorem Rep.belOf {V : View} {v : Value} {a : AV} (h : Rep V v a) {m : Nat} (hd : ∀ r n x, V.loc r n = some x → r < m) : a.bel m = true := by
  induction h with
  | agg cs as hl _ ih =>
    simp only [AV.bel]; rw [belL_iff]; intro x hx
    obtain ⟨i, hi, rfl⟩ := List.mem_iff_getElem.1 hx
    have := ih i hi
    rwa [getD_lt _ hi] at this
  | tup cs as hl _ ih =>
    simp only [AV.bel]; rw [belL_iff]; intro x hx
    obtain ⟨i, hi, rfl⟩ := List.mem_iff_getElem.1 hx
    have := ih i hi
    rwa [getD_lt _ hi] at this
  | sl bse len cap es tok size b o val hl hc hm hb' hs hi _ ht hf ih =>
    simp only [AV.bel, Bool.and_eq_true]
    refine ⟨?_, ?_⟩
    · rw [belL_iff]; intro x hx
      obtain ⟨i, hi', rfl⟩ := List.mem_iff_getElem.1 hx
      have h1 := hs i (by omega)
      have h2 := fun j hj => ih i j (by omega) hj
      rw [getD_lt _ hi'] at h1 h2
      generalize es[i] = x at h1 h2
      cases x with
      | agg cs =>
        simp only [cellsOf] at h1 h2
        simp only [AV.bel]; rw [belL_iff]; intro y hy
        obtain ⟨j, hj, rfl⟩ := List.mem_iff_getElem.1 hy
        have := h2 j (by omega)
        rwa [getD_lt _ hj] at this
      | _ =>
        simp only [cellsOf, List.length_cons, List.length_nil, Nat.zero_add] at h1 h2
        have := h2 0 (by omega)
        simpa using this
    · cases tok with
      | own r => obtain ⟨blk, h1, _⟩ := ht r rfl; simpa using hd _ _ _ h1
      | _ => rfl
  | eptr e off b o val hi _ ih =>
    simp only [AV.bel]; rw [belL_iff]; intro x hx
    obtain ⟨i, hi', rfl⟩ := List.mem_iff_getElem.1 hx
    have := ih i hi'
    rwa [getD_lt _ hi'] at this
  | bptr r off b c h => simpa [AV.bel] using hd _ _ _ h
  | ms r ver len blk cap h hc hm hn => simpa [AV.bel] using hd _ _ _ h
  | aptr r ver size i off b cap h => simpa [AV.bel] using hd _ _ _ h
  | mp r b c h => simpa [AV.bel] using hd _ _ _ h
  | clo f cs as hl _ ih =>
    simp only [AV.bel]; rw [belL_iff]; intro x hx
    obtain ⟨i, hi, rfl⟩ := List.mem_iff_getElem.1 hx
    have := ih i hi
    rwa [getD_lt _ hi] at this
  | yld r b c h => simpa [AV.bel] using hd _ _ _ h
  | _ => rfl

theorem RepMap.cut {V : View} {en : List MapEntry} {es : List (AV × AV)} (h : RepMap V en es) {m : Nat} (hb : (AObj.map es).bel m = true) : RepMap (V.cut m) en es := by
  simp only [AObj.bel, Bool.and_eq_true, belL_iff, List.mem_map, forall_exists_index, and_imp, forall_apply_eq_imp_iff₂] at hb
  exact ⟨h.1, fun i hi e p he hp => by
    have hm := List.mem_of_getElem? hp
    exact ⟨(h.2 i hi e p he hp).1.cut (hb.1 p hm), (h.2 i hi e p he hp).2.cut (hb.2 p hm)⟩⟩

theorem ObjOK.cut {V : View} {w : World} {r : Nat} {x : AObj} (h : ObjOK V w r x) {m : Nat} (hr : r < m) (hb : x.bel m = true) : ObjOK (V.cut m) w r x ∧ own (V.cut m) r x = own V r x := by
  have hloc : ∀ n, (V.cut m).loc r n = V.loc r n := fun n => by simp [View.cut, hr]
  cases x with
  | box cs =>
    obtain ⟨b, c, cells, ty, h1, h2, h3, h4, h5, h6⟩ := h
    exact ⟨⟨b, c, cells, ty, by rw [hloc]; exact h1, h2, h3, h4, fun i hi => (h5 i hi).cut (belL_get hb i), h6⟩, by simp [own, hloc]⟩
  | tok n size =>
    obtain ⟨blk, cap, h1, h2, h3, h4, h5⟩ := h
    exact ⟨⟨blk, cap, by rw [hloc]; exact h1, fun m hm => by rw [hloc]; exact h2 m hm, h3, h4, h5⟩, by simp [own, hloc]⟩
  | arr ver size es =>
    obtain ⟨blk, cap, h1, h2, h3, h4, hsz, h5⟩ := h
    refine ⟨⟨blk, cap, by rw [hloc]; exact h1, fun m hm => by rw [hloc]; exact h2 m hm, h3, h4, hsz, ?_⟩, by simp [own, hloc]⟩
    cases blk with
    | none => exact h5
    | some b =>
      obtain ⟨h6, cells, ty, h7, h8, h9, h10⟩ := h5
      exact ⟨h6, cells, ty, h7, h8, fun i j hi hj => (h9 i j hi hj).cut (belL_get (cellsOf_bel (belL_get hb i)) j), h10⟩
  | map es =>
    obtain ⟨b, c, entries, clock, h1, h2, h3, h4, h6⟩ := h
    exact ⟨⟨b, c, entries, clock, by rw [hloc]; exact h1, h2, h3, h4.cut hb, h6⟩, by simp [own, hloc]⟩
  | raw ob =>
    obtain ⟨b, c, h1, h2, h3, h6⟩ := h
    exact ⟨⟨b, c, by rw [hloc]; exact h1, h2, h3, h6⟩, by simp [own, hloc]⟩
  | lp d env st pend =>
    obtain ⟨b, c, tmps, db, h1, h2, h3, h4, h5, h6⟩ := h
    exact ⟨⟨b, c, tmps, db, by rw [hloc]; exact h1, h2, h3, h4, fun i hi => (h5 i hi).cut (belL_get hb i), h6⟩, by simp [own, hloc]⟩
  | dead => exact ⟨fun n => by rw [hloc]; exact h n, rfl⟩

theorem Inv.cut {V : View} {w : World} {obj obj' : Nat → Option AObj} (h : Inv V obj w) {m : Nat} (hlt : ∀ r, r < m → obj' r = obj r) (hge : ∀ r, ¬ r < m → obj' r = none) (hb : ∀ r x, r < m → obj r = some x → x.bel m = true) : Inv (V.cut m) obj' w := by
  refine ⟨h.base, h.imm, fun r n x hx => ?_, fun r x hx => ?_, fun r r' x x' b h1 h2 h3 h4 => ?_⟩
  · by_cases hr : r < m
    · rw [hlt r hr]; exact h.dom r n x (by simpa [View.cut, hr] using hx)
    · simp [View.cut, hr] at hx
  · by_cases hr : r < m
    · rw [hlt r hr] at hx; exact ((h.objs r x hx).cut hr (hb r x hr hx)).1
    · rw [hge r hr] at hx; cases hx
  · by_cases hr : r < m
    · by_cases hr' : r' < m
      · rw [hlt r hr] at h1
        rw [hlt r' hr'] at h2
        rw [((h.objs r x h1).cut hr (hb r x hr h1)).2] at h3
        rw [((h.objs r' x' h2).cut hr' (hb r' x' hr' h2)).2] at h4
        exact h.sep r r' x x' b h1 h2 h3 h4
      · rw [hge r' hr'] at h2; cases h2
    · rw [hge r hr] at h1; cases h1

theorem ObjOK.belOf {V : View} {w : World} {r : Nat} {x : AObj} (h : ObjOK V w r x) {m : Nat} (hd : ∀ r n y, V.loc r n = some y → r < m) : x.bel m = true := by
  cases x with
  | box cs =>
    obtain ⟨b, c, cells, ty, h1, h2, h3, h4, h5, h6⟩ := h
    simp only [AObj.bel]; rw [belL_iff]; intro y hy
    obtain ⟨i, hi, rfl⟩ := List.mem_iff_getElem.1 hy
    have := (h5 i hi).belOf hd
    rwa [getD_lt _ hi] at this
  | tok n size => rfl
  | arr ver size es =>
    obtain ⟨blk, cap, h1, h2, h3, h4, hsz, h5⟩ := h
    simp only [AObj.bel]; rw [belL_iff]; intro y hy
    obtain ⟨i, hi, rfl⟩ := List.mem_iff_getElem.1 hy
    cases blk with
    | none => simp only at h5; omega
    | some b =>
      obtain ⟨h6, cells, ty, h7, h8, h9, h10⟩ := h5
      have e1 := hsz i hi
      have e2 := fun j hj => (h9 i j hi hj).belOf hd
      rw [getD_lt _ hi] at e1 e2
      generalize es[i] = x at e1 e2
      cases x with
      | agg cs =>
        simp only [cellsOf] at e1 e2
        simp only [AV.bel]; rw [belL_iff]; intro y hy
        obtain ⟨j, hj, rfl⟩ := List.mem_iff_getElem.1 hy
        have := e2 j (by omega)
        rwa [getD_lt _ hj] at this
      | _ =>
        simp only [cellsOf, List.length_cons, List.length_nil, Nat.zero_add] at e1 e2
        have := e2 0 (by omega)
        simpa using this
  | map es =>
    obtain ⟨b, c, entries, clock, h1, h2, h3, h4, h6⟩ := h
    simp only [AObj.bel, Bool.and_eq_true, belL_iff, List.mem_map, forall_exists_index, and_imp, forall_apply_eq_imp_iff₂]
    have key : ∀ p ∈ es, p.1.bel m = true ∧ p.2.bel m = true := by
      intro p hp
      obtain ⟨i, hi, rfl⟩ := List.mem_iff_getElem.1 hp
      have hi' : i < entries.toList.length := by rw [h4.1]; exact hi
      have := h4.2 i hi _ _ (List.getElem?_eq_getElem hi') (List.getElem?_eq_getElem hi)
      exact ⟨this.1.belOf hd, this.2.belOf hd⟩
    exact ⟨fun p hp => (key p hp).1, fun p hp => (key p hp).2⟩
  | raw _ => rfl
  | lp d env st pend =>
    obtain ⟨b, c, tmps, db, h1, h2, h3, h4, h5, h6⟩ := h
    simp only [AObj.bel]; rw [belL_iff]; intro y hy
    obtain ⟨i, hi, rfl⟩ := List.mem_iff_getElem.1 hy
    have := (h5 i hi).belOf hd
    rwa [getD_lt _ hi] at this
  | dead => rfl

end Go.Ab

/- The executor on code, and calls by abstract values: rules. Condition: the executor's table of types is the program's; the constants are of their types. -/
set_option linter.unusedSimpArgs false
namespace Go.Ab
open Go.RowKit (Below)

def cutNormal (K : Exit → AState → Prop) (next : AState → Prop) : Exit → AState → Prop
  | .normal, s => next s
  | e, s => K e s

def inBlk (id : Nat) (K : Exit → AState → Prop) : Exit → AState → Prop
  | .exit i, s => if i = id then K .normal s else K (.exit i) s
  | e, s => K e s

def noG (K : Exit → AState → Prop) : Exit → AState → Prop
  | .goto _, _ => False
  | e, s => K e s

def ALoop (P : Program) (b : Code) (Q : Exit → AState → Prop) (s : AState) : Prop :=
  ∀ V a w, Rel V a w s → ∀ bf k cs, ∃ e a' w', (∃ V' s', V.LeB s.b V' ∧ Below V.base w w' ∧ Rel V' a' w' s' ∧ s'.n = s.n ∧ s'.b = s.b ∧ Q e s') ∧
    Arrives P (lone (bf.at a (.code b :: .inLoop b :: k)) cs w) bf k cs e a' w'

def X (P : Program) (C : Cfg) : Code → (Exit → AState → Prop) → AState → Prop
  | .skip, K, s => K .normal s
  | .region _ ops false, K, s => xops P C ops ops.toList (K .normal) s
  | .seq x y, K, s => X P C x (cutNormal K (X P C y K)) s
  | .cond c x y, K, s => match s.ev c with
    | .bool t => if t = true then X P C x K s else X P C y K s
    | _ => False
  | .block id b, K, s => X P C b (inBlk id K) s
  | .loop b, K, s => ALoop P b K s
  | .exit id, K, s => K (.exit id) s
  | .ret, K, s => K .ret s
  | .scope b, K, s => X P C b (noG K) s
  | .label _, K, s => K .normal s
  | c, K, s => AWp P c K s

def codeOK (n : Nat) : Code → Bool
  | .region _ ops _ => ops.toList.all fun o => operOK o && dstOK n o
  | .seq x y => codeOK n x && codeOK n y
  | .cond c x y => opndOK c && codeOK n x && codeOK n y
  | .block _ b => codeOK n b
  | .scope b => codeOK n b
  | _ => true

section
variable {P : Program} {C : Cfg} {s : AState}

theorem AWp.mono {c : Code} {Q Q' : Exit → AState → Prop} (h : AWp P c Q s) (hq : ∀ e s', s'.n = s.n → s'.b = s.b → Q e s' → Q' e s') : AWp P c Q' s :=
  fun V a w hr => wp_mono (h V a w hr) fun _ _ _ ⟨V', s', h1, h2, h3, h4, h4b, h5⟩ => ⟨V', s', h1, h2, h3, h4, h4b, hq _ _ h4 h4b h5⟩

theorem awp_seq {x y : Code} {Q : Exit → AState → Prop} (h : AWp P x (cutNormal Q fun s' => AWp P y Q s') s) : AWp P (.seq x y) Q s := by
  intro V a w hr
  refine wp_seq (wp_mono (h V a w hr) fun e a' w' => ?_)
  rintro ⟨V', s', h1, h2, h3, h4, h4b, h5⟩
  cases e with
  | normal =>
    refine wp_mono (h5 V' a' w' h3) fun e a'' w'' => ?_
    rintro ⟨V'', s'', g1, g2, g3, g4, g4b, g5⟩
    exact ⟨V'', s'', h1.trans (by rw [← h4b]; exact g1), h2.trans (by rw [← h1.base]; exact g2), g3, g4.trans h4, g4b.trans h4b, g5⟩
  | _ => exact ⟨V', s', h1, h2, h3, h4, h4b, h5⟩

theorem awp_cond {c : Operand} {x y : Code} {t : Bool} {Q : Exit → AState → Prop} (hc : s.ev c = .bool t) (hk : opndOK c = true) (h : AWp P (if t = true then x else y) Q s) : AWp P (.cond c x y) Q s := by
  intro V a w hr
  have hrc := ev_rep hr c hk
  rw [hc] at hrc
  generalize hv : a.eval c = v at hrc
  cases hrc
  exact wp_cond hv (h V a w hr)

theorem awp_block {id : Nat} {b : Code} {Q : Exit → AState → Prop} (h : AWp P b (inBlk id Q) s) : AWp P (.block id b) Q s := by
  intro V a w hr
  refine wp_block (wp_mono (h V a w hr) fun e a' w' => ?_)
  rintro ⟨V', s', h1, h2, h3, h4, h4b, h5⟩
  cases e with
  | exit i =>
    simp only [Exit.inBlock]
    simp only [inBlk] at h5
    split
    · rename_i hi; rw [if_pos hi] at h5; exact ⟨V', s', h1, h2, h3, h4, h4b, h5⟩
    · rename_i hi; rw [if_neg hi] at h5; exact ⟨V', s', h1, h2, h3, h4, h4b, h5⟩
  | _ => exact ⟨V', s', h1, h2, h3, h4, h4b, h5⟩

theorem awp_loop {b : Code} {Q : Exit → AState → Prop} (h : ALoop P b Q s) : AWp P (.loop b) Q s := by
  intro V a w hr bf k cs
  obtain ⟨e, a', w', hp, harr⟩ := h V a w hr bf k cs
  exact ⟨e, a', w', hp, .of_steps (.one step_loop) harr⟩

theorem aloop_round {b : Code} {Q : Exit → AState → Prop} (h : AWp P b (cutNormal Q (ALoop P b Q)) s) : ALoop P b Q s := by
  intro V a w hr bf k cs
  obtain ⟨e, a₁, w₁, ⟨V', s', h1, h2, h3, h4, h4b, h5⟩, harr⟩ := h V a w hr bf (.inLoop b :: k) cs
  cases e with
  | normal =>
    obtain ⟨e₂, a₂, w₂, ⟨V'', s'', g1, g2, g3, g4, g4b, g5⟩, harr₂⟩ := h5 V' a₁ w₁ h3 bf k cs
    exact ⟨e₂, a₂, w₂, ⟨V'', s'', h1.trans (by rw [← h4b]; exact g1), h2.trans (by rw [← h1.base]; exact g2), g3, g4.trans h4, g4b.trans h4b, g5⟩, .of_steps (Steps.trans harr (.one step_inLoop)) harr₂⟩
  | exit id => exact ⟨_, a₁, w₁, ⟨V', s', h1, h2, h3, h4, h4b, h5⟩, .pass (x := .inLoop b) rfl (fun _ _ => .inl (by simp)) harr⟩
  | goto l => exact ⟨_, a₁, w₁, ⟨V', s', h1, h2, h3, h4, h4b, h5⟩, .pass (x := .inLoop b) rfl (fun _ _ => .inl (by simp)) harr⟩
  | ret => exact ⟨_, a₁, w₁, ⟨V', s', h1, h2, h3, h4, h4b, h5⟩, .pass (x := .inLoop b) rfl (fun _ _ => .inl (by simp)) harr⟩
  | panic ch => exact ⟨_, a₁, w₁, ⟨V', s', h1, h2, h3, h4, h4b, h5⟩, .pass (x := .inLoop b) rfl (fun _ _ => .inl (by simp)) harr⟩
  | outgrown => exact ⟨_, a₁, w₁, ⟨V', s', h1, h2, h3, h4, h4b, h5⟩, .pass (x := .inLoop b) rfl (fun _ _ => .inl (by simp)) harr⟩

theorem awp_scope {b : Code} {Q : Exit → AState → Prop} (h : AWp P b (noG Q) s) : AWp P (.scope b) Q s := by
  intro V a w hr
  refine wp_scope_straight (wp_mono (h V a w hr) fun e a' w' => ?_)
  rintro ⟨V', s', h1, h2, h3, h4, h4b, h5⟩
  cases e with
  | goto l => exact h5.elim
  | _ => exact ⟨V', s', h1, h2, h3, h4, h4b, h5⟩

theorem X_sound (hC : CfgOK P C) (hg : ∀ g args s K, CallK P g args s K → FnOK P g) (n : Nat) : ∀ (c : Code) {K : Exit → AState → Prop} {s : AState}, codeOK n c = true → s.n = n → X P C c K s → AWp P c K s
  | .skip, K, s, _, hn, h => fun V a w hr => wp_skip ⟨V, s, .refl _ V, .refl _ _, hr, rfl, rfl, h⟩
  | .region id ops false, K, s, hok, hn, h => by
    intro V a w hr
    simp only [codeOK, List.all_eq_true, Bool.and_eq_true] at hok
    simp only [X] at h
    refine wp_region ?_
    rw [hn]
    refine xops_sound hC hg hok (List.range ops.size) (V0 := V) (w0 := w) hn rfl hr (.refl _ V) (.refl _ _) ?_
    rw [filterMap_range]; exact h
  | .region id ops true, K, s, hok, hn, h => by simpa [X] using h
  | .seq x y, K, s, hok, hn, h => by
    simp only [codeOK, Bool.and_eq_true] at hok
    simp only [X] at h
    refine awp_seq ((X_sound hC hg n x hok.1 hn h).mono fun e s' hs' _ hq => ?_)
    cases e with
    | normal => exact X_sound hC hg n y hok.2 (hs'.trans hn) hq
    | _ => exact hq
  | .cond c x y, K, s, hok, hn, h => by
    simp only [codeOK, Bool.and_eq_true] at hok
    simp only [X] at h
    split at h
    · rename_i t hev
      refine awp_cond hev hok.1.1 ?_
      split at h
      · rename_i ht; rw [if_pos ht]; exact X_sound hC hg n x hok.1.2 hn h
      · rename_i ht; rw [if_neg ht]; exact X_sound hC hg n y hok.2 hn h
    · cases h
  | .block id b, K, s, hok, hn, h => by
    simp only [codeOK] at hok
    simp only [X] at h
    exact awp_block (X_sound hC hg n b hok hn h)
  | .loop b, K, s, _, _, h => awp_loop h
  | .exit id, K, s, _, hn, h => fun V a w hr => wp_exit ⟨V, s, .refl _ V, .refl _ _, hr, rfl, rfl, h⟩
  | .ret, K, s, _, hn, h => fun V a w hr => wp_ret ⟨V, s, .refl _ V, .refl _ _, hr, rfl, rfl, h⟩
  | .rangeFunc _ _ _ _, K, s, _, _, h => h
  | .scope b, K, s, hok, hn, h => by
    simp only [codeOK] at hok
    simp only [X] at h
    exact awp_scope (X_sound hC hg n b hok hn h)
  | .label l, K, s, _, hn, h => fun V a w hr => wp_label ⟨V, s, .refl _ V, .refl _ _, hr, rfl, rfl, h⟩
  | .goto _, K, s, _, _, h => h
  | .refuse _, K, s, _, _, h => h

structure Weak (s s' : AState) : Prop where
  n : s'.n = s.n
  b : s'.b = s.b
  H : s'.H = s.H
  L : s'.L = s.L.take s'.L.length
  env : ∀ t, s'.env t = .any ∨ s'.env t = s.env t ∨ s'.env t = (s.env t).norm
  below : s'.L.length = s.L.length ∨ ((∀ t, (s'.env t).bel (s.b + s'.L.length) = true) ∧ ∀ x ∈ s'.L, x.bel (s.b + s'.L.length) = true)

mutual
theorem bel_mono {m m' : Nat} (h : m ≤ m') : ∀ a : AV, a.bel m = true → a.bel m' = true
  | .any, _ => rfl
  | .int _ _, _ => rfl
  | .bool _, _ => rfl
  | .str _, _ => rfl
  | .nilp, _ => rfl
  | .agg cs, k => belL_mono h cs k
  | .tup cs, k => belL_mono h cs k
  | .sl es t, k => by
    simp only [AV.bel, Bool.and_eq_true] at k ⊢
    refine ⟨belL_mono h es k.1, ?_⟩
    cases t with
    | own r => have := k.2; simp at this ⊢; omega
    | _ => rfl
  | .eptr e _, k => belL_mono h e k
  | .bptr r _, k => by simp [AV.bel] at k ⊢; omega
  | .ms r _ _, k => by simp [AV.bel] at k ⊢; omega
  | .aptr r _ _ _ _, k => by simp [AV.bel] at k ⊢; omega
  | .mp r, k => by simp [AV.bel] at k ⊢; omega
  | .nilm, _ => rfl
  | .fn _, _ => rfl
  | .clo _ cs, k => belL_mono h cs k
  | .yld r, k => by simp [AV.bel] at k ⊢; omega
  | .nilf, _ => rfl
theorem belL_mono {m m' : Nat} (h : m ≤ m') : ∀ l : List AV, AV.belL m l = true → AV.belL m' l = true
  | [], _ => rfl
  | a :: as, k => by
    simp only [AV.belL, Bool.and_eq_true] at k ⊢
    exact ⟨bel_mono h a k.1, belL_mono h as k.2⟩
end

theorem AObj.bel_mono {m m' : Nat} (h : m ≤ m') {x : AObj} (k : x.bel m = true) : x.bel m' = true := by
  cases x with
  | box cs => exact belL_mono h cs k
  | arr v z es => exact belL_mono h es k
  | lp d env st pend => exact belL_mono h env k
  | map es =>
    simp only [AObj.bel, Bool.and_eq_true] at k ⊢
    exact ⟨belL_mono h _ k.1, belL_mono h _ k.2⟩
  | _ => rfl

theorem Rel.weak {V : View} {a : Act} {w : World} {s s' : AState} (hr : Rel V a w s) (h : Weak s s') : ∃ V', V.LeB s.b V' ∧ Rel V' a w s' := by
  have hlen : s'.L.length ≤ s.L.length := by
    have := congrArg List.length h.L
    simp only [List.length_take] at this
    omega
  have hobj : ∀ r, r < s.b + s'.L.length → s'.obj r = s.obj r := by
    intro r hlt
    unfold AState.obj
    rw [h.b, h.H]
    split
    · rfl
    · rename_i hnb
      rw [h.L, List.getElem?_take, if_pos (by omega)]
  have hnone : ∀ r, ¬ r < s.b + s'.L.length → s'.obj r = none := by
    intro r hlt
    unfold AState.obj
    rw [h.b, if_neg (by omega)]
    exact List.getElem?_eq_none (by omega)
  rcases h.below with heq | ⟨henv, hL⟩
  · have hsame : s'.obj = s.obj := by
      funext r
      by_cases hlt : r < s.b + s'.L.length
      · exact hobj r hlt
      · rw [hnone r hlt]
        unfold AState.obj
        rw [if_neg (by omega)]
        exact (List.getElem?_eq_none (by omega)).symm
    refine ⟨V, .refl _ V, ⟨by rw [h.b, h.H]; exact hr.hb, by rw [h.b, h.H]; exact hr.bel, by rw [hsame]; exact hr.inv, by rw [h.n]; exact hr.size, hr.defers, fun t => ?_⟩⟩
    rcases h.env t with he | he | he <;> rw [he]
    · exact .any _
    · exact hr.env t
    · exact (hr.env t).normed
  · refine ⟨V.cut (s.b + s'.L.length), ⟨rfl, fun _ _ _ h => h, fun r n x hlt hx => by simp only [View.cut]; rw [if_pos (by omega)]; exact hx⟩,
      ⟨by rw [h.b, h.H]; exact hr.hb, by rw [h.b, h.H]; exact hr.bel, hr.inv.cut hobj hnone ?_, by rw [h.n]; exact hr.size, hr.defers, fun t => ?_⟩⟩
    · intro r x hlt hx
      by_cases hb : r < s.b
      · refine AObj.bel_mono (Nat.le_add_right _ _) (hr.bel x ?_)
        unfold AState.obj at hx
        rw [if_pos hb] at hx
        exact List.mem_of_getElem? hx
      · refine hL x ?_
        rw [← hobj r hlt] at hx
        unfold AState.obj at hx
        rw [h.b, if_neg hb] at hx
        exact List.mem_of_getElem? hx
    · have hb := henv t
      rcases h.env t with he | he | he <;> rw [he] at hb ⊢
      · exact .any _
      · exact (hr.env t).cut hb
      · exact (hr.env t).normed.cut hb

theorem AWp.weak {c : Code} {Q : Exit → AState → Prop} {s' : AState} (h : Weak s s') (k : AWp P c Q s') : AWp P c Q s := by
  intro V a w hr
  obtain ⟨V1, h1, hr1⟩ := hr.weak h
  refine wp_mono (k V1 a w hr1) fun e a' w' => ?_
  rintro ⟨V', s'', g1, g2, g3, g4, g5, g6⟩
  exact ⟨V', s'', h1.trans (by rw [← h.b]; exact g1), by rw [← h1.base]; exact g2, g3, g4.trans h.n, g5.trans h.b, g6⟩

theorem ALoop.weak {b : Code} {Q : Exit → AState → Prop} {s' : AState} (h : Weak s s') (k : ALoop P b Q s') : ALoop P b Q s := by
  intro V a w hr bf kk cs
  obtain ⟨V1, h1, hr1⟩ := hr.weak h
  obtain ⟨e, a', w', ⟨V', s'', g1, g2, g3, g4, g5, g6⟩, harr⟩ := k V1 a w hr1 bf kk cs
  exact ⟨e, a', w', ⟨V', s'', h1.trans (by rw [← h.b]; exact g1), by rw [← h1.base]; exact g2, g3, g4.trans h.n, g5.trans h.b, g6⟩, harr⟩

theorem aloop_inv {ι : Type} (S : ι → AState) (I : ι → Prop) (μ : ι → Nat) {b : Code} {Q : Exit → AState → Prop} (hC : CfgOK P C) (hg : ∀ g args s K, CallK P g args s K → FnOK P g)
    (x : ι) (hx : I x) (hs : Weak s (S x)) (hok : codeOK s.n b = true)
    (h : ∀ x, I x → X P C b (cutNormal Q fun s' => ∃ y, I y ∧ μ y < μ x ∧ Weak s' (S y)) (S x)) : ALoop P b Q s := by
  have key : ∀ m x, μ x = m → I x → (S x).n = s.n → ALoop P b Q (S x) := by
    intro m
    induction m using Nat.strongRecOn with
    | _ m ih =>
      intro x hm hx hn
      refine aloop_round ((X_sound hC hg s.n b hok hn (h x hx)).mono fun e s' hs' _ hq => ?_)
      cases e with
      | normal =>
        obtain ⟨y, hy1, hy2, hy3⟩ := hq
        exact ALoop.weak hy3 (ih (μ y) (by omega) y rfl hy1 (by rw [hy3.n, hs', hn]))
      | _ => exact hq
  exact ALoop.weak hs (key _ x rfl hx hs.n)

end
end Go.Ab

/- Calls by abstract values: how one is proved of a text, how one is used. Condition: the executor's table of types is the program's; the constants are of their types. -/
set_option linter.unusedSimpArgs false
namespace Go.Ab
open Go.RowKit (Below)

def ares1 (C : Cfg) (s : AState) : ResultVar → Option (Prop × AV)
  | .tmp t => some (True, s.env t)
  | .cell a t => match C.ty t, cellsAt s (s.env a) with
    | some l, some (cs, off, c) => some (c ∧ (partA l cs off).1, (partA l cs off).2)
    | _, _ => none

def aresL (C : Cfg) (s : AState) : List ResultVar → Option (Prop × List AV)
  | [] => some (True, [])
  | r :: rs => match ares1 C s r, aresL C s rs with
    | some (c, v), some (c', vs) => some (c ∧ c', v :: vs)
    | _, _ => none

def tupOf : List AV → AV
  | [v] => v
  | vs => .tup vs

def retK (C : Cfg) (rs : List ResultVar) (R : AV → List AObj → Prop) (e : Exit) (s : AState) : Prop :=
  (match e with | .normal | .ret => True | _ => False) ∧
  match aresL C s rs with
  | some (c, vs) => c ∧ (((tupOf vs).norm.bel s.b = true ∧ R (tupOf vs).norm s.H) ∨ ((tupOf vs).bel s.b = true ∧ R (tupOf vs) s.H))
  | none => False

def retE (C : Cfg) (rs : List ResultVar) (R : AV → List AObj → Prop) (e : Exit) (s : AState) : Prop :=
  (match e with | .normal | .ret => True | _ => False) ∧
  match aresL C s rs with
  | some (c, vs) => c ∧ R (tupOf vs) (s.H ++ s.L)
  | none => False

def initS (args : List AV) (H : List AObj) (n : Nat) : AState := { env := fun t => args.getD t .any, b := H.length, H := H, L := [], n := n }

def resRun (tmps : Array Value) : ResultVar → Sem Value
  | .tmp t => pure (tmps.getD t undef)
  | .cell a t => do loadVar t (← asAddr (tmps.getD a undef))

section
variable {P : Program} {C : Cfg} {s : AState}

theorem obj_heap {s : AState} (hb : s.b = s.H.length) : s.obj = heapObj (s.H ++ s.L) := by
  funext r
  unfold AState.obj heapObj
  rw [hb, List.getElem?_append]

theorem aresL_sound (hC : CfgOK P C) {V : View} {a : Act} {w : World} (hr : Rel V a w s) : ∀ (rs : List ResultVar) {c : Prop} {vs : List AV}, aresL C s rs = some (c, vs) → c →
    ∃ us : List Value, (List.mapM (resRun a.tmps) rs).run P w = .ok us w ∧ RepL V us vs
  | [], c, vs, h, _ => by
    simp only [aresL, Option.some.injEq, Prod.mk.injEq] at h
    obtain ⟨_, rfl⟩ := h
    exact ⟨[], rfl, .nil V⟩
  | r :: rs, c, vs, h, hc => by
    simp only [aresL] at h
    split at h
    case h_2 => cases h
    rename_i c1 v1 c2 vs2 h1 h2
    simp only [Option.some.injEq, Prod.mk.injEq] at h
    obtain ⟨hce, rfl⟩ := h
    rw [← hce] at hc
    obtain ⟨us, hus, hrep⟩ := aresL_sound hC hr rs h2 hc.2
    obtain ⟨u, hu, hur⟩ : ∃ u, (resRun a.tmps r).run P w = .ok u w ∧ Rep V u v1 := by
      cases r with
      | tmp t =>
        simp only [ares1, Option.some.injEq, Prod.mk.injEq] at h1
        obtain ⟨_, rfl⟩ := h1
        exact ⟨_, rfl, hr.env t⟩
      | cell x t =>
        simp only [ares1] at h1
        split at h1
        case h_2 => cases h1
        rename_i l cs off cc hT hcs
        simp only [Option.some.injEq, Prod.mk.injEq] at h1
        obtain ⟨hce1, rfl⟩ := h1
        have hc1 := hc.1
        rw [← hce1] at hc1
        obtain ⟨b, o, hv, hcell⟩ := cellsAt_sound hr.toW (hr.env x) hcs hc1.1
        obtain ⟨v, hv2, hrep2⟩ := run_loadAt (P := P) (hC _ _ hT) hcell hc1.2
        refine ⟨v, ?_, hrep2⟩
        simp only [Instr.loadAt, Instr.sureAddr, Sem.run_bind, Sem.run_pure, Result.andThen_ok] at hv2
        simp only [resRun, hv, asAddr, Sem.run_bind, Sem.run_pure, Result.andThen_ok, hv2]
    refine ⟨u :: us, ?_, .cons hur hrep⟩
    rw [List.mapM_cons]
    simp only [Sem.run_bind, Sem.run_pure]
    rw [hu]
    simp only [Result.andThen_ok]
    rw [hus]
    rfl

theorem results_sound (hC : CfgOK P C) {V : View} {a : Act} {w : World} (hr : Rel V a w s) {fn : Func} {c : Prop} {vs : List AV} (h : aresL C s fn.results.toList = some (c, vs)) (hc : c) :
    ∃ v, (results fn a.tmps).run P w = .ok v w ∧ Rep V v (tupOf vs) := by
  obtain ⟨us, h1, h2⟩ := aresL_sound hC hr _ h hc
  have hm : (fn.results.mapM (resRun a.tmps)).run P w = .ok us.toArray w := by
    rw [Array.mapM_eq_mapM_toList]
    simp only [Sem.run_map, h1, Result.andThen_ok]
  have hres : (results fn a.tmps).run P w = .ok (if h : us.toArray.size = 1 then us.toArray[0] else .tuple us.toArray) w := by
    have he : results fn a.tmps = (fn.results.mapM (resRun a.tmps) >>= fun vs => pure (if h : vs.size = 1 then vs[0] else .tuple vs)) := rfl
    rw [he, Sem.run_bind, hm]
    rfl
  refine ⟨_, hres, ?_⟩
  have hl := h2.1
  cases vs with
  | nil =>
    have : us = [] := List.eq_nil_of_length_eq_zero hl
    subst this
    exact RepL.tup (cs := #[]) (.nil V)
  | cons v vs =>
    cases vs with
    | nil =>
      obtain ⟨u, rfl⟩ := len1 hl
      have := h2.2 0 (by simp)
      simpa [tupOf] using this
    | cons v' vs =>
      have : ¬ us.toArray.size = 1 := by simp [hl]
      rw [dif_neg this]
      exact RepL.tup (by simpa using h2)

theorem init_rel {V : View} {w : World} {H : List AObj} {args : List AV} {vs : Array Value} {n : Nat} (hI : Inv V (heapObj H) w) (hb : ∀ x ∈ H, x.bel H.length = true) (hl : vs.size = args.length)
    (ha : ∀ i, i < args.length → Rep V (vs.getD i undef) (args.getD i .any)) (hn : args.length ≤ n) :
    Rel V { tmps := vs ++ Array.replicate (n - vs.size) undef, defers := [] } w (initS args H n) := by
  refine ⟨rfl, hb, ?_, by simp [initS]; omega, rfl, fun t => ?_⟩
  · rw [obj_heap rfl]; simpa [initS] using hI
  · simp only [initS]
    by_cases ht : t < args.length
    · have := ha t ht
      simpa [Array.getElem?_append, hl, ht] using this
    · have : args.getD t .any = .any := by simp [List.getD_eq_getElem?_getD, List.getElem?_eq_none (Nat.le_of_not_lt ht)]
      rw [this]; exact .any _

theorem acalls (hC : CfgOK P C) {f : Nat} {fn : Func} {c : Code} {args : List AV} {H : List AObj} {R : AV → List AObj → Prop} (hf : P.funcs[f]? = some fn) (hb : fn.body = some c) (hname : (fn.name == "runtime.NumGoroutine") = false)
    (hn : args.length ≤ fn.ntmps) (hok : codeOK fn.ntmps c = true) (h : X P C c (retK C fn.results.toList R) (initS args H fn.ntmps)) : ACalls P f args H R := by
  refine ⟨⟨fn, hf, by simp [hb], hname⟩, fun V w vs hI hbel hl ha => ?_⟩
  have hrel := init_rel (n := fn.ntmps) hI hbel hl ha hn
  have hX := X_sound hC callK_fn fn.ntmps c hok rfl h V _ w hrel
  refine calls_of_wp hf hb (wp_mono hX fun e a' w' => ?_)
  rintro ⟨V', s', h1, h2, h3, h4, h5, h6⟩
  obtain ⟨he, h7⟩ := h6
  have hsb : s'.b = H.length := h5
  have hVdom : ∀ r n x, V.loc r n = some x → r < H.length := fun r n x hx => by
    have := hI.dom r n x hx
    unfold heapObj at this
    rcases Nat.lt_or_ge r H.length with h | h
    · exact h
    · rw [List.getElem?_eq_none h] at this; simp at this
  split at h7
  case h_2 => exact h7.elim
  rename_i cc vvs hares
  obtain ⟨hcc, h8⟩ := h7
  obtain ⟨v, hv, hrep⟩ := results_sound hC h3 hares hcc
  have hHl : s'.H.length = H.length := by rw [← h3.hb]; exact hsb
  have hIc : Inv (V'.cut s'.b) (heapObj s'.H) w' := by
    refine h3.inv.cut (fun r hr => ?_) (fun r hr => ?_) (fun r x hr hx => ?_)
    · unfold heapObj AState.obj; rw [if_pos hr]
    · unfold heapObj; exact List.getElem?_eq_none (by rw [← h3.hb]; omega)
    · unfold AState.obj at hx; rw [if_pos hr] at hx; exact h3.bel x (List.mem_of_getElem? hx)
  have hle : V.Le (V'.cut s'.b) := ⟨h1.base, h1.imm, fun r n x hx => by
    have := hVdom r n x hx
    simp only [View.cut]; rw [if_pos (by omega)]; exact h1.loc r n x this hx⟩
  have hgoal : a'.defers = [] ∧ ∃ v, (results fn a'.tmps).run P w' = .ok v w' ∧ ∃ V'' v' r H', V.Le V'' ∧ Below V.base w w' ∧ Ending.returned v = .returned v' ∧ Rep V'' v' r ∧ Inv V'' (heapObj H') w' ∧ H.length ≤ H'.length ∧ R r H' := by
    refine ⟨h3.defers, v, hv, V'.cut s'.b, v, ?_⟩
    rcases h8 with ⟨h9, h10⟩ | ⟨h9, h10⟩
    · exact ⟨_, s'.H, hle, h2, rfl, hrep.normed.cut h9, hIc, by omega, h10⟩
    · exact ⟨_, s'.H, hle, h2, rfl, hrep.cut h9, hIc, by omega, h10⟩
  cases e with
  | normal => exact hgoal
  | ret => exact hgoal
  | exit id => exact he.elim
  | goto l => exact he.elim
  | panic ch => exact he.elim
  | outgrown => exact he.elim

theorem acalls_esc (hC : CfgOK P C) {f : Nat} {fn : Func} {c : Code} {args : List AV} {H : List AObj} {R : AV → List AObj → Prop} (hf : P.funcs[f]? = some fn) (hb : fn.body = some c) (hname : (fn.name == "runtime.NumGoroutine") = false)
    (hn : args.length ≤ fn.ntmps) (hok : codeOK fn.ntmps c = true) (h : X P C c (retE C fn.results.toList R) (initS args H fn.ntmps)) : ACalls P f args H R := by
  refine ⟨⟨fn, hf, by simp [hb], hname⟩, fun V w vs hI hbel hl ha => ?_⟩
  have hrel := init_rel (n := fn.ntmps) hI hbel hl ha hn
  have hX := X_sound hC callK_fn fn.ntmps c hok rfl h V _ w hrel
  refine calls_of_wp hf hb (wp_mono hX fun e a' w' => ?_)
  rintro ⟨V', s', h1, h2, h3, h4, h5, h6⟩
  obtain ⟨he, h7⟩ := h6
  have hVdom : ∀ r n x, V.loc r n = some x → r < H.length := fun r n x hx => by
    have := hI.dom r n x hx
    unfold heapObj at this
    rcases Nat.lt_or_ge r H.length with h | h
    · exact h
    · rw [List.getElem?_eq_none h] at this; simp at this
  split at h7
  case h_2 => exact h7.elim
  rename_i cc vvs hares
  obtain ⟨hcc, h8⟩ := h7
  obtain ⟨v, hv, hrep⟩ := results_sound hC h3 hares hcc
  have hHl : s'.H.length = H.length := by rw [← h3.hb]; exact h5
  have hle : V.Le V' := ⟨h1.base, h1.imm, fun r n x hx => h1.loc r n x (hVdom r n x hx) hx⟩
  have hgoal : a'.defers = [] ∧ ∃ v, (results fn a'.tmps).run P w' = .ok v w' ∧ ∃ V'' v' r H', V.Le V'' ∧ Below V.base w w' ∧ Ending.returned v = .returned v' ∧ Rep V'' v' r ∧ Inv V'' (heapObj H') w' ∧ H.length ≤ H'.length ∧ R r H' :=
    ⟨h3.defers, v, hv, V', v, _, s'.H ++ s'.L, hle, h2, rfl, hrep, by rw [← obj_heap h3.hb]; exact h3.inv, by simp; omega, h8⟩
  cases e with
  | normal => exact hgoal
  | ret => exact hgoal
  | exit id => exact he.elim
  | goto l => exact he.elim
  | panic ch => exact he.elim
  | outgrown => exact he.elim

theorem ACalls.mono {f : Nat} {args : List AV} {H : List AObj} {R R' : AV → List AObj → Prop} (h : ACalls P f args H R) (hr : ∀ r H', R r H' → R' r H') : ACalls P f args H R' :=
  ⟨h.1, fun V w vs h1 h2 h3 h4 => (h.2 V w vs h1 h2 h3 h4).mono fun _ _ ⟨V', v, r, H', g1, g2, g3, g4, g5, g6, g7⟩ => ⟨V', v, r, H', g1, g2, g3, g4, g5, g6, hr _ _ g7⟩⟩

theorem pcalls {f : Nat} {args : List AV} {r : AV} (hr : r.bel 0 = true) (h : ∀ H, ACalls P f args H fun r' H' => r' = r ∧ H' = H) : PCalls P f args r := ⟨hr, h⟩

theorem heap_bel {V : View} {w : World} (hI : Inv V s.obj w) (hb : s.b = s.H.length) : ∀ x ∈ s.H ++ s.L, x.bel (s.H ++ s.L).length = true := by
  intro x hx
  obtain ⟨r, hr, rfl⟩ := List.mem_iff_getElem.1 hx
  have ho : s.obj r = some (s.H ++ s.L)[r] := by rw [obj_heap hb]; exact List.getElem?_eq_getElem hr
  refine (hI.objs r _ ho).belOf fun q n y hy => ?_
  have := hI.dom q n y hy
  rw [obj_heap hb] at this
  unfold heapObj at this
  rcases Nat.lt_or_ge q (s.H ++ s.L).length with h | h
  · exact h
  · rw [List.getElem?_eq_none h] at this; simp at this

theorem callK_of {f : Nat} {args args' : List AV} {K : AV → AState → Prop} {R : AV → List AObj → Prop} (h : ACalls P f args' (s.H ++ s.L) R) (ha : ∀ i, args'.getD i .any = args.getD i .any ∨ args'.getD i .any = (args.getD i .any).norm) (hl : args'.length = args.length)
    (hK : ∀ r H'', R r H'' → s.H.length ≤ H''.length → (∀ x ∈ H''.take s.b, x.bel s.b = true) ∧ K r { s with H := H''.take s.b, L := H''.drop s.b }) : CallK P f args s K := by
  refine ⟨h.1, fun V w vs hb hI hbel hvl hva => ?_⟩
  have hI' : Inv V (heapObj (s.H ++ s.L)) w := by rw [← obj_heap hb]; exact hI
  refine (h.2 V w vs hI' (heap_bel hI hb) (by rw [hvl, hl]) (fun i hi => ?_)).mono fun e w' he => ?_
  · rw [hl] at hi
    rcases ha i with e | e <;> rw [e]
    · exact hva i hi
    · exact (hva i hi).normed
  · obtain ⟨V', v, r, H'', g1, g2, g3, g4, g5, g6, g7⟩ := he
    have hlen : s.H.length ≤ H''.length := by simp at g6; omega
    obtain ⟨k1, k2⟩ := hK r H'' g7 hlen
    refine ⟨V', v, r, { s with H := H''.take s.b, L := H''.drop s.b }, g1, g2, g3, g4, ?_, k1, by simp; omega, rfl, rfl, rfl, k2⟩
    have hb' : ({ s with H := H''.take s.b, L := H''.drop s.b } : AState).b = ({ s with H := H''.take s.b, L := H''.drop s.b } : AState).H.length := by simp; omega
    rw [obj_heap hb']
    simpa using g5

theorem callK_p {f : Nat} {args args' : List AV} {K : AV → AState → Prop} {r : AV} (h : PCalls P f args' r) (ha : args' = args ∨ args' = AV.normL args) (hK : K r s) : CallK P f args s K := by
  refine ⟨(h.2 []).1, fun V w vs hb hI hbel hvl hva => ?_⟩
  have hI' : Inv V (heapObj (s.H ++ s.L)) w := by rw [← obj_heap hb]; exact hI
  have hl : args'.length = args.length := by rcases ha with rfl | rfl; rfl; exact normL_length _
  refine ((h.2 (s.H ++ s.L)).2 V w vs hI' (heap_bel hI hb) (by rw [hvl, hl]) (fun i hi => ?_)).mono fun e w' he => ?_
  · rw [hl] at hi
    rcases ha with rfl | rfl
    · exact hva i hi
    · rw [normL_getD]; exact (hva i hi).normed
  · obtain ⟨V', v, r', H'', g1, g2, g3, g4, g5, g6, rfl, rfl⟩ := he
    exact ⟨V', v, r', s, g1, g2, g3, g4, by rw [obj_heap hb]; exact g5, hbel, hb, rfl, rfl, rfl, hK⟩

end
end Go.Ab

/- The table of types: checked by computation. No condition. -/
set_option linter.unusedSimpArgs false
namespace Go.Ab

def avEq1 : AV → AV → Bool
  | .int k n, .int k' n' => decide (k = k') && decide (n = n')
  | .bool b, .bool b' => decide (b = b')
  | .str a, .str b => decide (a = b)
  | .nilp, .nilp => true
  | .nilm, .nilm => true
  | .nilf, .nilf => true
  | .sl [] .full, .sl [] .full => true
  | _, _ => false

theorem avEq1_sound {a b : AV} (h : avEq1 a b = true) : a = b := by
  unfold avEq1 at h
  split at h <;> simp_all

def avEqL : List AV → List AV → Bool
  | [], [] => true
  | a :: as, b :: bs => avEq1 a b && avEqL as bs
  | _, _ => false

theorem avEqL_sound : ∀ {as bs : List AV}, avEqL as bs = true → as = bs
  | [], [], _ => rfl
  | a :: as, b :: bs, h => by
    simp only [avEqL, Bool.and_eq_true] at h
    rw [avEq1_sound h.1, avEqL_sound h.2]
  | [], _ :: _, h => by simp [avEqL] at h
  | _ :: _, [], h => by simp [avEqL] at h

def avEq : AV → AV → Bool
  | .agg as, .agg bs => avEqL as bs
  | a, b => avEq1 a b

theorem avEq_sound {a b : AV} (h : avEq a b = true) : a = b := by
  unfold avEq at h
  split at h
  · rw [avEqL_sound h]
  · exact avEq1_sound h

def descCheck : TypeDesc → TD → Bool
  | .struct f, .st fs => decide (f.toList.map (fun x => (x.offset, x.type)) = fs)
  | .array n e, .arr n' e' => n == n' && e == e'
  | .struct _, _ => false
  | .array _ _, _ => false
  | .int k, .int k' => decide (k = k')
  | .bool, .bool => true
  | .string, .str => true
  | .slice e, .sl e' => e == e'
  | .map k e, .map k' e' => k == k' && e == e'
  | .pointer _, .ptr => true
  | _, .other => true
  | _, _ => false

theorem descCheck_sound {d : TypeDesc} {t : TD} (h : descCheck d t = true) : DescOK d t := by
  unfold descCheck at h
  split at h <;> simp_all [DescOK]

def twoCheck (P : Program) (t : Nat) : Bool := match P.underlying t with
  | some (.struct fs) => match fs.toList with
    | [f, g] => f.offset == 0 && g.offset == 1 && f.name != "_" && g.name != "_" && (match P.underlying f.type with | some (.int .i64) => true | _ => false) && (match P.underlying g.type with | some (.int .i64) => true | _ => false) && !P.stoodInHeld t
    | _ => false
  | _ => false

theorem twoCheck_sound {P : Program} {t : Nat} (h : twoCheck P t = true) : TwoInts P t := by
  unfold twoCheck at h
  split at h
  case h_2 => cases h
  rename_i fs hu
  split at h
  case h_2 => cases h
  rename_i f g hfs
  obtain rfl : fs = #[f, g] := Array.toList_inj.1 hfs
  simp only [Bool.and_eq_true, beq_iff_eq, bne_iff_ne, ne_eq, Bool.not_eq_true'] at h
  obtain ⟨⟨⟨⟨⟨⟨h1, h2⟩, h3⟩, h4⟩, h5⟩, h6⟩, h7⟩ := h
  refine ⟨f, g, hu, h1, h2, h3, h4, ?_, ?_, h7⟩
  · split at h5
    · assumption
    · cases h5
  · split at h6
    · assumption
    · cases h6

def tyCheck (P : Program) (t : Nat) (l : TL) : Bool :=
  (!l.two || twoCheck P t) && match P.info? t, P.underlying t with
  | some i, some d => i.size == l.size && i.bytes == l.bytes && (match i.zero with | some z => valOK z && avEq (ofVal z) l.zero | none => false) && descCheck d l.d && l.zero.solid && (cellsOf l.zero).length == l.size && decide (0 < l.size)
  | _, _ => false

theorem tyCheck_sound {P : Program} {t : Nat} {l : TL} (h : tyCheck P t l = true) : TyOK P t l := by
  unfold tyCheck at h
  rw [Bool.and_eq_true] at h
  obtain ⟨h0, h⟩ := h
  have h0 : l.two = true → TwoInts P t := fun e => twoCheck_sound (by simpa [e] using h0)
  split at h
  · rename_i i d hi hd
    simp only [Bool.and_eq_true, beq_iff_eq, decide_eq_true_eq] at h
    obtain ⟨⟨⟨⟨⟨⟨h1, h2⟩, h3⟩, h4⟩, h5⟩, h6⟩, h7⟩ := h
    split at h3
    · rename_i z hz
      simp only [Bool.and_eq_true] at h3
      exact ⟨⟨i, z, hi, h1, h2, hz, h3.1, avEq_sound h3.2⟩, ⟨d, hd, descCheck_sound h4⟩, h5, h6, h7, h0⟩
    · cases h3
  · cases h

def tyOf : List (Nat × TL) → Nat → Option TL
  | [], _ => none
  | (k, l) :: r, t => if t = k then some l else tyOf r t

def tabCheck (P : Program) : List (Nat × TL) → Bool
  | [] => true
  | (k, l) :: r => tyCheck P k l && tabCheck P r

theorem tab_ok {P : Program} : ∀ {tab : List (Nat × TL)}, tabCheck P tab = true → ∀ t l, tyOf tab t = some l → TyOK P t l
  | [], _, t, l, h => by simp [tyOf] at h
  | (k, l') :: r, hc, t, l, h => by
    simp only [tabCheck, Bool.and_eq_true] at hc
    simp only [tyOf] at h
    split at h
    · rename_i hk; subst hk; cases h; exact tyCheck_sound hc.1
    · exact tab_ok hc.2 t l h

theorem upd_eq (e : Nat → AV) (d : Nat) (v : AV) (t : Nat) : upd e d v t = if t = d then v else e t := rfl

theorem obj_loc (e : Nat → AV) (b : Nat) (H L : List AObj) (n k : Nat) : (AState.mk e b H L n).obj (b + k) = L[k]? := by
  unfold AState.obj; rw [if_neg (show ¬ b + k < b by omega), show b + k - b = k by omega]
theorem setObj_loc (e : Nat → AV) (b : Nat) (H L : List AObj) (n k : Nat) (x : AObj) : (AState.mk e b H L n).setObj (b + k) x = AState.mk e b H (L.set k x) n := by
  unfold AState.setObj; rw [if_neg (show ¬ b + k < b by omega), show b + k - b = k by omega]
theorem obj_loc0 (e : Nat → AV) (b : Nat) (H L : List AObj) (n : Nat) : (AState.mk e b H L n).obj b = L[0]? := obj_loc e b H L n 0
theorem setObj_loc0 (e : Nat → AV) (b : Nat) (H L : List AObj) (n : Nat) (x : AObj) : (AState.mk e b H L n).setObj b x = AState.mk e b H (L.set 0 x) n := setObj_loc e b H L n 0 x

end Go.Ab

/- The executor, step by step, the rest of the text as data. No condition. -/
set_option linter.unusedSimpArgs false
namespace Go.Ab
open Go.RowKit (Below)

inductive KI where
  | code (c : Code)
  | blk (id : Nat)
  | chk (p : AState → Prop)
  | scp

def Un (P : Program) (C : Cfg) (K : Exit → AState → Prop) : List KI → Exit → AState → Prop
  | [], e, s => K e s
  | .code c :: k, e, s => cutNormal (Un P C K k) (X P C c (Un P C K k)) e s
  | .blk id :: k, e, s => inBlk id (Un P C K k) e s
  | .chk p :: k, e, s => (e = .normal → p s) ∧ Un P C K k e s
  | .scp :: k, e, s => noG (Un P C K k) e s

def Go (P : Program) (C : Cfg) (K : Exit → AState → Prop) (k : List KI) (s : AState) : Prop := Un P C K k .normal s

def GoO (P : Program) (C : Cfg) (K : Exit → AState → Prop) (ops : Array Oper) (todo : List Oper) (k : List KI) (s : AState) : Prop := xops P C ops todo (Go P C K k) s

section
variable {P : Program} {C : Cfg} {K : Exit → AState → Prop} {k : List KI} {s : AState}

def GoCall (P : Program) (C : Cfg) (K : Exit → AState → Prop) (f : Nat) (args : List AV) (dst : Option Tmp) (ops : Array Oper) (todo : List Oper) (k : List KI) (s : AState) : Prop :=
  CallK P f args s fun r s' => GoO P C K ops todo k (s'.put dst r)

def GoX (P : Program) (C : Cfg) (K : Exit → AState → Prop) (ops : Array Oper) (o : Oper) (todo : List Oper) (k : List KI) (s : AState) : Prop := xop P C o (GoO P C K ops todo k) s

def GoGb (P : Program) (C : Cfg) (K : Exit → AState → Prop) (b want : Bool) (ops : Array Oper) (o : Oper) (todo : List Oper) (k : List KI) (s : AState) : Prop :=
  if b = want then GoX P C K ops o todo k s else GoO P C K ops todo k (s.put o.dst (.tup []))

def GoGv (P : Program) (C : Cfg) (K : Exit → AState → Prop) (v : AV) (want : Bool) (ops : Array Oper) (o : Oper) (todo : List Oper) (k : List KI) (s : AState) : Prop :=
  match v with
  | .bool b => GoGb P C K b want ops o todo k s
  | .tup [] => GoO P C K ops todo k (s.put o.dst (.tup []))
  | _ => False
def GoG (P : Program) (C : Cfg) (K : Exit → AState → Prop) (g : Option (Option Tmp × Bool)) (ops : Array Oper) (o : Oper) (todo : List Oper) (k : List KI) (s : AState) : Prop :=
  match g with
  | none => GoX P C K ops o todo k s
  | some (some t, want) => match s.env t with
    | .bool b => GoGb P C K b want ops o todo k s
    | .tup [] => GoO P C K ops todo k (s.put o.dst (.tup []))
    | _ => False
  | some (none, _) => False

def GoIf (P : Program) (C : Cfg) (K : Exit → AState → Prop) (b : Bool) (x y : Code) (k : List KI) (s : AState) : Prop :=
  if b = true then Go P C K (.code x :: k) s else Go P C K (.code y :: k) s

theorem go_nil : Go P C K [] s = K .normal s := rfl
theorem go_blk (id : Nat) : Go P C K (.blk id :: k) s = Go P C K k s := rfl
theorem go_chk (p : AState → Prop) : Go P C K (.chk p :: k) s = (p s ∧ Go P C K k s) := by
  show ((Exit.normal = .normal → p s) ∧ _) = _
  simp only [true_implies]; rfl
theorem go_scope (b : Code) : Go P C K (.code (.scope b) :: k) s = Go P C K (.code b :: .scp :: k) s := rfl
theorem go_scp : Go P C K (.scp :: k) s = Go P C K k s := rfl
theorem go_label (l : Nat) : Go P C K (.code (.label l) :: k) s = Go P C K k s := rfl
theorem go_skip : Go P C K (.code .skip :: k) s = Go P C K k s := rfl
theorem go_seq (x y : Code) : Go P C K (.code (.seq x y) :: k) s = Go P C K (.code x :: .code y :: k) s := rfl
theorem go_block (id : Nat) (b : Code) : Go P C K (.code (.block id b) :: k) s = Go P C K (.code b :: .blk id :: k) s := rfl
theorem go_cond (c : Operand) (x y : Code) : Go P C K (.code (.cond c x y) :: k) s = match s.ev c with
    | .bool t => GoIf P C K t x y k s
    | _ => False := rfl
theorem goIf_true (x y : Code) : GoIf P C K true x y k s = Go P C K (.code x :: k) s := rfl
theorem goIf_false (x y : Code) : GoIf P C K false x y k s = Go P C K (.code y :: k) s := rfl
theorem goIf_not (b : Bool) (x y : Code) : GoIf P C K (!b) x y k s = GoIf P C K b y x k s := by cases b <;> rfl
theorem goIf_split {b : Bool} {x y : Code} (h : b = true → Go P C K (.code x :: k) s) (h' : b = false → Go P C K (.code y :: k) s) : GoIf P C K b x y k s := by
  cases b
  · exact h' rfl
  · exact h rfl
theorem go_exit (id : Nat) : Go P C K (.code (.exit id) :: k) s = Un P C K k (.exit id) s := rfl
theorem go_ret : Go P C K (.code .ret :: k) s = Un P C K k .ret s := rfl
theorem go_region (id : Nat) (ops : Array Oper) : Go P C K (.code (.region id ops false) :: k) s = GoO P C K ops ops.toList k s := rfl
theorem go_loop (b : Code) : Go P C K (.code (.loop b) :: k) s = ALoop P b (Un P C K k) s := rfl
theorem goO_nil (ops : Array Oper) : GoO P C K ops [] k s = Go P C K k s := rfl
theorem goO_cons (ops : Array Oper) (o : Oper) (r : List Oper) : GoO P C K ops (o :: r) k s = GoG P C K (guardOf ops o) ops o r k s := rfl
theorem goG_none (ops : Array Oper) (o : Oper) (r : List Oper) : GoG P C K none ops o r k s = GoX P C K ops o r k s := rfl
theorem goG_some (t : Nat) (want : Bool) (ops : Array Oper) (o : Oper) (r : List Oper) : GoG P C K (some (some t, want)) ops o r k s = GoGv P C K (s.env t) want ops o r k s := rfl
theorem goGv_bool (b want : Bool) (ops : Array Oper) (o : Oper) (r : List Oper) : GoGv P C K (.bool b) want ops o r k s = GoGb P C K b want ops o r k s := rfl
theorem goGv_skip (want : Bool) (ops : Array Oper) (o : Oper) (r : List Oper) : GoGv P C K (.tup []) want ops o r k s = GoO P C K ops r k (s.put o.dst (.tup [])) := rfl
theorem goGb_tt (ops : Array Oper) (o : Oper) (r : List Oper) : GoGb P C K true true ops o r k s = GoX P C K ops o r k s := rfl
theorem goGb_ff (ops : Array Oper) (o : Oper) (r : List Oper) : GoGb P C K false false ops o r k s = GoX P C K ops o r k s := rfl
theorem goGb_tf (ops : Array Oper) (o : Oper) (r : List Oper) : GoGb P C K true false ops o r k s = GoO P C K ops r k (s.put o.dst (.tup [])) := rfl
theorem goGb_ft (ops : Array Oper) (o : Oper) (r : List Oper) : GoGb P C K false true ops o r k s = GoO P C K ops r k (s.put o.dst (.tup [])) := rfl
theorem goGb_split {b want : Bool} {ops : Array Oper} {o : Oper} {r : List Oper} (h : b = true → GoGb P C K true want ops o r k s) (h' : b = false → GoGb P C K false want ops o r k s) : GoGb P C K b want ops o r k s := by
  cases b
  · exact h' rfl
  · exact h rfl
theorem goX_call (ops : Array Oper) (d : Option Tmp) (f : Operand) (args : Array Operand) (ts : Array Nat) (ty : Nat) (pos : String) (af : Array Edge) (g : Option (Nat × Bool)) (r : List Oper) :
    GoX P C K ops ⟨d, .call ⟨.value f, args, ts⟩, ty, pos, af, g⟩ r k s = match s.ev f with
      | .fn i => GoCall P C K i (args.toList.map s.ev) d ops r k s
      | _ => False := rfl
theorem goX_move (ops : Array Oper) (d : Option Tmp) (x : Operand) (ty : Nat) (pos : String) (af : Array Edge) (g : Option (Nat × Bool)) (r : List Oper) : GoX P C K ops ⟨d, .move x, ty, pos, af, g⟩ r k s = match eff C ⟨d, .move x, ty, pos, af, g⟩ s with
    | some ⟨c, v, s'⟩ => c ∧ GoO P C K ops r k (s'.put d v)
    | none => False := rfl
theorem goX_assign (ops : Array Oper) (d : Option Tmp) (x : Operand) (ty : Nat) (pos : String) (af : Array Edge) (g : Option (Nat × Bool)) (r : List Oper) : GoX P C K ops ⟨d, .assign x, ty, pos, af, g⟩ r k s = match eff C ⟨d, .assign x, ty, pos, af, g⟩ s with
    | some ⟨c, v, s'⟩ => c ∧ GoO P C K ops r k (s'.put d v)
    | none => False := rfl
theorem goX_pick (ops : Array Oper) (d : Option Tmp) (x y z : Operand) (ty : Nat) (pos : String) (af : Array Edge) (g : Option (Nat × Bool)) (r : List Oper) : GoX P C K ops ⟨d, .pick x y z, ty, pos, af, g⟩ r k s = match eff C ⟨d, .pick x y z, ty, pos, af, g⟩ s with
    | some ⟨c, v, s'⟩ => c ∧ GoO P C K ops r k (s'.put d v)
    | none => False := rfl
theorem goX_alloc (ops : Array Oper) (d : Option Tmp) (t : Nat) (ty : Nat) (pos : String) (af : Array Edge) (g : Option (Nat × Bool)) (r : List Oper) : GoX P C K ops ⟨d, .alloc t, ty, pos, af, g⟩ r k s = match eff C ⟨d, .alloc t, ty, pos, af, g⟩ s with
    | some ⟨c, v, s'⟩ => c ∧ GoO P C K ops r k (s'.put d v)
    | none => False := rfl
theorem goX_box (ops : Array Oper) (d : Option Tmp) (t : Nat) (x : Operand) (ty : Nat) (pos : String) (af : Array Edge) (g : Option (Nat × Bool)) (r : List Oper) : GoX P C K ops ⟨d, .box t x, ty, pos, af, g⟩ r k s = match eff C ⟨d, .box t x, ty, pos, af, g⟩ s with
    | some ⟨c, v, s'⟩ => c ∧ GoO P C K ops r k (s'.put d v)
    | none => False := rfl
theorem goX_load (ops : Array Oper) (d : Option Tmp) (t : Nat) (x : Operand) (ty : Nat) (pos : String) (af : Array Edge) (g : Option (Nat × Bool)) (r : List Oper) : GoX P C K ops ⟨d, .load t x, ty, pos, af, g⟩ r k s = match eff C ⟨d, .load t x, ty, pos, af, g⟩ s with
    | some ⟨c, v, s'⟩ => c ∧ GoO P C K ops r k (s'.put d v)
    | none => False := rfl
theorem goX_store (ops : Array Oper) (d : Option Tmp) (t : Nat) (x y : Operand) (ty : Nat) (pos : String) (af : Array Edge) (g : Option (Nat × Bool)) (r : List Oper) : GoX P C K ops ⟨d, .store t x y, ty, pos, af, g⟩ r k s = match eff C ⟨d, .store t x y, ty, pos, af, g⟩ s with
    | some ⟨c, v, s'⟩ => c ∧ GoO P C K ops r k (s'.put d v)
    | none => False := rfl
theorem goX_nilCheck (ops : Array Oper) (d : Option Tmp) (x : Operand) (ty : Nat) (pos : String) (af : Array Edge) (g : Option (Nat × Bool)) (r : List Oper) : GoX P C K ops ⟨d, .nilCheck x, ty, pos, af, g⟩ r k s = match eff C ⟨d, .nilCheck x, ty, pos, af, g⟩ s with
    | some ⟨c, v, s'⟩ => c ∧ GoO P C K ops r k (s'.put d v)
    | none => False := rfl
theorem goX_binOp (ops : Array Oper) (d : Option Tmp) (op : BinOp) (t u : Nat) (x y : Operand) (ty : Nat) (pos : String) (af : Array Edge) (g : Option (Nat × Bool)) (r : List Oper) : GoX P C K ops ⟨d, .binOp op t x y u, ty, pos, af, g⟩ r k s = match eff C ⟨d, .binOp op t x y u, ty, pos, af, g⟩ s with
    | some ⟨c, v, s'⟩ => c ∧ GoO P C K ops r k (s'.put d v)
    | none => False := rfl
theorem goX_unOp (ops : Array Oper) (d : Option Tmp) (op : UnOp) (t : Nat) (x : Operand) (ty : Nat) (pos : String) (af : Array Edge) (g : Option (Nat × Bool)) (r : List Oper) : GoX P C K ops ⟨d, .unOp op t x, ty, pos, af, g⟩ r k s = match eff C ⟨d, .unOp op t x, ty, pos, af, g⟩ s with
    | some ⟨c, v, s'⟩ => c ∧ GoO P C K ops r k (s'.put d v)
    | none => False := rfl
theorem goX_convert (ops : Array Oper) (d : Option Tmp) (t u : Nat) (x : Operand) (ty : Nat) (pos : String) (af : Array Edge) (g : Option (Nat × Bool)) (r : List Oper) : GoX P C K ops ⟨d, .convert t u x, ty, pos, af, g⟩ r k s = match eff C ⟨d, .convert t u x, ty, pos, af, g⟩ s with
    | some ⟨c, v, s'⟩ => c ∧ GoO P C K ops r k (s'.put d v)
    | none => False := rfl
theorem goX_fieldAddr (ops : Array Oper) (d : Option Tmp) (t f : Nat) (x : Operand) (ty : Nat) (pos : String) (af : Array Edge) (g : Option (Nat × Bool)) (r : List Oper) : GoX P C K ops ⟨d, .fieldAddr t x f, ty, pos, af, g⟩ r k s = match eff C ⟨d, .fieldAddr t x f, ty, pos, af, g⟩ s with
    | some ⟨c, v, s'⟩ => c ∧ GoO P C K ops r k (s'.put d v)
    | none => False := rfl
theorem goX_field (ops : Array Oper) (d : Option Tmp) (t f : Nat) (x : Operand) (ty : Nat) (pos : String) (af : Array Edge) (g : Option (Nat × Bool)) (r : List Oper) : GoX P C K ops ⟨d, .field t x f, ty, pos, af, g⟩ r k s = match eff C ⟨d, .field t x f, ty, pos, af, g⟩ s with
    | some ⟨c, v, s'⟩ => c ∧ GoO P C K ops r k (s'.put d v)
    | none => False := rfl
theorem goX_indexAddr (ops : Array Oper) (d : Option Tmp) (t : Nat) (x y : Operand) (ty : Nat) (pos : String) (af : Array Edge) (g : Option (Nat × Bool)) (r : List Oper) : GoX P C K ops ⟨d, .indexAddr t x y, ty, pos, af, g⟩ r k s = match eff C ⟨d, .indexAddr t x y, ty, pos, af, g⟩ s with
    | some ⟨c, v, s'⟩ => c ∧ GoO P C K ops r k (s'.put d v)
    | none => False := rfl
theorem goX_index (ops : Array Oper) (d : Option Tmp) (t : Nat) (x y : Operand) (ty : Nat) (pos : String) (af : Array Edge) (g : Option (Nat × Bool)) (r : List Oper) : GoX P C K ops ⟨d, .index t x y, ty, pos, af, g⟩ r k s = match eff C ⟨d, .index t x y, ty, pos, af, g⟩ s with
    | some ⟨c, v, s'⟩ => c ∧ GoO P C K ops r k (s'.put d v)
    | none => False := rfl
theorem goX_build (ops : Array Oper) (d : Option Tmp) (t : Nat) (ps : Array (Nat × Operand)) (ty : Nat) (pos : String) (af : Array Edge) (g : Option (Nat × Bool)) (r : List Oper) : GoX P C K ops ⟨d, .build t ps, ty, pos, af, g⟩ r k s = match eff C ⟨d, .build t ps, ty, pos, af, g⟩ s with
    | some ⟨c, v, s'⟩ => c ∧ GoO P C K ops r k (s'.put d v)
    | none => False := rfl
theorem goX_buildSlice (ops : Array Oper) (d : Option Tmp) (t n : Nat) (ps : Array (Nat × Operand)) (ty : Nat) (pos : String) (af : Array Edge) (g : Option (Nat × Bool)) (r : List Oper) : GoX P C K ops ⟨d, .buildSlice t n ps, ty, pos, af, g⟩ r k s = match eff C ⟨d, .buildSlice t n ps, ty, pos, af, g⟩ s with
    | some ⟨c, v, s'⟩ => c ∧ GoO P C K ops r k (s'.put d v)
    | none => False := rfl
theorem goX_makeSlice (ops : Array Oper) (d : Option Tmp) (t : Nat) (x y : Operand) (ty : Nat) (pos : String) (af : Array Edge) (g : Option (Nat × Bool)) (r : List Oper) : GoX P C K ops ⟨d, .makeSlice t x y, ty, pos, af, g⟩ r k s = match eff C ⟨d, .makeSlice t x y, ty, pos, af, g⟩ s with
    | some ⟨c, v, s'⟩ => c ∧ GoO P C K ops r k (s'.put d v)
    | none => False := rfl
theorem goX_slice (ops : Array Oper) (d : Option Tmp) (t : Nat) (x : Operand) (lo hi mx : Option Operand) (ty : Nat) (pos : String) (af : Array Edge) (g : Option (Nat × Bool)) (r : List Oper) : GoX P C K ops ⟨d, .slice t x lo hi mx, ty, pos, af, g⟩ r k s = match eff C ⟨d, .slice t x lo hi mx, ty, pos, af, g⟩ s with
    | some ⟨c, v, s'⟩ => c ∧ GoO P C K ops r k (s'.put d v)
    | none => False := rfl
theorem goX_makeFunc (ops : Array Oper) (d : Option Tmp) (f : Fn) (x y : Array Operand) (ty : Nat) (pos : String) (af : Array Edge) (g : Option (Nat × Bool)) (r : List Oper) : GoX P C K ops ⟨d, .makeFunc f x y, ty, pos, af, g⟩ r k s = match eff C ⟨d, .makeFunc f x y, ty, pos, af, g⟩ s with
    | some ⟨c, v, s'⟩ => c ∧ GoO P C K ops r k (s'.put d v)
    | none => False := rfl
theorem goX_extract (ops : Array Oper) (d : Option Tmp) (x : Operand) (i : Nat) (ty : Nat) (pos : String) (af : Array Edge) (g : Option (Nat × Bool)) (r : List Oper) : GoX P C K ops ⟨d, .extract x i, ty, pos, af, g⟩ r k s = match eff C ⟨d, .extract x i, ty, pos, af, g⟩ s with
    | some ⟨c, v, s'⟩ => c ∧ GoO P C K ops r k (s'.put d v)
    | none => False := rfl
theorem goX_makeMap (ops : Array Oper) (d : Option Tmp) (t : Nat) (q : Option Operand) (ty : Nat) (pos : String) (af : Array Edge) (g : Option (Nat × Bool)) (r : List Oper) : GoX P C K ops ⟨d, .makeMap t q, ty, pos, af, g⟩ r k s = match eff C ⟨d, .makeMap t q, ty, pos, af, g⟩ s with
    | some ⟨c, v, s'⟩ => c ∧ GoO P C K ops r k (s'.put d v)
    | none => False := rfl
theorem goX_lookup (ops : Array Oper) (d : Option Tmp) (t : Nat) (x y : Operand) (b : Bool) (ty : Nat) (pos : String) (af : Array Edge) (g : Option (Nat × Bool)) (r : List Oper) : GoX P C K ops ⟨d, .lookup t x y b, ty, pos, af, g⟩ r k s = match eff C ⟨d, .lookup t x y b, ty, pos, af, g⟩ s with
    | some ⟨c, v, s'⟩ => c ∧ GoO P C K ops r k (s'.put d v)
    | none => False := rfl
theorem goX_mapUpdate (ops : Array Oper) (d : Option Tmp) (t : Nat) (x y z : Operand) (ty : Nat) (pos : String) (af : Array Edge) (g : Option (Nat × Bool)) (r : List Oper) : GoX P C K ops ⟨d, .mapUpdate t x y z, ty, pos, af, g⟩ r k s = match eff C ⟨d, .mapUpdate t x y z, ty, pos, af, g⟩ s with
    | some ⟨c, v, s'⟩ => c ∧ GoO P C K ops r k (s'.put d v)
    | none => False := rfl
theorem goX_builtin (ops : Array Oper) (d : Option Tmp) (b : Builtin) (args : Array Operand) (ts : Array Nat) (ty : Nat) (pos : String) (af : Array Edge) (g : Option (Nat × Bool)) (r : List Oper) : GoX P C K ops ⟨d, .call ⟨.builtin b, args, ts⟩, ty, pos, af, g⟩ r k s = match eff C ⟨d, .call ⟨.builtin b, args, ts⟩, ty, pos, af, g⟩ s with
    | some ⟨c, v, s'⟩ => c ∧ GoO P C K ops r k (s'.put d v)
    | none => False := rfl
theorem goLoop {ι : Type} (S : ι → AState) (I : ι → Prop) (μ : ι → Nat) {b : Code} (hC : CfgOK P C) (x : ι) (hx : I x) (hs : Weak s (S x)) (hok : codeOK s.n b = true)
    (h : ∀ x, I x → Go P C (cutNormal (Un P C K k) fun s' => ∃ y, I y ∧ μ y < μ x ∧ Weak s' (S y)) [.code b] (S x)) : ALoop P b (Un P C K k) s :=
  aloop_inv S I μ hC callK_fn x hx hs hok h
theorem cutNormal_normal (next : AState → Prop) : cutNormal K next .normal s = next s := rfl
theorem cutNormal_ret (next : AState → Prop) : cutNormal K next .ret s = K .ret s := rfl
theorem cutNormal_exit (next : AState → Prop) (i : Nat) : cutNormal K next (.exit i) s = K (.exit i) s := rfl

theorem goCall_p {f : Nat} {args args' : List AV} {dst : Option Tmp} {ops : Array Oper} {todo : List Oper} {r : AV} (h : PCalls P f args' r) (ha : args' = args ∨ args' = AV.normL args) (hK : GoO P C K ops todo k (s.put dst r)) :
    GoCall P C K f args dst ops todo k s := callK_p h ha hK
theorem un_nil (e : Exit) : Un P C K [] e s = K e s := rfl
theorem un_exit_code (id : Nat) (c : Code) : Un P C K (.code c :: k) (.exit id) s = Un P C K k (.exit id) s := rfl
theorem un_exit_blk (id i : Nat) : Un P C K (.blk i :: k) (.exit id) s = if id = i then Go P C K k s else Un P C K k (.exit id) s := rfl
theorem un_ret_code (c : Code) : Un P C K (.code c :: k) .ret s = Un P C K k .ret s := rfl
theorem un_exit_scp (id : Nat) : Un P C K (.scp :: k) (.exit id) s = Un P C K k (.exit id) s := rfl
theorem un_ret_scp : Un P C K (.scp :: k) .ret s = Un P C K k .ret s := rfl
theorem un_ret_blk (i : Nat) : Un P C K (.blk i :: k) .ret s = Un P C K k .ret s := rfl
theorem un_normal : Un P C K k .normal s = Go P C K k s := rfl

theorem xops_mono {P : Program} {C : Cfg} {ops : Array Oper} : ∀ (l : List Oper) {K K' : AState → Prop} {s : AState}, (∀ s', K s' → K' s') → xops P C ops l K s → xops P C ops l K' s
  | [], K, K', s, hk, h => hk s h
  | o :: l, K, K', s, hk, h => by
    have hop : ∀ {s : AState}, xop P C o (xops P C ops l K) s → xop P C o (xops P C ops l K') s := by
      intro s h
      unfold xop at h ⊢
      split at h
      · split at h
        case h_2 => cases h
        exact ⟨h.1, fun V w vs h1 h2 h3 h4 h5 => (h.2 V w vs h1 h2 h3 h4 h5).mono fun _ _ ⟨V', v, r, s', g1, g2, g3, g4, g5, g6, g7, g8, g9, g10, g11⟩ =>
          ⟨V', v, r, s', g1, g2, g3, g4, g5, g6, g7, g8, g9, g10, xops_mono l hk g11⟩⟩
      · split at h
        case h_2 => cases h
        exact ⟨h.1, xops_mono l hk h.2⟩
    simp only [xops] at h ⊢
    unfold xguard at h ⊢
    split at h
    · exact hop h
    · split at h
      case h_3 => cases h
      · split at h
        · rename_i hb; rw [if_pos hb]; exact hop h
        · rename_i hb; rw [if_neg hb]; exact xops_mono l hk h
      · exact xops_mono l hk h
    · cases h

theorem X_mono {P : Program} {C : Cfg} : ∀ (c : Code) {K K' : Exit → AState → Prop} {s : AState}, (∀ e s', K e s' → K' e s') → X P C c K s → X P C c K' s
  | .skip, K, K', s, hk, h => hk _ _ h
  | .region _ ops false, K, K', s, hk, h => xops_mono _ (hk .normal) h
  | .region _ ops true, K, K', s, hk, h => by simp only [X] at h ⊢; exact h.mono fun e s' _ _ hq => hk _ _ hq
  | .seq x y, K, K', s, hk, h => X_mono x (fun e s' hq => by
      cases e with
      | normal => exact X_mono y hk hq
      | _ => exact hk _ _ hq) h
  | .cond c x y, K, K', s, hk, h => by
    simp only [X] at h ⊢
    split at h
    · split at h
      · rename_i ht; rw [if_pos ht]; exact X_mono x hk h
      · rename_i ht; rw [if_neg ht]; exact X_mono y hk h
    · cases h
  | .block id b, K, K', s, hk, h => X_mono b (fun e s' hq => by
      cases e with
      | exit i =>
        simp only [inBlk] at hq ⊢
        split
        · rename_i hi; rw [if_pos hi] at hq; exact hk _ _ hq
        · rename_i hi; rw [if_neg hi] at hq; exact hk _ _ hq
      | _ => exact hk _ _ hq) h
  | .loop b, K, K', s, hk, h => fun V a w hr bf k cs =>
    let ⟨e, a', w', ⟨V', s', g1, g2, g3, g4, g5, g6⟩, harr⟩ := h V a w hr bf k cs
    ⟨e, a', w', ⟨V', s', g1, g2, g3, g4, g5, hk _ _ g6⟩, harr⟩
  | .exit _, K, K', s, hk, h => hk _ _ h
  | .ret, K, K', s, hk, h => hk _ _ h
  | .rangeFunc _ _ _ _, K, K', s, hk, h => by simp only [X] at h ⊢; exact h.mono fun e s' _ _ hq => hk _ _ hq
  | .scope b, K, K', s, hk, h => X_mono b (fun e s' hq => by
      cases e with
      | goto l => exact hq.elim
      | _ => exact hk _ _ hq) h
  | .label _, K, K', s, hk, h => hk _ _ h
  | .goto _, K, K', s, hk, h => by simp only [X] at h ⊢; exact h.mono fun e s' _ _ hq => hk _ _ hq
  | .refuse _, K, K', s, hk, h => by simp only [X] at h ⊢; exact h.mono fun e s' _ _ hq => hk _ _ hq

theorem callK_congr {P : Program} {f f' : Nat} {args args' : List AV} {s s' : AState} {K : AV → AState → Prop} (h0 : f = f') (h1 : args = args') (h2 : s = s') : CallK P f args s K = CallK P f' args' s' K := by rw [h0, h1, h2]
theorem aloop_congr {P : Program} {b : Code} {K : Exit → AState → Prop} {s s' : AState} (h2 : s = s') : ALoop P b K s = ALoop P b K s' := by rw [h2]
attribute [congr] callK_congr aloop_congr

theorem cellsOf_agg (cs : List AV) : cellsOf (.agg cs) = cs := rfl
theorem cellsOf_int (k : IntKind) (n : Int) : cellsOf (.int k n) = [.int k n] := rfl
theorem cellsOf_bool (b : Bool) : cellsOf (.bool b) = [.bool b] := rfl
theorem cellsOf_str (b : ByteArray) : cellsOf (.str b) = [.str b] := rfl
theorem cellsOf_sl (es : List AV) (t : Tk) : cellsOf (.sl es t) = [.sl es t] := rfl
theorem cellsOf_ms (r v l : Nat) : cellsOf (.ms r v l) = [.ms r v l] := rfl
theorem cellsOf_bptr (r o : Nat) : cellsOf (.bptr r o) = [.bptr r o] := rfl
theorem cellsOf_mp (r : Nat) : cellsOf (.mp r) = [.mp r] := rfl
theorem cellsOf_nilp : cellsOf .nilp = [.nilp] := rfl
theorem cellsOf_nilm : cellsOf .nilm = [.nilm] := rfl
theorem cellsOf_fn (f : Nat) : cellsOf (.fn f) = [.fn f] := rfl
theorem solid_agg (cs : List AV) : (AV.agg cs).solid = cs.all AV.one := rfl
theorem solid_int (k : IntKind) (n : Int) : (AV.int k n).solid = true := rfl
theorem solid_bool (b : Bool) : (AV.bool b).solid = true := rfl
theorem solid_str (b : ByteArray) : (AV.str b).solid = true := rfl
theorem solid_sl (es : List AV) (t : Tk) : (AV.sl es t).solid = true := rfl
theorem solid_ms (r v l : Nat) : (AV.ms r v l).solid = true := rfl
theorem solid_bptr (r o : Nat) : (AV.bptr r o).solid = true := rfl
theorem solid_mp (r : Nat) : (AV.mp r).solid = true := rfl
theorem solid_nilp : AV.nilp.solid = true := rfl
theorem solid_fn (f : Nat) : (AV.fn f).solid = true := rfl
theorem one_int (k : IntKind) (n : Int) : (AV.int k n).one = true := rfl
theorem one_bool (b : Bool) : (AV.bool b).one = true := rfl
theorem one_str (b : ByteArray) : (AV.str b).one = true := rfl
theorem one_sl (es : List AV) (t : Tk) : (AV.sl es t).one = true := rfl
theorem one_ms (r v l : Nat) : (AV.ms r v l).one = true := rfl
theorem one_bptr (r o : Nat) : (AV.bptr r o).one = true := rfl
theorem one_mp (r : Nat) : (AV.mp r).one = true := rfl
theorem one_nilp : AV.nilp.one = true := rfl
theorem one_fn (f : Nat) : (AV.fn f).one = true := rfl
theorem partA_int (q : Bool) (z b : Nat) (zr : AV) (cs : List AV) (off : Nat) (k : IntKind) : partA ⟨q, .int k, z, b, zr⟩ cs off = (off < cs.length, cs.getD off .any) := rfl
theorem partA_bool (q : Bool) (z b : Nat) (zr : AV) (cs : List AV) (off : Nat)  : partA ⟨q, .bool, z, b, zr⟩ cs off = (off < cs.length, cs.getD off .any) := rfl
theorem partA_str (q : Bool) (z b : Nat) (zr : AV) (cs : List AV) (off : Nat)  : partA ⟨q, .str, z, b, zr⟩ cs off = (off < cs.length, cs.getD off .any) := rfl
theorem partA_sl (q : Bool) (z b : Nat) (zr : AV) (cs : List AV) (off : Nat) (e : Nat) : partA ⟨q, .sl e, z, b, zr⟩ cs off = (off < cs.length, cs.getD off .any) := rfl
theorem partA_map (q : Bool) (z b : Nat) (zr : AV) (cs : List AV) (off : Nat) (x y : Nat) : partA ⟨q, .map x y, z, b, zr⟩ cs off = (off < cs.length, cs.getD off .any) := rfl
theorem partA_ptr (q : Bool) (z b : Nat) (zr : AV) (cs : List AV) (off : Nat)  : partA ⟨q, .ptr, z, b, zr⟩ cs off = (off < cs.length, cs.getD off .any) := rfl
theorem partA_other (q : Bool) (z b : Nat) (zr : AV) (cs : List AV) (off : Nat)  : partA ⟨q, .other, z, b, zr⟩ cs off = (off < cs.length, cs.getD off .any) := rfl
theorem partA_st (q : Bool) (z b : Nat) (zr : AV) (cs : List AV) (off : Nat) (fs : List (Nat × Nat)) : partA ⟨q, .st fs, z, b, zr⟩ cs off = (off + z ≤ cs.length, .agg ((cs.drop off).take z)) := rfl
theorem partA_arr (q : Bool) (z b : Nat) (zr : AV) (cs : List AV) (off : Nat) (n e : Nat) : partA ⟨q, .arr n e, z, b, zr⟩ cs off = (off + z ≤ cs.length, .agg ((cs.drop off).take z)) := rfl
mutual
def AV.okay : AV → Prop
  | .int k n => k.min ≤ n ∧ n ≤ k.max
  | .str s => s.size ≤ maxLen
  | .agg cs => AV.okayL cs
  | .tup cs => AV.okayL cs
  | .sl es _ => es.length ≤ maxLen ∧ AV.okayL es
  | .eptr e _ => AV.okayL e
  | _ => True
def AV.okayL : List AV → Prop
  | [] => True
  | a :: as => AV.okay a ∧ AV.okayL as
end

theorem okayL_iff : ∀ l : List AV, AV.okayL l ↔ ∀ x ∈ l, x.okay
  | [] => by simp [AV.okayL]
  | a :: as => by simp [AV.okayL, okayL_iff as]

theorem okayL_of_get {l : List AV} (h : ∀ i, i < l.length → (l.getD i .any).okay) : AV.okayL l := by
  rw [okayL_iff]; intro x hx
  obtain ⟨i, hi, rfl⟩ := List.mem_iff_getElem.1 hx
  have := h i hi
  rwa [getD_lt _ hi] at this

theorem Rep.okay {V : View} {v : Value} {a : AV} (h : Rep V v a) : a.okay := by
  induction h with
  | int k n h1 h2 => exact ⟨h1, h2⟩
  | str s h => exact h
  | agg cs as hl _ ih => exact okayL_of_get fun i hi => ih i hi
  | tup cs as hl _ ih => exact okayL_of_get fun i hi => ih i hi
  | sl bse len cap es tok size b o val hl hc hm hb' hs hi _ ht hf ih =>
    refine ⟨by omega, okayL_of_get fun i hi' => ?_⟩
    have h1 := hs i (by omega)
    have h2 := fun j hj => ih i j (by omega) hj
    generalize es.getD i .any = x at h1 h2
    cases x with
    | agg cs =>
      simp only [cellsOf] at h1 h2
      exact okayL_of_get fun j hj => h2 j (by omega)
    | _ =>
      simp only [cellsOf, List.length_cons, List.length_nil, Nat.zero_add] at h1 h2
      have := h2 0 (by omega)
      simpa using this
  | eptr e off b o val hi _ ih => exact okayL_of_get fun j hj => ih j hj
  | _ => trivial

theorem acalls_okay {P : Program} {f : Nat} {args : List AV} {H : List AObj} {R : AV → List AObj → Prop} (hf : FnOK P f) (h : AV.okayL args → ACalls P f args H R) : ACalls P f args H R :=
  ⟨hf, fun V w vs h1 h2 h3 h4 => (h (okayL_of_get fun i hi => (h4 i hi).okay)).2 V w vs h1 h2 h3 h4⟩

def retP (C : Cfg) (rs : List ResultVar) (r : AV) (H : List AObj) (e : Exit) (s : AState) : Prop :=
  (match e with | .normal | .ret => True | _ => False) ∧
  match aresL C s rs with
  | some (c, vs) => c ∧ (tupOf vs).norm = r ∧ s.H = H
  | none => False

theorem pcalls_text {P : Program} {C : Cfg} (hC : CfgOK P C) {f : Nat} {fn : Func} {c : Code} {args : List AV} {r : AV} (hf : P.funcs[f]? = some fn) (hb : fn.body = some c) (hname : (fn.name == "runtime.NumGoroutine") = false)
    (hn : args.length ≤ fn.ntmps) (hok : codeOK fn.ntmps c = true) (hr : r.bel 0 = true) (h : AV.okayL args → ∀ H, Go P C (retP C fn.results.toList r H) [.code c] (initS args H fn.ntmps)) : PCalls P f args r := by
  refine pcalls hr fun H => acalls_okay ⟨fn, hf, by simp [hb], hname⟩ fun hok' => acalls hC hf hb hname hn hok ?_
  have h1 := h hok' H
  exact X_mono c (fun e s' h2 => by
    obtain ⟨h3, h4⟩ := h2
    refine ⟨h3, ?_⟩
    split at h4
    · rename_i c vs hares
      try rw [hares]
      exact ⟨h4.1, .inl ⟨by rw [h4.2.1]; exact bel_mono (Nat.zero_le _) r hr, h4.2.1, h4.2.2⟩⟩
    · exact h4.elim) h1

theorem aresL_nil {C : Cfg} {s : AState} : aresL C s [] = some (True, []) := rfl
theorem aresL_tmp {C : Cfg} {s : AState} (t : Nat) (rs : List ResultVar) : aresL C s (.tmp t :: rs) = match aresL C s rs with
    | some (c', vs) => some (True ∧ c', s.env t :: vs)
    | none => none := by
  simp only [aresL, ares1]
  cases aresL C s rs <;> rfl
theorem tupOf_one (v : AV) : tupOf [v] = v := rfl
theorem tupOf_two (v u : AV) : tupOf [v, u] = .tup [v, u] := rfl
theorem tupOf_three (v u x : AV) : tupOf [v, u, x] = .tup [v, u, x] := rfl
theorem tupOf_four (v u x y : AV) : tupOf [v, u, x, y] = .tup [v, u, x, y] := rfl

def envL : List (Nat × AV) → Nat → AV
  | [], _ => .any
  | (k, v) :: r, t => if t = k then v else envL r t

theorem envL_cons (k : Nat) (v : AV) (r : List (Nat × AV)) (t : Nat) : envL ((k, v) :: r) t = if t = k then v else envL r t := rfl
theorem envL_nil (t : Nat) : envL [] t = .any := rfl

theorem weak_of {s : AState} {l : List (Nat × AV)} {L' : List AObj} {b n : Nat} {H : List AObj} (hb : b = s.b) (hn : n = s.n) (hH : H = s.H) (hL : L' = s.L) (h : ∀ p ∈ l, s.env p.1 = p.2 ∨ (s.env p.1).norm = p.2) : Weak s ⟨envL l, b, H, L', n⟩ := by
  subst hb; subst hn; subst hH; subst hL
  refine ⟨rfl, rfl, rfl, by simp, fun t => ?_, .inl rfl⟩
  simp only
  induction l with
  | nil => exact .inl rfl
  | cons p l ih =>
    simp only [List.forall_mem_cons] at h
    obtain ⟨k, v⟩ := p
    rw [envL_cons]
    split
    · rename_i ht; subst ht
      rcases h.1 with e | e
      · exact .inr (.inl e.symm)
      · exact .inr (.inr e.symm)
    · exact ih h.2

theorem weak_drop {s : AState} {l : List (Nat × AV)} {L' : List AObj} {b n : Nat} {H : List AObj} (hb : b = s.b) (hn : n = s.n) (hH : H = s.H) (hL : s.L.take L'.length = L') (h : ∀ p ∈ l, s.env p.1 = p.2 ∨ (s.env p.1).norm = p.2)
    (h1 : ∀ p ∈ l, p.2.bel (b + L'.length) = true) (h2 : ∀ x ∈ L', x.bel (b + L'.length) = true) : Weak s ⟨envL l, b, H, L', n⟩ := by
  subst hb; subst hn; subst hH
  refine ⟨rfl, rfl, rfl, hL.symm, fun t => ?_, .inr ⟨fun t => ?_, h2⟩⟩
  · simp only
    clear h1
    induction l with
    | nil => exact .inl rfl
    | cons p l ih =>
      simp only [List.forall_mem_cons] at h
      obtain ⟨k, v⟩ := p
      rw [envL_cons]
      split
      · rename_i ht; subst ht
        rcases h.1 with e | e
        · exact .inr (.inl e.symm)
        · exact .inr (.inr e.symm)
      · exact ih h.2
  · simp only
    clear h
    induction l with
    | nil => rfl
    | cons p l ih =>
      simp only [List.forall_mem_cons] at h1
      obtain ⟨k, v⟩ := p
      rw [envL_cons]
      split
      · exact h1.1
      · exact ih h1.2

theorem lt_off (a k : Nat) : (a + k < a) = False := by simp
theorem nn (n : Nat) : (0 ≤ (n : Int)) = True := by simp

theorem wrap_succ {i m : Nat} (h : i < m) (hm : m ≤ maxLen) : IntKind.wrap .i64 ((i : Int) + 1) = ((i + 1 : Nat) : Int) := by
  have h1 : maxLen = 9223372036854775807 := rfl
  rw [wrap_id .i64 _ (by show (-9223372036854775808 : Int) ≤ _; omega) (by show _ ≤ (9223372036854775807 : Int); omega)]
  omega

end
end Go.Ab

