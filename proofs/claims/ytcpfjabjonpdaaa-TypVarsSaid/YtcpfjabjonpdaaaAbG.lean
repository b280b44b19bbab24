/- The executor's regions, in the text's order, run as the model's do. Condition: the executor's table of types is the program's; the constants are of their types. -/
import Derived.Test.YtcpfjabjonpdaaaAbF
import Derived.LoopN
set_option linter.unusedSimpArgs false
namespace Go.Ab
open Go.RowKit (Below)

def dstOK (n : Nat) (o : Oper) : Bool := match o.dst with | some d => decide (d < n) | none => true

def Post (V : View) (w : World) (n b : Nat) (Q : Exit → AState → Prop) (e : Exit) (a' : Act) (w' : World) : Prop :=
  ∃ V' s', V.LeB b V' ∧ Below V.base w w' ∧ Rel V' a' w' s' ∧ s'.n = n ∧ s'.b = b ∧ Q e s'

theorem callK_fn {P : Program} : ∀ g args s K, CallK P g args s K → FnOK P g := fun _ _ _ _ h => h.1

section
variable {P : Program} {C : Cfg} {V : View} {w : World} {s : AState} {a : Act} {o : Oper}

theorem Rel.put (hr : Rel V a w s) {u : Value} {v : AV} (hu : Rep V u v) {dst : Option Tmp} (hd : ∀ d, dst = some d → d < s.n) : Rel V (a.put dst u) w (s.put dst v) := by
  cases dst with
  | none => exact hr
  | some d =>
    have hlt := hd d rfl
    refine ⟨hr.hb, hr.bel, hr.inv, by simp [Act.put, AState.put, hr.size], hr.defers, fun t => ?_⟩
    simp only [Act.put, AState.put, upd]
    by_cases ht : t = d
    · subst ht
      have : t < a.tmps.size := by rw [hr.size]; exact hlt
      simp [this, hu]
    · have := hr.env t
      simp only [ht, if_false]
      simpa [Array.getElem?_setIfInBounds_ne (Ne.symm ht)] using this

theorem Rel.of_w {V' : View} {w' : World} {s' : AState} (hr : Rel V a w s) (hV : V.Le V') (h : RelW V' w' s') (he : s'.env = s.env) (hn : s'.n = s.n) : Rel V' a w' s' :=
  ⟨h.hb, h.bel, h.inv, by rw [hn]; exact hr.size, hr.defers, fun t => by rw [he]; exact (hr.env t).mono hV⟩

theorem dst_lt {n : Nat} (h : dstOK n o = true) : ∀ d, o.dst = some d → d < n := by
  intro d hd
  simpa [dstOK, hd] using h

theorem exec_call {f : Operand} {args : Array Operand} {ts : Array Nat} {g : Nat} (hop : o.op = .call { callee := .value f, args := args, argTypes := ts }) (hf : a.eval f = .func (.func g) #[] #[]) (hg : FnOK P g) :
    (execOp a.eval o).run P w = .ok (.enter g (args.map a.eval)) w := by
  obtain ⟨fn, h1, h2, h3⟩ := hg
  have hb : fn.body.isNone = false := by cases hh : fn.body <;> simp [hh] at h2 ⊢
  simp only [execOp, hop, resolve, hf, Deferred.ofValue, invoke, callFunc, Sem.run_bind, Sem.run_pure, Result.andThen_ok, run_program]
  simp [h1, h3, hb]

theorem xop_sound (hC : CfgOK P C) (hr : Rel V a w s) (hok : operOK o = true) (hd : dstOK s.n o = true) (hg : ∀ g args s K, CallK P g args s K → FnOK P g) {K : AState → Prop} {K' : Act → World → Prop} {Q : Exit → Act → World → Prop}
    (h : xop P C o K s) (hK : ∀ V' a' w' s', V.Le V' → Below V.base w w' → Rel V' a' w' s' → s'.n = s.n → s'.b = s.b → K s' → K' a' w') : o.wp P a w K' Q := by
  have hk : ∀ x ∈ o.op.operands.toList, opndOK x = true := List.all_eq_true.1 hok
  unfold xop at h
  split at h
  · rename_i f args ts hop
    split at h
    case h_2 => cases h
    rename_i g hev
    have hrf := ev_rep hr f (hk f (by simp [hop, Op.operands, Call.operands]))
    rw [hev] at hrf
    generalize hvf : a.eval f = vf at hrf
    cases hrf
    have hfn := hg _ _ _ _ h
    unfold Oper.wp
    rw [exec_call hop hvf hfn, Oper.upon_enter]
    have hcall := h.2 V w (args.map a.eval) hr.hb hr.inv hr.bel (by simp) (fun i hi => by
      simp only [List.length_map, Array.length_toList] at hi
      have hm : args[i] ∈ args.toList := by simp
      have := ev_rep hr args[i] (hk _ (by simp only [hop, Op.operands, Call.operands]; simp))
      simpa [List.getD_eq_getElem?_getD, hi] using this)
    refine hcall.mono fun e w' he => ?_
    obtain ⟨V', v, r, s', h1, h2, rfl, h4, h5, h6, h7, h8, h9, h10, h11⟩ := he
    have hrel : Rel V' a w' s' := hr.of_w h1 ⟨h7, h6, h5⟩ h8 h9
    exact hK V' _ w' _ h1 h2 (hrel.put h4 (fun d hd' => by rw [h9]; exact dst_lt hd d hd')) (by rw [← h9]; cases o.dst <;> rfl) (by rw [← h10]; cases o.dst <;> rfl) h11
  · split at h
    case h_2 => cases h
    rename_i c v s' heff
    obtain ⟨hc, hKs⟩ := h
    obtain ⟨nx, w', V', g1, g2, g3, g4, g5, g6, g7, g8⟩ := eff_sound hC hr heff hc hok
    have hrel : Rel V' a w' s' := hr.of_w g2 g4 g5 g6
    unfold Oper.wp
    rw [g1]
    have hn : ∀ x, (s'.put o.dst x).n = s.n := fun x => by rw [← g6]; cases o.dst <;> rfl
    have hbb : ∀ x, (s'.put o.dst x).b = s.b := fun x => by rw [← g7]; cases o.dst <;> rfl
    rcases g8 with ⟨u, rfl, hu⟩ | ⟨rfl, hv⟩
    · rw [Oper.upon_value]
      exact hK V' _ w' _ g2 g3 (hrel.put hu (fun d hd' => by rw [g6]; exact dst_lt hd d hd')) (hn _) (hbb _) hKs
    · rw [Oper.upon_skip]
      simp only at hv
      subst hv
      exact hK V' _ w' _ g2 g3 (hrel.put (.any _) (fun d hd' => by rw [g6]; exact dst_lt hd d hd')) (hn _) (hbb _) hKs

theorem rep_undef (V : View) : Rep V undef (.tup []) := .tup #[] [] rfl fun i hi => absurd hi (by simp)

theorem xguard_sound (hC : CfgOK P C) (hr : Rel V a w s) {ops : Array Oper} {i : Nat} (hi : ops[i]? = some o) (hok : operOK o = true) (hd : dstOK s.n o = true) (hg : ∀ g args s K, CallK P g args s K → FnOK P g) {K : AState → Prop} {K' : Act → World → Prop} {Q : Exit → Act → World → Prop}
    (h : xguard P C ops o K s) (hK : ∀ V' a' w' s', V.Le V' → Below V.base w w' → Rel V' a' w' s' → s'.n = s.n → s'.b = s.b → K s' → K' a' w') : wpOp P ops Q i K' a w := by
  have hwant : ∀ t want b, guardOf ops o = some (some t, want) → s.env t = .bool b → Region.wanted o (yielded ops a.tmps) = (b == want) := by
    intro t want b h1 h2
    unfold guardOf at h1
    cases hgd : o.guard with
    | none => rw [hgd] at h1; simp at h1
    | some gw =>
      obtain ⟨j, wt⟩ := gw
      rw [hgd] at h1
      simp only [Option.map_some, Option.some.injEq, Prod.mk.injEq] at h1
      obtain ⟨h3, rfl⟩ := h1
      have h4 := hr.env t
      rw [h2] at h4
      generalize hv : a.tmps.getD t undef = v at h4
      cases h4
      have h5 : a.tmps[t]? = some (.bool b) := by
        rw [Array.getD_eq_getD_getElem?] at hv
        cases ht : a.tmps[t]? with
        | none => rw [ht] at hv; simp [undef] at hv
        | some y => rw [ht] at hv; simp at hv; rw [hv]
      simp only [Region.wanted, hgd, yielded, h3, Option.bind_some, h5]
      cases b <;> cases wt <;> rfl
  have hskip : ∀ t want, guardOf ops o = some (some t, want) → s.env t = .tup [] → Region.wanted o (yielded ops a.tmps) = false := by
    intro t want h1 h2
    unfold guardOf at h1
    cases hgd : o.guard with
    | none => rw [hgd] at h1; simp at h1
    | some gw =>
      obtain ⟨j, wt⟩ := gw
      rw [hgd] at h1
      simp only [Option.map_some, Option.some.injEq, Prod.mk.injEq] at h1
      obtain ⟨h3, rfl⟩ := h1
      have h4 := hr.env t
      rw [h2] at h4
      generalize hv : a.tmps.getD t undef = v at h4
      cases h4
      rename_i cs hl hh
      have h5 : a.tmps[t]? = some (.tuple cs) ∨ a.tmps[t]? = none := by
        rw [Array.getD_eq_getD_getElem?] at hv
        cases ht : a.tmps[t]? with
        | none => exact .inr rfl
        | some y => rw [ht] at hv; simp at hv; rw [hv]; exact .inl rfl
      simp only [Region.wanted, hgd, yielded, h3, Option.bind_some]
      rcases h5 with h5 | h5 <;> simp [h5]
  unfold wpOp
  simp only [hi]
  unfold xguard at h
  split at h
  · rename_i hgd
    have hno : o.guard = none := by
      unfold guardOf at hgd
      simpa using hgd
    rw [if_pos (by simp [Region.wanted, hno])]
    exact .inl (xop_sound hC hr hok hd hg h hK)
  · rename_i t want hgd
    split at h
    case h_3 => cases h
    · rename_i b hev
      have hw := hwant t want b hgd hev
      split at h
      · rename_i hbw
        rw [if_pos (by rw [hw]; simp [hbw])]
        exact .inl (xop_sound hC hr hok hd hg h hK)
      · rename_i hbw
        rw [if_neg (by rw [hw]; simp [hbw])]
        exact hK V _ w _ (.refl V) (.refl _ _) (hr.put (rep_undef V) (fun d hd' => dst_lt hd d hd')) (by cases o.dst <;> rfl) (by cases o.dst <;> rfl) h
    · rename_i hev
      rw [if_neg (by rw [hskip t want hgd hev]; simp)]
      exact hK V _ w _ (.refl V) (.refl _ _) (hr.put (rep_undef V) (fun d hd' => dst_lt hd d hd')) (by cases o.dst <;> rfl) (by cases o.dst <;> rfl) h
  · cases h

theorem xops_sound (hC : CfgOK P C) {ops : Array Oper} (hg : ∀ g args s K, CallK P g args s K → FnOK P g) {n : Nat} (hok : ∀ o ∈ ops.toList, operOK o = true ∧ dstOK n o = true) {Q : Exit → AState → Prop} {V0 : View} {w0 : World} {b : Nat} :
    ∀ (l : List Nat) {V : View} {a : Act} {w : World} {s : AState}, s.n = n → s.b = b → Rel V a w s → V0.LeB b V → Below V0.base w0 w → xops P C ops (l.filterMap (ops[·]?)) (Q .normal) s → wpOps P ops (Post V0 w0 n b Q) l a w
  | [], V, a, w, s, hn, hb, hr, hV, hB, h => ⟨V, s, hV, hB, hr, hn, hb, h⟩
  | i :: l, V, a, w, s, hn, hb, hr, hV, hB, h => by
    rw [wpOps_cons]
    cases hi : ops[i]? with
    | none =>
      unfold wpOp
      simp only [hi]
      rw [List.filterMap_cons, hi] at h
      exact xops_sound hC hg hok l hn hb hr hV hB h
    | some o =>
      rw [List.filterMap_cons, hi] at h
      simp only [xops] at h
      have ho := hok o (Array.mem_toList_iff.2 (Array.mem_of_getElem? hi))
      refine xguard_sound hC hr hi ho.1 (by rw [hn]; exact ho.2) hg h fun V' a' w' s' h1 h2 h3 h4 h4b h5 => ?_
      exact xops_sound hC hg hok l (by rw [h4, hn]) (by rw [h4b, hb]) h3 (hV.trans (h1.toB b)) (hB.trans (by rw [← hV.base]; exact h2)) h5

theorem filterMap_range {α : Type} (ops : Array α) : (List.range ops.size).filterMap (ops[·]?) = ops.toList := by
  apply List.ext_getElem?
  intro i
  have key : ∀ n, n ≤ ops.size → (List.range n).filterMap (ops[·]?) = ops.toList.take n := by
    intro n
    induction n with
    | zero => intro _; simp
    | succ n ih =>
      intro hn
      rw [List.range_succ, List.filterMap_append, ih (by omega)]
      have : ops[n]? = some ops[n] := Array.getElem?_eq_getElem (by omega)
      rw [List.filterMap_cons, this]
      simp only [List.filterMap_nil]
      rw [List.take_add_one]
      simp [show n < ops.size by omega]
  rw [key ops.size (Nat.le_refl _), List.take_of_length_le (by simp)]

end
end Go.Ab
