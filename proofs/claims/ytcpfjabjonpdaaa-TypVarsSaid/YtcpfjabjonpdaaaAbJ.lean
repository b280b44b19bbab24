/- Calls by abstract values: how one is proved of a text, how one is used. Condition: the executor's table of types is the program's; the constants are of their types. -/
import Derived.Test.YtcpfjabjonpdaaaAbI
set_option linter.unusedSimpArgs false
namespace Go.Ab
open Go.RowKit (Below)

def ares1 (C : Cfg) (s : AState) : ResultVar → Option (Prop × AV)
  | .tmp t => some (True, s.env t)
  | .cell a t => match C.ty t, cellsAt s (s.env a) with
    | some l, some (cs, off, c) => some (c ∧ (partA l cs off).1, (partA l cs off).2)
    | _, _ => none

def aresL (C : Cfg) (s : AState) : List ResultVar → Option (Prop × List AV)
  | [] => some (True, [])
  | r :: rs => match ares1 C s r, aresL C s rs with
    | some (c, v), some (c', vs) => some (c ∧ c', v :: vs)
    | _, _ => none

def tupOf : List AV → AV
  | [v] => v
  | vs => .tup vs

/-- What a call hands back: the locals are forgotten; 'norm': what is known of slices' room, too. -/
def retK (C : Cfg) (rs : List ResultVar) (R : AV → List AObj → Prop) (e : Exit) (s : AState) : Prop :=
  (match e with | .normal | .ret => True | _ => False) ∧
  match aresL C s rs with
  | some (c, vs) => c ∧ (((tupOf vs).norm.bel s.b = true ∧ R (tupOf vs).norm s.H) ∨ ((tupOf vs).bel s.b = true ∧ R (tupOf vs) s.H))
  | none => False

/-- As 'retK', and the locals are kept among the objects. -/
def retE (C : Cfg) (rs : List ResultVar) (R : AV → List AObj → Prop) (e : Exit) (s : AState) : Prop :=
  (match e with | .normal | .ret => True | _ => False) ∧
  match aresL C s rs with
  | some (c, vs) => c ∧ R (tupOf vs) (s.H ++ s.L)
  | none => False

def initS (args : List AV) (H : List AObj) (n : Nat) : AState := { env := fun t => args.getD t .any, b := H.length, H := H, L := [], n := n }

def resRun (tmps : Array Value) : ResultVar → Sem Value
  | .tmp t => pure (tmps.getD t undef)
  | .cell a t => do loadVar t (← asAddr (tmps.getD a undef))

section
variable {P : Program} {C : Cfg} {s : AState}

theorem obj_heap {s : AState} (hb : s.b = s.H.length) : s.obj = heapObj (s.H ++ s.L) := by
  funext r
  unfold AState.obj heapObj
  rw [hb, List.getElem?_append]

theorem aresL_sound (hC : CfgOK P C) {V : View} {a : Act} {w : World} (hr : Rel V a w s) : ∀ (rs : List ResultVar) {c : Prop} {vs : List AV}, aresL C s rs = some (c, vs) → c →
    ∃ us : List Value, (List.mapM (resRun a.tmps) rs).run P w = .ok us w ∧ RepL V us vs
  | [], c, vs, h, _ => by
    simp only [aresL, Option.some.injEq, Prod.mk.injEq] at h
    obtain ⟨_, rfl⟩ := h
    exact ⟨[], rfl, .nil V⟩
  | r :: rs, c, vs, h, hc => by
    simp only [aresL] at h
    split at h
    case h_2 => cases h
    rename_i c1 v1 c2 vs2 h1 h2
    simp only [Option.some.injEq, Prod.mk.injEq] at h
    obtain ⟨hce, rfl⟩ := h
    rw [← hce] at hc
    obtain ⟨us, hus, hrep⟩ := aresL_sound hC hr rs h2 hc.2
    obtain ⟨u, hu, hur⟩ : ∃ u, (resRun a.tmps r).run P w = .ok u w ∧ Rep V u v1 := by
      cases r with
      | tmp t =>
        simp only [ares1, Option.some.injEq, Prod.mk.injEq] at h1
        obtain ⟨_, rfl⟩ := h1
        exact ⟨_, rfl, hr.env t⟩
      | cell x t =>
        simp only [ares1] at h1
        split at h1
        case h_2 => cases h1
        rename_i l cs off cc hT hcs
        simp only [Option.some.injEq, Prod.mk.injEq] at h1
        obtain ⟨hce1, rfl⟩ := h1
        have hc1 := hc.1
        rw [← hce1] at hc1
        obtain ⟨b, o, hv, hcell⟩ := cellsAt_sound hr.toW (hr.env x) hcs hc1.1
        obtain ⟨v, hv2, hrep2⟩ := run_loadAt (P := P) (hC _ _ hT) hcell hc1.2
        refine ⟨v, ?_, hrep2⟩
        simp only [Instr.loadAt, Instr.sureAddr, Sem.run_bind, Sem.run_pure, Result.andThen_ok] at hv2
        simp only [resRun, hv, asAddr, Sem.run_bind, Sem.run_pure, Result.andThen_ok, hv2]
    refine ⟨u :: us, ?_, .cons hur hrep⟩
    rw [List.mapM_cons]
    simp only [Sem.run_bind, Sem.run_pure]
    rw [hu]
    simp only [Result.andThen_ok]
    rw [hus]
    rfl

theorem results_sound (hC : CfgOK P C) {V : View} {a : Act} {w : World} (hr : Rel V a w s) {fn : Func} {c : Prop} {vs : List AV} (h : aresL C s fn.results.toList = some (c, vs)) (hc : c) :
    ∃ v, (results fn a.tmps).run P w = .ok v w ∧ Rep V v (tupOf vs) := by
  obtain ⟨us, h1, h2⟩ := aresL_sound hC hr _ h hc
  have hm : (fn.results.mapM (resRun a.tmps)).run P w = .ok us.toArray w := by
    rw [Array.mapM_eq_mapM_toList]
    simp only [Sem.run_map, h1, Result.andThen_ok]
  have hres : (results fn a.tmps).run P w = .ok (if h : us.toArray.size = 1 then us.toArray[0] else .tuple us.toArray) w := by
    have he : results fn a.tmps = (fn.results.mapM (resRun a.tmps) >>= fun vs => pure (if h : vs.size = 1 then vs[0] else .tuple vs)) := rfl
    rw [he, Sem.run_bind, hm]
    rfl
  refine ⟨_, hres, ?_⟩
  have hl := h2.1
  cases vs with
  | nil =>
    have : us = [] := List.eq_nil_of_length_eq_zero hl
    subst this
    exact RepL.tup (cs := #[]) (.nil V)
  | cons v vs =>
    cases vs with
    | nil =>
      obtain ⟨u, rfl⟩ := len1 hl
      have := h2.2 0 (by simp)
      simpa [tupOf] using this
    | cons v' vs =>
      have : ¬ us.toArray.size = 1 := by simp [hl]
      rw [dif_neg this]
      exact RepL.tup (by simpa using h2)

theorem init_rel {V : View} {w : World} {H : List AObj} {args : List AV} {vs : Array Value} {n : Nat} (hI : Inv V (heapObj H) w) (hb : ∀ x ∈ H, x.bel H.length = true) (hl : vs.size = args.length)
    (ha : ∀ i, i < args.length → Rep V (vs.getD i undef) (args.getD i .any)) (hn : args.length ≤ n) :
    Rel V { tmps := vs ++ Array.replicate (n - vs.size) undef, defers := [] } w (initS args H n) := by
  refine ⟨rfl, hb, ?_, by simp [initS]; omega, rfl, fun t => ?_⟩
  · rw [obj_heap rfl]; simpa [initS] using hI
  · simp only [initS]
    by_cases ht : t < args.length
    · have := ha t ht
      simpa [Array.getElem?_append, hl, ht] using this
    · have : args.getD t .any = .any := by simp [List.getD_eq_getElem?_getD, List.getElem?_eq_none (Nat.le_of_not_lt ht)]
      rw [this]; exact .any _

/-- A call is proved of its function's text. -/
theorem acalls (hC : CfgOK P C) {f : Nat} {fn : Func} {c : Code} {args : List AV} {H : List AObj} {R : AV → List AObj → Prop} (hf : P.funcs[f]? = some fn) (hb : fn.body = some c) (hname : (fn.name == "runtime.NumGoroutine") = false)
    (hn : args.length ≤ fn.ntmps) (hok : codeOK fn.ntmps c = true) (h : X P C c (retK C fn.results.toList R) (initS args H fn.ntmps)) : ACalls P f args H R := by
  refine ⟨⟨fn, hf, by simp [hb], hname⟩, fun V w vs hI hbel hl ha => ?_⟩
  have hrel := init_rel (n := fn.ntmps) hI hbel hl ha hn
  have hX := X_sound hC callK_fn fn.ntmps c hok rfl h V _ w hrel
  refine calls_of_wp hf hb (wp_mono hX fun e a' w' => ?_)
  rintro ⟨V', s', h1, h2, h3, h4, h5, h6⟩
  obtain ⟨he, h7⟩ := h6
  have hsb : s'.b = H.length := h5
  have hVdom : ∀ r n x, V.loc r n = some x → r < H.length := fun r n x hx => by
    have := hI.dom r n x hx
    unfold heapObj at this
    rcases Nat.lt_or_ge r H.length with h | h
    · exact h
    · rw [List.getElem?_eq_none h] at this; simp at this
  split at h7
  case h_2 => exact h7.elim
  rename_i cc vvs hares
  obtain ⟨hcc, h8⟩ := h7
  obtain ⟨v, hv, hrep⟩ := results_sound hC h3 hares hcc
  have hHl : s'.H.length = H.length := by rw [← h3.hb]; exact hsb
  have hIc : Inv (V'.cut s'.b) (heapObj s'.H) w' := by
    refine h3.inv.cut (fun r hr => ?_) (fun r hr => ?_) (fun r x hr hx => ?_)
    · unfold heapObj AState.obj; rw [if_pos hr]
    · unfold heapObj; exact List.getElem?_eq_none (by rw [← h3.hb]; omega)
    · unfold AState.obj at hx; rw [if_pos hr] at hx; exact h3.bel x (List.mem_of_getElem? hx)
  have hle : V.Le (V'.cut s'.b) := ⟨h1.base, h1.imm, fun r n x hx => by
    have := hVdom r n x hx
    simp only [View.cut]; rw [if_pos (by omega)]; exact h1.loc r n x this hx⟩
  have hgoal : a'.defers = [] ∧ ∃ v, (results fn a'.tmps).run P w' = .ok v w' ∧ ∃ V'' v' r H', V.Le V'' ∧ Below V.base w w' ∧ Ending.returned v = .returned v' ∧ Rep V'' v' r ∧ Inv V'' (heapObj H') w' ∧ H.length ≤ H'.length ∧ R r H' := by
    refine ⟨h3.defers, v, hv, V'.cut s'.b, v, ?_⟩
    rcases h8 with ⟨h9, h10⟩ | ⟨h9, h10⟩
    · exact ⟨_, s'.H, hle, h2, rfl, hrep.normed.cut h9, hIc, by omega, h10⟩
    · exact ⟨_, s'.H, hle, h2, rfl, hrep.cut h9, hIc, by omega, h10⟩
  cases e with
  | normal => exact hgoal
  | ret => exact hgoal
  | exit id => exact he.elim
  | goto l => exact he.elim
  | panic ch => exact he.elim
  | outgrown => exact he.elim

theorem acalls_esc (hC : CfgOK P C) {f : Nat} {fn : Func} {c : Code} {args : List AV} {H : List AObj} {R : AV → List AObj → Prop} (hf : P.funcs[f]? = some fn) (hb : fn.body = some c) (hname : (fn.name == "runtime.NumGoroutine") = false)
    (hn : args.length ≤ fn.ntmps) (hok : codeOK fn.ntmps c = true) (h : X P C c (retE C fn.results.toList R) (initS args H fn.ntmps)) : ACalls P f args H R := by
  refine ⟨⟨fn, hf, by simp [hb], hname⟩, fun V w vs hI hbel hl ha => ?_⟩
  have hrel := init_rel (n := fn.ntmps) hI hbel hl ha hn
  have hX := X_sound hC callK_fn fn.ntmps c hok rfl h V _ w hrel
  refine calls_of_wp hf hb (wp_mono hX fun e a' w' => ?_)
  rintro ⟨V', s', h1, h2, h3, h4, h5, h6⟩
  obtain ⟨he, h7⟩ := h6
  have hVdom : ∀ r n x, V.loc r n = some x → r < H.length := fun r n x hx => by
    have := hI.dom r n x hx
    unfold heapObj at this
    rcases Nat.lt_or_ge r H.length with h | h
    · exact h
    · rw [List.getElem?_eq_none h] at this; simp at this
  split at h7
  case h_2 => exact h7.elim
  rename_i cc vvs hares
  obtain ⟨hcc, h8⟩ := h7
  obtain ⟨v, hv, hrep⟩ := results_sound hC h3 hares hcc
  have hHl : s'.H.length = H.length := by rw [← h3.hb]; exact h5
  have hle : V.Le V' := ⟨h1.base, h1.imm, fun r n x hx => h1.loc r n x (hVdom r n x hx) hx⟩
  have hgoal : a'.defers = [] ∧ ∃ v, (results fn a'.tmps).run P w' = .ok v w' ∧ ∃ V'' v' r H', V.Le V'' ∧ Below V.base w w' ∧ Ending.returned v = .returned v' ∧ Rep V'' v' r ∧ Inv V'' (heapObj H') w' ∧ H.length ≤ H'.length ∧ R r H' :=
    ⟨h3.defers, v, hv, V', v, _, s'.H ++ s'.L, hle, h2, rfl, hrep, by rw [← obj_heap h3.hb]; exact h3.inv, by simp; omega, h8⟩
  cases e with
  | normal => exact hgoal
  | ret => exact hgoal
  | exit id => exact he.elim
  | goto l => exact he.elim
  | panic ch => exact he.elim
  | outgrown => exact he.elim

theorem ACalls.mono {f : Nat} {args : List AV} {H : List AObj} {R R' : AV → List AObj → Prop} (h : ACalls P f args H R) (hr : ∀ r H', R r H' → R' r H') : ACalls P f args H R' :=
  ⟨h.1, fun V w vs h1 h2 h3 h4 => (h.2 V w vs h1 h2 h3 h4).mono fun _ _ ⟨V', v, r, H', g1, g2, g3, g4, g5, g6, g7⟩ => ⟨V', v, r, H', g1, g2, g3, g4, g5, g6, hr _ _ g7⟩⟩

/-- The pure call is proved. -/
theorem pcalls {f : Nat} {args : List AV} {r : AV} (hr : r.bel 0 = true) (h : ∀ H, ACalls P f args H fun r' H' => r' = r ∧ H' = H) : PCalls P f args r := ⟨hr, h⟩

theorem heap_bel {V : View} {w : World} (hI : Inv V s.obj w) (hb : s.b = s.H.length) : ∀ x ∈ s.H ++ s.L, x.bel (s.H ++ s.L).length = true := by
  intro x hx
  obtain ⟨r, hr, rfl⟩ := List.mem_iff_getElem.1 hx
  have ho : s.obj r = some (s.H ++ s.L)[r] := by rw [obj_heap hb]; exact List.getElem?_eq_getElem hr
  refine (hI.objs r _ ho).belOf fun q n y hy => ?_
  have := hI.dom q n y hy
  rw [obj_heap hb] at this
  unfold heapObj at this
  rcases Nat.lt_or_ge q (s.H ++ s.L).length with h | h
  · exact h
  · rw [List.getElem?_eq_none h] at this; simp at this

/-- A call within a state, by what is known of it over the objects that there are. 'args'': what is forgotten of the arguments. -/
theorem callK_of {f : Nat} {args args' : List AV} {K : AV → AState → Prop} {R : AV → List AObj → Prop} (h : ACalls P f args' (s.H ++ s.L) R) (ha : ∀ i, args'.getD i .any = args.getD i .any ∨ args'.getD i .any = (args.getD i .any).norm) (hl : args'.length = args.length)
    (hK : ∀ r H'', R r H'' → s.H.length ≤ H''.length → (∀ x ∈ H''.take s.b, x.bel s.b = true) ∧ K r { s with H := H''.take s.b, L := H''.drop s.b }) : CallK P f args s K := by
  refine ⟨h.1, fun V w vs hb hI hbel hvl hva => ?_⟩
  have hI' : Inv V (heapObj (s.H ++ s.L)) w := by rw [← obj_heap hb]; exact hI
  refine (h.2 V w vs hI' (heap_bel hI hb) (by rw [hvl, hl]) (fun i hi => ?_)).mono fun e w' he => ?_
  · rw [hl] at hi
    rcases ha i with e | e <;> rw [e]
    · exact hva i hi
    · exact (hva i hi).normed
  · obtain ⟨V', v, r, H'', g1, g2, g3, g4, g5, g6, g7⟩ := he
    have hlen : s.H.length ≤ H''.length := by simp at g6; omega
    obtain ⟨k1, k2⟩ := hK r H'' g7 hlen
    refine ⟨V', v, r, { s with H := H''.take s.b, L := H''.drop s.b }, g1, g2, g3, g4, ?_, k1, by simp; omega, rfl, rfl, rfl, k2⟩
    have hb' : ({ s with H := H''.take s.b, L := H''.drop s.b } : AState).b = ({ s with H := H''.take s.b, L := H''.drop s.b } : AState).H.length := by simp; omega
    rw [obj_heap hb']
    simpa using g5

/-- A pure call within a state. -/
theorem callK_p {f : Nat} {args args' : List AV} {K : AV → AState → Prop} {r : AV} (h : PCalls P f args' r) (ha : args' = args ∨ args' = AV.normL args) (hK : K r s) : CallK P f args s K := by
  refine ⟨(h.2 []).1, fun V w vs hb hI hbel hvl hva => ?_⟩
  have hI' : Inv V (heapObj (s.H ++ s.L)) w := by rw [← obj_heap hb]; exact hI
  have hl : args'.length = args.length := by rcases ha with rfl | rfl; rfl; exact normL_length _
  refine ((h.2 (s.H ++ s.L)).2 V w vs hI' (heap_bel hI hb) (by rw [hvl, hl]) (fun i hi => ?_)).mono fun e w' he => ?_
  · rw [hl] at hi
    rcases ha with rfl | rfl
    · exact hva i hi
    · rw [normL_getD]; exact (hva i hi).normed
  · obtain ⟨V', v, r', H'', g1, g2, g3, g4, g5, g6, rfl, rfl⟩ := he
    exact ⟨V', v, r', s, g1, g2, g3, g4, by rw [obj_heap hb]; exact g5, hbel, hb, rfl, rfl, rfl, hK⟩

end
end Go.Ab
