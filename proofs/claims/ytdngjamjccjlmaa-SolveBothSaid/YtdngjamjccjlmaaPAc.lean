/- Lemmas: heaps of stores and of maps. No condition. -/
import Derived.Test.YtdngjamjccjlmaaPAb

section
/- Calls over objects that hand back their own objects as they were: a store's two objects among others. Conditions stand ahead of each part. -/
set_option linter.unusedSimpArgs false
set_option linter.unusedVariables false
namespace Go.Ab
open Go

section
variable {P : Program} {C : Cfg} {K : Exit → AState → Prop} {k : List KI} {e : Nat → AV} {F : List AObj} {b n : Nat}

def retD (C : Cfg) (rs : List ResultVar) (R : AV → List AObj → Prop) (e : Exit) (s : AState) : Prop :=
  (match e with | .normal | .ret => True | _ => False) ∧
  match aresL C s rs with
  | some (c, vs) => c ∧ (tupOf vs).norm.bel s.b = true ∧ R (tupOf vs).norm s.H
  | none => False
theorem acallsD_text (hC : CfgOK P C) {f : Nat} {fn : Func} {c : Code} {args : List AV} {H : List AObj} {R : AV → List AObj → Prop} (hf : P.funcs[f]? = some fn) (hb : fn.body = some c) (hname : (fn.name == "runtime.NumGoroutine") = false)
    (hn : args.length ≤ fn.ntmps) (hok : codeOK fn.ntmps c = true) (h : AV.okayL args → Go P C (retD C fn.results.toList R) [.code c] (FS (fun t => args.getD t .any) H H.length fn.ntmps)) : ACalls P f args H R := by
  refine acalls_okay ⟨fn, hf, by simp [hb], hname⟩ fun hok' => acalls hC hf hb hname hn hok ?_
  have h1 := h hok'
  have h2 : FS (fun t => args.getD t .any) H H.length fn.ntmps = initS args H fn.ntmps := by simp [FS, initS]
  rw [h2] at h1
  exact X_mono c (fun e s' h2 => by
    obtain ⟨h3, h4⟩ := h2
    refine ⟨h3, ?_⟩
    split at h4
    · rename_i c vs hares
      try rw [hares]
      exact ⟨h4.1, .inl ⟨h4.2.1, h4.2.2⟩⟩
    · exact h4.elim) h1
theorem retD_ret {rs : List ResultVar} {R : AV → List AObj → Prop} : retD C rs R .ret (FS e F b n) = match aresL C (FS e F b n) rs with
    | some (c, vs) => c ∧ (tupOf vs).norm.bel b = true ∧ R (tupOf vs).norm (F.take b)
    | none => False := by
  simp only [retD, fs_H, true_and, fs_b]
theorem retD_normal {rs : List ResultVar} {R : AV → List AObj → Prop} : retD C rs R .normal (FS e F b n) = match aresL C (FS e F b n) rs with
    | some (c, vs) => c ∧ (tupOf vs).norm.bel b = true ∧ R (tupOf vs).norm (F.take b)
    | none => False := by
  simp only [retD, fs_H, true_and, fs_b]
def DCalls (P : Program) (f : Nat) (args : List AV) (F : List AObj) (r : AV) (F' : List AObj) : Prop := ACalls P f args F fun x G => x = r ∧ G = F'
theorem fsCallD {f : Nat} {args args' : List AV} {dst : Option Tmp} {ops : Array Oper} {todo : List Oper} {r : AV} {F' : List AObj} (h : DCalls P f args' F r F') (ha : args' = args ∨ args' = AV.normL args)
    (hb : (∀ x ∈ F.take b, x.bel b = true) → ∀ x ∈ F'.take b, x.bel b = true) (hK : GoO P C K ops todo k ((FS e F' b n).put dst r)) : GoCall P C K f args dst ops todo k (FS e F b n) :=
  fsCall h ha fun r' G hr _ => by obtain ⟨rfl, rfl⟩ := hr; exact ⟨hb, hK⟩
theorem goDCall_z {f : Nat} {args args' : List AV} {dst : Option Tmp} {ops : Array Oper} {j : Nat} {todo : List Oper} {r : AV} {F' : List AObj} {rd mw zw : Bool} (hz : zw = true) (hf : ZFr C (FS e F b n) F') (h : DCalls P f args' F r F') (ha : args' = args ∨ args' = AV.normL args)
    (hb : (∀ x ∈ F.take b, x.bel b = true) → ∀ x ∈ F'.take b, x.bel b = true) (hK : GoD P C K ops j todo k ((FS e F' b n).put dst r)) : GoDCall P C K f args dst ops j todo k (FS e F b n) rd mw zw :=
  ⟨r, args', ha, .inr (.inr (.inr ⟨hz, F', ⟨⟨hb, by rw [fs_HL]; exact h⟩, hf⟩, hK⟩))⟩
theorem fsCallR {f : Nat} {args args' : List AV} {dst : Option Tmp} {ops : Array Oper} {todo : List Oper} {r : AV} (h : DCalls P f args' F r F) (ha : args' = args ∨ args' = AV.normL args)
    (hK : GoO P C K ops todo k ((FS e F b n).put dst r)) : GoCall P C K f args dst ops todo k (FS e F b n) := fsCallD h ha id hK
theorem weakF_drop {l : List (Nat × AV)} {F' : List AObj} (hF : F.take F'.length = F') (hb : b ≤ F'.length) (h : ∀ p ∈ l, e p.1 = p.2 ∨ (e p.1).norm = p.2)
    (h1 : ∀ p ∈ l, p.2.bel F'.length = true) (h2 : ∀ x ∈ F'.drop b, x.bel F'.length = true) : Weak (FS e F b n) (FS (envL l) F' b n) := by
  have hbl : b + (F'.drop b).length = F'.length := by simp; omega
  unfold FS
  have hH : F'.take b = F.take b := by rw [← hF, List.take_take]; congr 1; omega
  refine weak_drop rfl rfl (by rw [hH]) ?_ h ?_ ?_
  · simp only
    conv => rhs; rw [← hF]
    rw [List.drop_take]
    simp
  · intro p hp; rw [hbl]; exact h1 p hp
  · intro x hx; rw [hbl]; exact h2 x hx
end

def ArrW (es es' : List AV) : Prop := es'.length = es.length ∧ ∀ i, i < es.length → (cellsOf (es'.getD i .any)).length = (cellsOf (es.getD i .any)).length ∧
  ∀ j, (cellsOf (es'.getD i .any)).getD j .any = (cellsOf (es.getD i .any)).getD j .any ∨ (cellsOf (es'.getD i .any)).getD j .any = ((cellsOf (es.getD i .any)).getD j .any).norm
theorem objOK_arrW {V : View} {w : World} {r ver size : Nat} {es es' : List AV} (h : ObjOK V w r (.arr ver size es)) (hw : ArrW es es') : ObjOK V w r (.arr ver size es') := by
  obtain ⟨blk, cap, h1, h2, h3, h4, h5, h6⟩ := h
  refine ⟨blk, cap, h1, h2, by rw [hw.1]; exact h3, h4, fun i hi => ?_, ?_⟩
  · rw [hw.1] at hi; rw [(hw.2 i hi).1]; exact h5 i hi
  · cases blk with
    | none => exact h6
    | some b =>
      obtain ⟨k1, cells, ty, k2, k3, k4, k5⟩ := h6
      refine ⟨k1, cells, ty, k2, k3, fun i j hi hj => ?_, k5⟩
      rw [hw.1] at hi
      have := k4 i j hi hj
      rcases (hw.2 i hi).2 j with e | e <;> rw [e]
      · exact this
      · exact this.normed
theorem acalls_arrW {P : Program} {f : Nat} {args : List AV} {F : List AObj} {R R' : AV → List AObj → Prop} (h : ACalls P f args F R)
    (hR : ∀ x G, R x G → ∃ q ver size es es', G[q]? = some (.arr ver size es) ∧ ArrW es es' ∧ R' x (G.set q (.arr ver size es'))) : ACalls P f args F R' := by
  refine ⟨h.1, fun V w vs hI hbel hl ha => (h.2 V w vs hI hbel hl ha).mono fun e w' he => ?_⟩
  obtain ⟨V', v, x, G, g1, g2, g3, g4, g5, g6, g7⟩ := he
  obtain ⟨q, ver, size, es, es', hq, hw, hR'⟩ := hR x G g7
  have hql := get_lt hq
  have hobj : ∀ i y, heapObj (G.set q (.arr ver size es')) i = some y → (i = q ∧ y = .arr ver size es') ∨ (i ≠ q ∧ heapObj G i = some y) := by
    intro i y hy
    unfold heapObj at hy ⊢
    by_cases e : i = q
    · subst e; rw [set_get0 hql] at hy; exact .inl ⟨rfl, (Option.some.inj hy).symm⟩
    · rw [set_get (fun h => e h.symm)] at hy; exact .inr ⟨e, hy⟩
  have hq' : heapObj G q = some (.arr ver size es) := hq
  refine ⟨V', v, x, _, g1, g2, g3, g4, ⟨g5.base, g5.imm, fun i n y hy => ?_, fun i y hy => ?_, fun i j y z b hy hz hb hc => ?_⟩, by simpa using g6, hR'⟩
  · have := g5.dom i n y hy
    unfold heapObj at this ⊢
    simp only [List.getElem?_set]
    split
    · first | rfl | (split <;> first | rfl | (simp_all; done))
    · exact this
  · rcases hobj i y hy with ⟨e1, rfl⟩ | ⟨_, hy2⟩
    · subst e1; exact objOK_arrW (g5.objs _ _ hq') hw
    · exact g5.objs i y hy2
  · have own_eq : ∀ i, own V' i (.arr ver size es') = own V' i (.arr ver size es) := fun i => rfl
    rcases hobj i y hy with ⟨e1, e2⟩ | ⟨_, hy2⟩ <;> rcases hobj j z hz with ⟨e3, e4⟩ | ⟨_, hz2⟩
    · rw [e1, e3]
    · subst e1; subst e2; exact g5.sep _ _ _ _ b hq' hz2 hb hc
    · subst e3; subst e4; exact g5.sep _ _ _ _ b hy2 hq' hb hc
    · exact g5.sep _ _ _ _ b hy2 hz2 hb hc
def stF (F : List AObj) (s r : Nat) (bx ar : AObj) : List AObj := (F.set s bx).set r ar
section
variable {F : List AObj} {s r : Nat}
@[simp] theorem stF_len {bx ar : AObj} : (stF F s r bx ar).length = F.length := by simp [stF]
theorem stF_app {L : List AObj} {bx ar : AObj} (hs : s < F.length) (hr : r < F.length) : stF F s r bx ar ++ L = stF (F ++ L) s r bx ar := by
  unfold stF; rw [app_set hs, app_set (by simpa using hr)]
theorem stF_s {bx ar : AObj} (hs : s < F.length) (hne : r ≠ s) : (stF F s r bx ar)[s]? = some bx := by
  unfold stF; rw [set_get hne, set_get0 hs]
theorem stF_r {bx ar : AObj} (hr : r < F.length) : (stF F s r bx ar)[r]? = some ar := by
  unfold stF; rw [set_get0 (by simpa using hr)]
theorem stF_set_s {bx ar bx' : AObj} (hne : r ≠ s) : (stF F s r bx ar).set s bx' = stF F s r bx' ar := by
  unfold stF; rw [List.set_comm _ _ hne, List.set_set]
theorem stF_set_r {bx ar ar' : AObj} : (stF F s r bx ar).set r ar' = stF F s r bx ar' := by
  unfold stF; rw [List.set_set]
theorem stF_o {q : Nat} {bx ar : AObj} (h1 : s ≠ q) (h2 : r ≠ q) : (stF F s r bx ar)[q]? = F[q]? := by
  unfold stF; rw [set_get h2, set_get h1]
theorem stF_set_o {q : Nat} {bx ar x : AObj} (h1 : s ≠ q) (h2 : r ≠ q) : (stF F s r bx ar).set q x = stF (F.set q x) s r bx ar := by
  unfold stF; rw [List.set_comm _ _ h2, List.set_comm _ _ h1]
theorem stF_take {G J : List AObj} {bx ar : AObj} (hs : s < G.length) (hr : r < G.length) : (stF (G ++ J) s r bx ar).take G.length = stF G s r bx ar := by
  rw [← stF_app hs hr, List.take_left' stF_len]
theorem lt_app {q : Nat} {L : List AObj} (h : q < F.length) : q < (F ++ L).length := by simp; omega
theorem qcalls_st {P : Program} {f : Nat} {args : List AV} {x : AV} {bx ar : AObj} {obj : Nat → Option AObj} (h : ∀ F' : List AObj, s < F'.length → r < F'.length → DCalls P f args (stF F' s r bx ar) x (stF F' s r bx ar))
    (h1 : obj s = some bx) (h2 : obj r = some ar) (m1 : bx.mute = false) (m2 : ar.mute = false) : QCalls P f args x obj := by
  intro F' hF
  have e1 := hF _ _ h1 m1
  have e2 := hF _ _ h2 m2
  have e : stF F' s r bx ar = F' := by unfold stF; rw [set_same e1, set_same e2]
  have := h F' (get_lt e1) (get_lt e2)
  rw [e] at this
  exact this
theorem stP (hs : s < F.length) (hr : r < F.length) (hne : r ≠ s) :
    (∀ bx ar, (stF F s r bx ar).length = F.length) ∧ (∀ L bx ar, (stF (F ++ L) s r bx ar).length = F.length + L.length) ∧
    (∀ L bx ar, stF F s r bx ar ++ L = stF (F ++ L) s r bx ar) ∧ (∀ L M bx ar, stF (F ++ L) s r bx ar ++ M = stF (F ++ (L ++ M)) s r bx ar) ∧
    (∀ bx ar, (stF F s r bx ar)[s]? = some bx) ∧ (∀ L bx ar, (stF (F ++ L) s r bx ar)[s]? = some bx) ∧
    (∀ bx ar, (stF F s r bx ar)[r]? = some ar) ∧ (∀ L bx ar, (stF (F ++ L) s r bx ar)[r]? = some ar) ∧
    (∀ G bx ar x, (stF G s r bx ar).set s x = stF G s r x ar) ∧ (∀ G bx ar x, (stF G s r bx ar).set r x = stF G s r bx x) ∧
    (∀ L bx ar, (stF (F ++ L) s r bx ar)[F.length]? = L[0]?) ∧ (∀ L j bx ar, (stF (F ++ L) s r bx ar)[F.length + j]? = L[j]?) ∧
    (∀ L bx ar x, (stF (F ++ L) s r bx ar).set F.length x = stF (F ++ L.set 0 x) s r bx ar) ∧ (∀ L j bx ar x, (stF (F ++ L) s r bx ar).set (F.length + j) x = stF (F ++ L.set j x) s r bx ar) ∧
    (∀ bx ar, (stF F s r bx ar).take F.length = stF F s r bx ar) ∧ (∀ L bx ar, (stF (F ++ L) s r bx ar).take F.length = stF F s r bx ar) ∧
    (∀ bx ar, ((F.length ≤ (stF F s r bx ar).length) = True)) ∧ (∀ L bx ar, ((F.length ≤ (stF (F ++ L) s r bx ar).length) = True)) := by
  have hs' : ∀ L : List AObj, s < (F ++ L).length := fun L => by simp; omega
  have hr' : ∀ L : List AObj, r < (F ++ L).length := fun L => by simp; omega
  have n1 : ∀ j, s ≠ F.length + j := fun j => by omega
  have n2 : ∀ j, r ≠ F.length + j := fun j => by omega
  refine ⟨fun _ _ => stF_len, fun L _ _ => by rw [stF_len, List.length_append], fun _ _ _ => stF_app hs hr, fun L M _ _ => by rw [stF_app (hs' L) (hr' L), List.append_assoc],
    fun _ _ => stF_s hs hne, fun L _ _ => stF_s (hs' L) hne, fun _ _ => stF_r hr, fun L _ _ => stF_r (hr' L), fun _ _ _ _ => stF_set_s hne, fun _ _ _ _ => stF_set_r,
    fun L _ _ => ?_, fun L j _ _ => ?_, fun L _ _ x => ?_, fun L j _ _ x => ?_, fun _ _ => ?_, fun L _ _ => stF_take hs hr, fun _ _ => by simp [stF_len], fun L _ _ => by simp [stF_len]⟩
  · rw [stF_o (by simpa using n1 0) (by simpa using n2 0), app_get0c rfl]
  · rw [stF_o (n1 j) (n2 j), app_getkc rfl]
  · rw [stF_set_o (by simpa using n1 0) (by simpa using n2 0), app_set0c rfl]
  · rw [stF_set_o (n1 j) (n2 j), app_setkc rfl]
  · rw [List.take_of_length_le]; rw [stF_len]; exact Nat.le_refl _
theorem stF_bel {b : Nat} {bx ar bx' ar' : AObj} (hs : s < F.length) (hr : r < F.length) (hne : r ≠ s) (h1 : s < b → bx.bel b = true → bx'.bel b = true) (h2 : ar'.bel b = true)
    (h : ∀ x ∈ (stF F s r bx ar).take b, x.bel b = true) : ∀ x ∈ (stF F s r bx' ar').take b, x.bel b = true := by
  intro x hx
  obtain ⟨i, hi, rfl⟩ := List.getElem_of_mem hx
  have hib : i < b := by have := List.length_take_le b (stF F s r bx' ar'); omega
  have hil : i < F.length := by rw [List.length_take, stF_len] at hi; omega
  have key : ∀ (bx ar : AObj) (x : AObj), (stF F s r bx ar)[i]? = some x → x ∈ (stF F s r bx ar).take b := fun bx ar x e => by
    refine List.mem_iff_getElem?.2 ⟨i, ?_⟩
    rw [List.getElem?_take_of_lt hib]; exact e
  have e : ((stF F s r bx' ar').take b)[i]? = (stF F s r bx' ar')[i]? := List.getElem?_take_of_lt hib
  have e2 : (stF F s r bx' ar')[i]? = some ((stF F s r bx' ar').take b)[i] := by rw [← e]; exact List.getElem?_eq_getElem hi
  by_cases h3 : i = s
  · subst h3
    rw [stF_s hs hne] at e2
    rw [← Option.some.inj e2]
    exact h1 hib (h _ (key bx ar _ (stF_s hs hne)))
  · by_cases h4 : i = r
    · subst h4
      rw [stF_r hr] at e2
      rw [← Option.some.inj e2]; exact h2
    · rw [stF_o (fun h => h3 h.symm) (fun h => h4 h.symm)] at e2
      exact h _ (key bx ar _ (by rw [stF_o (fun h => h3 h.symm) (fun h => h4 h.symm)]; exact e2))
end

end Go.Ab
end

section
/- Calls whose heap gets a place for a slice that is nil so far; calls that hand back slices of objects of their own, which nobody writes any more. Conditions stand ahead of each part. -/
set_option linter.unusedSimpArgs false
set_option linter.unusedVariables false
namespace Go.Ab
open Go

section
variable {P : Program}
theorem pcalls_of {f : Nat} {args : List AV} {r : AV} (hr : r.bel 0 = true) (h : ∀ F : List AObj, DCalls P f args F r F) : PCalls P f args r := ⟨hr, h⟩
def frzA : List (Nat × Nat × List AV) → AV → AV
  | [], x => x
  | (q, ver, es) :: fz, .ms r v n => if r = q ∧ v = ver ∧ n ≤ es.length then .sl (es.take n) .no else frzA fz (.ms r v n)
  | _ :: _, x => x
def frzV (fz : List (Nat × Nat × List AV)) : AV → AV
  | .tup vs => .tup (vs.map (frzA fz))
  | x => frzA fz x
theorem frzA_ms {fz : List (Nat × Nat × List AV)} {r v n : Nat} : frzA fz (.ms r v n) = .ms r v n ∨ ∃ es, (r, v, es) ∈ fz ∧ n ≤ es.length ∧ frzA fz (.ms r v n) = .sl (es.take n) .no := by
  induction fz with
  | nil => exact .inl rfl
  | cons p fz ih =>
    obtain ⟨q, ver, es⟩ := p
    simp only [frzA]
    split
    · rename_i h; obtain ⟨rfl, rfl, h3⟩ := h; exact .inr ⟨es, List.mem_cons_self, h3, rfl⟩
    · rcases ih with h | ⟨es', h1, h2, h3⟩
      · exact .inl h
      · exact .inr ⟨es', List.mem_cons_of_mem _ h1, h2, h3⟩
theorem frzA_other {fz : List (Nat × Nat × List AV)} {x : AV} (h : ∀ r v n, x ≠ .ms r v n) : frzA fz x = x := by
  cases fz with
  | nil => rfl
  | cons p fz => cases x <;> first | rfl | exact absurd rfl (h _ _ _)
def FrzOK (V V' : View) (fz : List (Nat × Nat × List AV)) : Prop := ∀ q ver es, (q, ver, es) ∈ fz → ∀ n, n ≤ es.length → ∀ u, Rep V u (.ms q ver n) → Rep V' u (.sl (es.take n) .no)
theorem FrzOK.one {V V' : View} {fz : List (Nat × Nat × List AV)} {m : Nat} (h : FrzOK V V' fz) (hc : (V.cut m).Le V') {u : Value} {x : AV} (hu : Rep V u x) (hb : (frzA fz x).bel m = true) : Rep V' u (frzA fz x) := by
  by_cases hx : ∃ r v n, x = .ms r v n
  · obtain ⟨r, v, n, rfl⟩ := hx
    rcases frzA_ms (fz := fz) (r := r) (v := v) (n := n) with e | ⟨es, h1, h2, e⟩
    · rw [e] at hb ⊢; exact (hu.cut hb).mono hc
    · rw [e]; exact h _ _ _ h1 n h2 u hu
  · rw [frzA_other (fun r v n e => hx ⟨r, v, n, e⟩)] at hb ⊢; exact (hu.cut hb).mono hc
theorem FrzOK.val {V V' : View} {fz : List (Nat × Nat × List AV)} {m : Nat} (h : FrzOK V V' fz) (hc : (V.cut m).Le V') {u : Value} {x : AV} (hu : Rep V u x) (hb : (frzV fz x).bel m = true) : Rep V' u (frzV fz x) := by
  by_cases hx : ∃ vs, x = .tup vs
  · obtain ⟨vs, rfl⟩ := hx
    simp only [frzV, AV.bel] at hb ⊢
    cases hu with
    | tup cs _ hl h2 =>
      refine .tup cs _ (by simpa using hl) fun i hi => ?_
      rw [List.length_map] at hi
      have e : (vs.map (frzA fz)).getD i .any = frzA fz (vs.getD i .any) := by simp [hi]
      have := belL_get hb i
      rw [e] at this ⊢
      exact h.one hc (h2 i hi) this
  · have e : frzV fz x = frzA fz x := by cases x <;> first | rfl | exact absurd ⟨_, rfl⟩ hx
    rw [e] at hb ⊢
    exact h.one hc hu hb
end

end Go.Ab
end

section
/- A heap with a box, an array and a map. No condition. -/
set_option linter.unusedSimpArgs false
set_option linter.unusedVariables false
namespace Go.Ab
open Go

def tri (F : List AObj) (p q m : Nat) (x1 x2 x3 : AObj) : List AObj := stF (F.set m x3) p q x1 x2
structure TriD (F : List AObj) (p q m : Nat) : Prop where
  hp : p < F.length
  hq : q < F.length
  hm : m < F.length
  d1 : p ≠ q
  d2 : p ≠ m
  d3 : q ≠ m
section
variable {F : List AObj} {p q m : Nat}
theorem TriD.app (h : TriD F p q m) (J : List AObj) : TriD (F ++ J) p q m := by
  obtain ⟨h1, h2, h3, d1, d2, d3⟩ := h
  exact ⟨by simp; omega, by simp; omega, by simp; omega, d1, d2, d3⟩
@[simp] theorem tri_len {x1 x2 x3 : AObj} : (tri F p q m x1 x2 x3).length = F.length := by simp [tri]
end

end Go.Ab
end

