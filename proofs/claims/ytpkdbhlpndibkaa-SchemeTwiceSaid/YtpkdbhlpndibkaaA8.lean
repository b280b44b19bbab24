/- Calls over objects that hand back their own objects as they were: a store's two objects among others. Conditions stand ahead of each part. -/
import Derived.Test.YtpkdbhlpndibkaaPAb
set_option linter.unusedSimpArgs false
set_option linter.unusedVariables false
namespace Go.Ab
open Go

section
variable {P : Program} {C : Cfg} {K : Exit → AState → Prop} {k : List KI} {e : Nat → AV} {F : List AObj} {b n : Nat}

/-- What a call hands back, its locals struck. -/
def retD (C : Cfg) (rs : List ResultVar) (R : AV → List AObj → Prop) (e : Exit) (s : AState) : Prop :=
  (match e with | .normal | .ret => True | _ => False) ∧
  match aresL C s rs with
  | some (c, vs) => c ∧ (tupOf vs).norm.bel s.b = true ∧ R (tupOf vs).norm s.H
  | none => False
theorem acallsD_text (hC : CfgOK P C) {f : Nat} {fn : Func} {c : Code} {args : List AV} {H : List AObj} {R : AV → List AObj → Prop} (hf : P.funcs[f]? = some fn) (hb : fn.body = some c) (hname : (fn.name == "runtime.NumGoroutine") = false)
    (hn : args.length ≤ fn.ntmps) (hok : codeOK fn.ntmps c = true) (h : AV.okayL args → Go P C (retD C fn.results.toList R) [.code c] (FS (fun t => args.getD t .any) H H.length fn.ntmps)) : ACalls P f args H R := by
  refine acalls_okay ⟨fn, hf, by simp [hb], hname⟩ fun hok' => acalls hC hf hb hname hn hok ?_
  have h1 := h hok'
  have h2 : FS (fun t => args.getD t .any) H H.length fn.ntmps = initS args H fn.ntmps := by simp [FS, initS]
  rw [h2] at h1
  exact X_mono c (fun e s' h2 => by
    obtain ⟨h3, h4⟩ := h2
    refine ⟨h3, ?_⟩
    split at h4
    · rename_i c vs hares
      try rw [hares]
      exact ⟨h4.1, .inl ⟨h4.2.1, h4.2.2⟩⟩
    · exact h4.elim) h1
theorem retD_ret {rs : List ResultVar} {R : AV → List AObj → Prop} : retD C rs R .ret (FS e F b n) = match aresL C (FS e F b n) rs with
    | some (c, vs) => c ∧ (tupOf vs).norm.bel b = true ∧ R (tupOf vs).norm (F.take b)
    | none => False := by
  simp only [retD, fs_H, true_and, fs_b]
theorem retD_normal {rs : List ResultVar} {R : AV → List AObj → Prop} : retD C rs R .normal (FS e F b n) = match aresL C (FS e F b n) rs with
    | some (c, vs) => c ∧ (tupOf vs).norm.bel b = true ∧ R (tupOf vs).norm (F.take b)
    | none => False := by
  simp only [retD, fs_H, true_and, fs_b]
/-- A call with one outcome. -/
def DCalls (P : Program) (f : Nat) (args : List AV) (F : List AObj) (r : AV) (F' : List AObj) : Prop := ACalls P f args F fun x G => x = r ∧ G = F'
theorem fsCallD {f : Nat} {args args' : List AV} {dst : Option Tmp} {ops : Array Oper} {todo : List Oper} {r : AV} {F' : List AObj} (h : DCalls P f args' F r F') (ha : args' = args ∨ args' = AV.normL args)
    (hb : (∀ x ∈ F.take b, x.bel b = true) → ∀ x ∈ F'.take b, x.bel b = true) (hK : GoO P C K ops todo k ((FS e F' b n).put dst r)) : GoCall P C K f args dst ops todo k (FS e F b n) :=
  fsCall h ha fun r' G hr _ => by obtain ⟨rfl, rfl⟩ := hr; exact ⟨hb, hK⟩
/-- Such a call in a drawn region. -/
theorem goDCall_z {f : Nat} {args args' : List AV} {dst : Option Tmp} {ops : Array Oper} {j : Nat} {todo : List Oper} {r : AV} {F' : List AObj} {rd mw zw : Bool} (hz : zw = true) (hf : ZFr C (FS e F b n) F') (h : DCalls P f args' F r F') (ha : args' = args ∨ args' = AV.normL args)
    (hb : (∀ x ∈ F.take b, x.bel b = true) → ∀ x ∈ F'.take b, x.bel b = true) (hK : GoD P C K ops j todo k ((FS e F' b n).put dst r)) : GoDCall P C K f args dst ops j todo k (FS e F b n) rd mw zw :=
  ⟨r, args', ha, .inr (.inr (.inr ⟨hz, F', ⟨⟨hb, by rw [fs_HL]; exact h⟩, hf⟩, hK⟩))⟩
theorem fsCallR {f : Nat} {args args' : List AV} {dst : Option Tmp} {ops : Array Oper} {todo : List Oper} {r : AV} (h : DCalls P f args' F r F) (ha : args' = args ∨ args' = AV.normL args)
    (hK : GoO P C K ops todo k ((FS e F b n).put dst r)) : GoCall P C K f args dst ops todo k (FS e F b n) := fsCallD h ha id hK
theorem weakF_drop {l : List (Nat × AV)} {F' : List AObj} (hF : F.take F'.length = F') (hb : b ≤ F'.length) (h : ∀ p ∈ l, e p.1 = p.2 ∨ (e p.1).norm = p.2)
    (h1 : ∀ p ∈ l, p.2.bel F'.length = true) (h2 : ∀ x ∈ F'.drop b, x.bel F'.length = true) : Weak (FS e F b n) (FS (envL l) F' b n) := by
  have hbl : b + (F'.drop b).length = F'.length := by simp; omega
  unfold FS
  have hH : F'.take b = F.take b := by rw [← hF, List.take_take]; congr 1; omega
  refine weak_drop rfl rfl (by rw [hH]) ?_ h ?_ ?_
  · simp only
    conv => rhs; rw [← hF]
    rw [List.drop_take]
    simp
  · intro p hp; rw [hbl]; exact h1 p hp
  · intro x hx; rw [hbl]; exact h2 x hx
end

/-- An array of which less is known: its elements' slices may be full no longer. -/
def ArrW (es es' : List AV) : Prop := es'.length = es.length ∧ ∀ i, i < es.length → (cellsOf (es'.getD i .any)).length = (cellsOf (es.getD i .any)).length ∧
  ∀ j, (cellsOf (es'.getD i .any)).getD j .any = (cellsOf (es.getD i .any)).getD j .any ∨ (cellsOf (es'.getD i .any)).getD j .any = ((cellsOf (es.getD i .any)).getD j .any).norm
/-- A heap with two objects of a store's. -/
def stF (F : List AObj) (s r : Nat) (bx ar : AObj) : List AObj := (F.set s bx).set r ar
section
variable {F : List AObj} {s r : Nat}
@[simp] theorem stF_len {bx ar : AObj} : (stF F s r bx ar).length = F.length := by simp [stF]
theorem stF_app {L : List AObj} {bx ar : AObj} (hs : s < F.length) (hr : r < F.length) : stF F s r bx ar ++ L = stF (F ++ L) s r bx ar := by
  unfold stF; rw [app_set hs, app_set (by simpa using hr)]
theorem stF_set_s {bx ar bx' : AObj} (hne : r ≠ s) : (stF F s r bx ar).set s bx' = stF F s r bx' ar := by
  unfold stF; rw [List.set_comm _ _ hne, List.set_set]
theorem stF_set_r {bx ar ar' : AObj} : (stF F s r bx ar).set r ar' = stF F s r bx ar' := by
  unfold stF; rw [List.set_set]
end

end Go.Ab
