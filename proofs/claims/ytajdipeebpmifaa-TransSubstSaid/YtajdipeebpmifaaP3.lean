/- The law TransSubst answers true, whatever the input. No condition. -/
import Derived.Test.YtajdipeebpmifaaPPa
import Derived.Test.YtajdipeebpmifaaPW
import Derived.Test.YtajdipeebpmifaaJ1
import Derived.Test.YtajdipeebpmifaaPCa
set_option linter.unusedSimpArgs false
set_option linter.unusedVariables false
set_option maxHeartbeats 40000000
set_option maxRecDepth 100000
namespace Go.Proofs.Ytajdipeebpmifaa
open Go Go.Ab
attribute [local irreducible] PCalls ACalls CallK GoCall GoDCall GoIf GoGb GoDGb GoO GoD GoX GoDX GoG GoDG GoGv GoDGv Go ALoop

theorem closing_ok (t : Ty) (l : List Ty) (ht : nodes t ≤ 1048576) (hl : l.length ≤ 1000000) (hr : ∀ x ∈ l, right x = true) : PCalls Try.prog 55 [emb t, .sl (l.map emb) .no] (.sl ((statB (varsT t) l true).map embB) .no) := by
  refine pcalls_text C_ok Try.func55 rfl (by decide) (Nat.le_of_ble_eq_true rfl) (by decide) (by simp only [AV.bel, mapB_bel, Bool.and_self]) fun ok H => ?_
  rw [Try.results55]
  have h := True.intro
  repeat' (first
   | (with_reducible first | refine goIf_b ?_ ?_ | refine goIf_n ?_ ?_ | refine goIf_d ?_ ?_ | refine goIf_split ?_ ?_ | refine goGb_b ?_ ?_ | refine goGb_n ?_ ?_ | refine goGb_d ?_ ?_ | refine goGb_split ?_ ?_ | refine goDGb_b ?_ ?_ | refine goDGb_n ?_ ?_ | refine goDGb_d ?_ ?_ | refine goDGb_split ?_ ?_) <;> intro h
   | ((first | refine goCall_norm ?_ | refine goDCall_norm ?_); simp only [AV.norm, AV.normL, W2, W2C, W2B, map_norm, mapB_norm]; first | refine goCall_p (statB_ok t l true ht hl hr) (.inl rfl) ?_ | refine goDCall_p (statB_ok t l true ht hl hr) (.inl rfl) ?_)
   | skip) <;> simp only [h, ↓upd_eq, ↓envL_cons, Go.Ab.W0, Go.Ab.WD, Go.Ab.WE, if_true, if_false, reduceIte, Nat.reduceEqDiff, Nat.reduceAdd, Nat.reduceLT, Nat.reduceLeDiff, reduceCtorEq, Nat.reduceMul, implies_true, forall_eq_or_imp, forall_eq, Nat.reducePow, W1, W1C, W1B, map_norm, mapB_norm]
theorem transSubst_ok (a b : Ty) (l : List Ty) (m : Int) : PCalls Try.prog 11 [emb a, emb b, .sl (l.map emb) .no, .int .i64 m] (.bool true) := by
  cases hs : pairT a b with
  | false =>
    refine pcalls_text C_ok Try.func11 rfl (by decide) (Nat.le_of_ble_eq_true rfl) (by decide) rfl fun ok H => ?_
    rw [Try.results11]
    have h := True.intro
    repeat' (first
     | (with_reducible first | refine goIf_b ?_ ?_ | refine goIf_n ?_ ?_ | refine goIf_d ?_ ?_ | refine goIf_split ?_ ?_ | refine goGb_b ?_ ?_ | refine goGb_n ?_ ?_ | refine goGb_d ?_ ?_ | refine goGb_split ?_ ?_ | refine goDGb_b ?_ ?_ | refine goDGb_n ?_ ?_ | refine goDGb_d ?_ ?_ | refine goDGb_split ?_ ?_) <;> intro h
     | ((first | refine goCall_norm ?_ | refine goDCall_norm ?_); simp only [AV.norm, AV.normL, W2, W2C, W2B, Go.Ab.W3, Int.reduceAdd, Int.reduceLT, Int.reduceToNat, Int.reduceBEq, Int.reduceBNe, Int.reduceLE, hs]; first | refine goCall_p (pair21_ok _ _) (.inl rfl) ?_ | refine goDCall_p (pair21_ok _ _) (.inl rfl) ?_)
     | refine go_draw (id := 1) C_ok mixed 0 Try.f11.ntmps rfl (by kernel_rfl) (by decide) ?_
     | refine go_draw (id := 13) C_ok mixed 1 Try.f11.ntmps rfl (by kernel_rfl) (by decide) ?_
     | refine go_draw (id := 15) C_ok mixed 0 Try.f11.ntmps rfl (by kernel_rfl) (by decide) ?_
     | refine goRound ?_ C_ok Try.f11.ntmps rfl (by decide)
     | skip) <;> simp only [h, ↓upd_eq, ↓envL_cons, Go.Ab.W0, Go.Ab.WD, Go.Ab.WE, if_true, if_false, reduceIte, Nat.reduceEqDiff, Nat.reduceAdd, Nat.reduceLT, Nat.reduceLeDiff, reduceCtorEq, Nat.reduceMul, implies_true, forall_eq_or_imp, forall_eq, Nat.reducePow, W1, W1C, W1B, Go.Ab.W3, Int.reduceAdd, Int.reduceLT, Int.reduceToNat, Int.reduceBEq, Int.reduceBNe, Int.reduceLE, hs, cutNormal_normal]
  | true =>
  cases h1 : small l with
  | false =>
    refine pcalls_text C_ok Try.func11 rfl (by decide) (Nat.le_of_ble_eq_true rfl) (by decide) rfl fun ok H => ?_
    rw [Try.results11]
    have h := True.intro
    repeat' (first
     | (with_reducible first | refine goIf_b ?_ ?_ | refine goIf_n ?_ ?_ | refine goIf_d ?_ ?_ | refine goIf_split ?_ ?_ | refine goGb_b ?_ ?_ | refine goGb_n ?_ ?_ | refine goGb_d ?_ ?_ | refine goGb_split ?_ ?_ | refine goDGb_b ?_ ?_ | refine goDGb_n ?_ ?_ | refine goDGb_d ?_ ?_ | refine goDGb_split ?_ ?_) <;> intro h
     | ((first | refine goCall_norm ?_ | refine goDCall_norm ?_); simp only [AV.norm, AV.normL, W2, W2C, W2B, Go.Ab.W3, Int.reduceAdd, Int.reduceLT, Int.reduceToNat, Int.reduceBEq, Int.reduceBNe, Int.reduceLE, hs, h1]; first | refine goCall_p (pair21_ok _ _) (.inl rfl) ?_ | refine goCall_p (smallW_ok _) (.inl rfl) ?_ | refine goDCall_p (pair21_ok _ _) (.inl rfl) ?_ | refine goDCall_p (smallW_ok _) (.inl rfl) ?_)
     | refine go_draw (id := 1) C_ok mixed 0 Try.f11.ntmps rfl (by kernel_rfl) (by decide) ?_
     | refine go_draw (id := 13) C_ok mixed 1 Try.f11.ntmps rfl (by kernel_rfl) (by decide) ?_
     | refine go_draw (id := 15) C_ok mixed 0 Try.f11.ntmps rfl (by kernel_rfl) (by decide) ?_
     | refine goRound ?_ C_ok Try.f11.ntmps rfl (by decide)
     | skip) <;> simp only [h, ↓upd_eq, ↓envL_cons, Go.Ab.W0, Go.Ab.WD, Go.Ab.WE, if_true, if_false, reduceIte, Nat.reduceEqDiff, Nat.reduceAdd, Nat.reduceLT, Nat.reduceLeDiff, reduceCtorEq, Nat.reduceMul, implies_true, forall_eq_or_imp, forall_eq, Nat.reducePow, W1, W1C, W1B, Go.Ab.W3, Int.reduceAdd, Int.reduceLT, Int.reduceToNat, Int.reduceBEq, Int.reduceBNe, Int.reduceLE, hs, h1, cutNormal_normal]
  | true =>
  by_cases h3 : (l.length : Int) > 10
  · cases h2 : fineW l with
    | false =>
      refine pcalls_text C_ok Try.func11 rfl (by decide) (Nat.le_of_ble_eq_true rfl) (by decide) rfl fun ok H => ?_
      rw [Try.results11]
      have h := True.intro
      repeat' (first
       | (with_reducible first | refine goIf_b ?_ ?_ | refine goIf_n ?_ ?_ | refine goIf_d ?_ ?_ | refine goIf_split ?_ ?_ | refine goGb_b ?_ ?_ | refine goGb_n ?_ ?_ | refine goGb_d ?_ ?_ | refine goGb_split ?_ ?_ | refine goDGb_b ?_ ?_ | refine goDGb_n ?_ ?_ | refine goDGb_d ?_ ?_ | refine goDGb_split ?_ ?_) <;> intro h
       | ((first | refine goCall_norm ?_ | refine goDCall_norm ?_); simp only [AV.norm, AV.normL, W2, W2C, W2B, Go.Ab.W3, Int.reduceAdd, Int.reduceLT, Int.reduceToNat, Int.reduceBEq, Int.reduceBNe, Int.reduceLE, hs, h1, h2, List.length_map]; first | refine goCall_p (pair21_ok _ _) (.inl rfl) ?_ | refine goCall_p (smallW_ok _) (.inl rfl) ?_ | refine goCall_p (fineW_ok _) (.inl rfl) ?_ | refine goDCall_p (pair21_ok _ _) (.inl rfl) ?_ | refine goDCall_p (smallW_ok _) (.inl rfl) ?_ | refine goDCall_p (fineW_ok _) (.inl rfl) ?_)
       | refine go_draw (id := 1) C_ok mixed 0 Try.f11.ntmps rfl (by kernel_rfl) (by decide) ?_
       | refine go_draw (id := 13) C_ok mixed 1 Try.f11.ntmps rfl (by kernel_rfl) (by decide) ?_
       | refine go_draw (id := 15) C_ok mixed 0 Try.f11.ntmps rfl (by kernel_rfl) (by decide) ?_
       | refine goRound ?_ C_ok Try.f11.ntmps rfl (by decide)
       | skip) <;> simp only [h, ↓upd_eq, ↓envL_cons, Go.Ab.W0, Go.Ab.WD, Go.Ab.WE, if_true, if_false, reduceIte, Nat.reduceEqDiff, Nat.reduceAdd, Nat.reduceLT, Nat.reduceLeDiff, reduceCtorEq, Nat.reduceMul, implies_true, forall_eq_or_imp, forall_eq, Nat.reducePow, W1, W1C, W1B, Go.Ab.W3, Int.reduceAdd, Int.reduceLT, Int.reduceToNat, Int.reduceBEq, Int.reduceBNe, Int.reduceLE, hs, h1, h2, List.length_map, cutNormal_normal]
    | true =>
      refine pcalls_text C_ok Try.func11 rfl (by decide) (Nat.le_of_ble_eq_true rfl) (by decide) rfl fun ok H => ?_
      rw [Try.results11]
      have h := True.intro
      repeat' (first
       | (with_reducible first | refine goIf_b ?_ ?_ | refine goIf_n ?_ ?_ | refine goIf_d ?_ ?_ | refine goIf_split ?_ ?_ | refine goGb_b ?_ ?_ | refine goGb_n ?_ ?_ | refine goGb_d ?_ ?_ | refine goGb_split ?_ ?_ | refine goDGb_b ?_ ?_ | refine goDGb_n ?_ ?_ | refine goDGb_d ?_ ?_ | refine goDGb_split ?_ ?_) <;> intro h
       | ((first | refine goCall_norm ?_ | refine goDCall_norm ?_); simp only [AV.norm, AV.normL, W2, W2C, W2B, Go.Ab.W3, Int.reduceAdd, Int.reduceLT, Int.reduceToNat, Int.reduceBEq, Int.reduceBNe, Int.reduceLE, hs, h1, h2, h3, List.length_map]; first | refine goCall_p (pair21_ok _ _) (.inl rfl) ?_ | refine goCall_p (smallW_ok _) (.inl rfl) ?_ | refine goCall_p (fineW_ok _) (.inl rfl) ?_ | refine goDCall_p (pair21_ok _ _) (.inl rfl) ?_ | refine goDCall_p (smallW_ok _) (.inl rfl) ?_ | refine goDCall_p (fineW_ok _) (.inl rfl) ?_)
       | refine go_draw (id := 1) C_ok mixed 0 Try.f11.ntmps rfl (by kernel_rfl) (by decide) ?_
       | refine go_draw (id := 13) C_ok mixed 1 Try.f11.ntmps rfl (by kernel_rfl) (by decide) ?_
       | refine go_draw (id := 15) C_ok mixed 0 Try.f11.ntmps rfl (by kernel_rfl) (by decide) ?_
       | refine goRound ?_ C_ok Try.f11.ntmps rfl (by decide)
       | skip) <;> simp only [h, ↓upd_eq, ↓envL_cons, Go.Ab.W0, Go.Ab.WD, Go.Ab.WE, if_true, if_false, reduceIte, Nat.reduceEqDiff, Nat.reduceAdd, Nat.reduceLT, Nat.reduceLeDiff, reduceCtorEq, Nat.reduceMul, implies_true, forall_eq_or_imp, forall_eq, Nat.reducePow, W1, W1C, W1B, Go.Ab.W3, Int.reduceAdd, Int.reduceLT, Int.reduceToNat, Int.reduceBEq, Int.reduceBNe, Int.reduceLE, hs, h1, h2, h3, List.length_map, cutNormal_normal]
  have hl10 : l.length ≤ 10 := by omega
  have qf := fine_ok l (by omega)
  cases h2 : fine l with
  | false =>
    rw [h2] at qf
    refine pcalls_text C_ok Try.func11 rfl (by decide) (Nat.le_of_ble_eq_true rfl) (by decide) rfl fun ok H => ?_
    rw [Try.results11]
    have h := True.intro
    repeat' (first
     | (with_reducible first | refine goIf_b ?_ ?_ | refine goIf_n ?_ ?_ | refine goIf_d ?_ ?_ | refine goIf_split ?_ ?_ | refine goGb_b ?_ ?_ | refine goGb_n ?_ ?_ | refine goGb_d ?_ ?_ | refine goGb_split ?_ ?_ | refine goDGb_b ?_ ?_ | refine goDGb_n ?_ ?_ | refine goDGb_d ?_ ?_ | refine goDGb_split ?_ ?_) <;> intro h
     | ((first | refine goCall_norm ?_ | refine goDCall_norm ?_); simp only [AV.norm, AV.normL, W2, W2C, W2B, Go.Ab.W3, Int.reduceAdd, Int.reduceLT, Int.reduceToNat, Int.reduceBEq, Int.reduceBNe, Int.reduceLE, hs, h1, h3, List.length_map]; first | refine goCall_p (pair21_ok _ _) (.inl rfl) ?_ | refine goCall_p (smallW_ok _) (.inl rfl) ?_ | refine goCall_p (qf) (.inl rfl) ?_ | refine goDCall_p (pair21_ok _ _) (.inl rfl) ?_ | refine goDCall_p (smallW_ok _) (.inl rfl) ?_ | refine goDCall_p (qf) (.inl rfl) ?_)
     | refine go_draw (id := 1) C_ok mixed 0 Try.f11.ntmps rfl (by kernel_rfl) (by decide) ?_
     | refine go_draw (id := 13) C_ok mixed 1 Try.f11.ntmps rfl (by kernel_rfl) (by decide) ?_
     | refine go_draw (id := 15) C_ok mixed 0 Try.f11.ntmps rfl (by kernel_rfl) (by decide) ?_
     | refine goRound ?_ C_ok Try.f11.ntmps rfl (by decide)
     | skip) <;> simp only [h, ↓upd_eq, ↓envL_cons, Go.Ab.W0, Go.Ab.WD, Go.Ab.WE, if_true, if_false, reduceIte, Nat.reduceEqDiff, Nat.reduceAdd, Nat.reduceLT, Nat.reduceLeDiff, reduceCtorEq, Nat.reduceMul, implies_true, forall_eq_or_imp, forall_eq, Nat.reducePow, W1, W1C, W1B, Go.Ab.W3, Int.reduceAdd, Int.reduceLT, Int.reduceToNat, Int.reduceBEq, Int.reduceBNe, Int.reduceLE, hs, h1, h3, List.length_map, cutNormal_normal]
  | true =>
  rw [h2] at qf
  obtain ⟨⟨x, rfl, hx⟩, ⟨y, rfl, hy⟩, n1, n2⟩ := pairT_iff hs
  have z1 := rsize_ok x.ty (by omega)
  have z2 := rsize_ok y.ty (by omega)
  have w0 : IntKind.wrap .i64 ((nodes x.ty : Int) + (nodes y.ty : Int)) = ((nodes x.ty + nodes y.ty : Nat) : Int) := wrap_nat2 (by omega)
  by_cases h4 : ((nodes x.ty + nodes y.ty : Nat) : Int) > 100
  · refine pcalls_text C_ok Try.func11 rfl (by decide) (Nat.le_of_ble_eq_true rfl) (by decide) rfl fun ok H => ?_
    rw [Try.results11]
    have h := True.intro
    repeat' (first
     | (with_reducible first | refine goIf_b ?_ ?_ | refine goIf_n ?_ ?_ | refine goIf_d ?_ ?_ | refine goIf_split ?_ ?_ | refine goGb_b ?_ ?_ | refine goGb_n ?_ ?_ | refine goGb_d ?_ ?_ | refine goGb_split ?_ ?_ | refine goDGb_b ?_ ?_ | refine goDGb_n ?_ ?_ | refine goDGb_d ?_ ?_ | refine goDGb_split ?_ ?_) <;> intro h
     | ((first | refine goCall_norm ?_ | refine goDCall_norm ?_); simp only [AV.norm, AV.normL, W2, W2C, W2B, Go.Ab.W3, Int.reduceAdd, Int.reduceLT, Int.reduceToNat, Int.reduceBEq, Int.reduceBNe, Int.reduceLE, hs, h1, h3, h4, w0, List.length_map]; first | refine goCall_p (pair21_ok _ _) (.inl rfl) ?_ | refine goCall_p (smallW_ok _) (.inl rfl) ?_ | refine goCall_p (qf) (.inl rfl) ?_ | refine goCall_p (z1) (.inl rfl) ?_ | refine goCall_p (z2) (.inl rfl) ?_ | refine goDCall_p (pair21_ok _ _) (.inl rfl) ?_ | refine goDCall_p (smallW_ok _) (.inl rfl) ?_ | refine goDCall_p (qf) (.inl rfl) ?_ | refine goDCall_p (z1) (.inl rfl) ?_ | refine goDCall_p (z2) (.inl rfl) ?_)
     | refine go_draw (id := 1) C_ok mixed 0 Try.f11.ntmps rfl (by kernel_rfl) (by decide) ?_
     | refine go_draw (id := 13) C_ok mixed 1 Try.f11.ntmps rfl (by kernel_rfl) (by decide) ?_
     | refine go_draw (id := 15) C_ok mixed 0 Try.f11.ntmps rfl (by kernel_rfl) (by decide) ?_
     | refine goRound ?_ C_ok Try.f11.ntmps rfl (by decide)
     | skip) <;> simp only [h, ↓upd_eq, ↓envL_cons, Go.Ab.W0, Go.Ab.WD, Go.Ab.WE, if_true, if_false, reduceIte, Nat.reduceEqDiff, Nat.reduceAdd, Nat.reduceLT, Nat.reduceLeDiff, reduceCtorEq, Nat.reduceMul, implies_true, forall_eq_or_imp, forall_eq, Nat.reducePow, W1, W1C, W1B, Go.Ab.W3, Int.reduceAdd, Int.reduceLT, Int.reduceToNat, Int.reduceBEq, Int.reduceBNe, Int.reduceLE, hs, h1, h3, h4, w0, List.length_map, cutNormal_normal]
  have hmax : l.length ≤ maxLen := by rw [maxLen_val]; omega
  have c1 : ∀ i, i < l.length → PCalls Try.prog 54 [emb (l.getD i default)] (.int .i64 (nodes (l.getD i default))) := fun i hi => rsize_ok _ (by
    have := small_nodes h1 (t := l.getD i default) (by simp [hi]); omega)
  have hlr : ∀ z ∈ l, right z = true := fun z hz => (fine_mem h2 hz).1
  have hw := labM_w m
  have hz : ((1048576 : Int) ≠ 0) = True := by simp
  obtain ⟨hl, hl', wl⟩ := labM_ok m
  have q := tCastC_ok x.ty y.ty (labM m) false
  have qc := closing_ok (twoT 7 x.ty y.ty) l (by simp only [twoT, nodes, nodesL]; omega) (by omega) hlr
  have hbr := statB_right (vs := varsT (twoT 7 x.ty y.ty)) (l := l) (c := true) hlr
  generalize statB (varsT (twoT 7 x.ty y.ty)) l true = bs at *
  have p1 := rput_ok bs x.ty (by omega)
  have p2 := rput_ok bs y.ty (by omega)
  rw [rput_put hbr] at p1 p2
  have g := tCastC_ok x.ty y.ty (labM m + 1) true
  have d := tCastC_ok (putS (sigB bs) x).ty (putS (sigB bs) y).ty (labM m) false
  have hσ : ∀ n, (T.var n).ok = true → (sigB bs n).ok = true := fun n hn => by
    unfold sigB
    cases e : lookB bs n with
    | none => exact hn
    | some t =>
      obtain ⟨y, rfl, hy⟩ := T.of_right' (hbr n t e)
      show (tOf y.ty).ok = true
      rw [tOf_ty]; exact hy
  have hx' := putS_ok hσ x hx
  have hy' := putS_ok hσ y hy
  cases hg : agreeT x y with
  | false =>
    have e1 : castE x.ty y.ty (labM m) = 4 := by rw [castE_co hx hy hl, hg]; rfl
    have e2 : castC x.ty y.ty (labM m) false = .mk 0 0 0 false [] := castC_no (by rw [e1]; decide)
    rw [e1, e2] at q
    clear g d e1 e2
    generalize labM m = k at hw q
    refine pcalls_text C_ok Try.func11 rfl (by decide) (Nat.le_of_ble_eq_true rfl) (by decide) rfl fun ok H => ?_
    rw [Try.results11]
    have h := True.intro
    repeat' (first
     | (with_reducible first | refine goIf_b ?_ ?_ | refine goIf_n ?_ ?_ | refine goIf_d ?_ ?_ | refine goIf_split ?_ ?_ | refine goGb_b ?_ ?_ | refine goGb_n ?_ ?_ | refine goGb_d ?_ ?_ | refine goGb_split ?_ ?_ | refine goDGb_b ?_ ?_ | refine goDGb_n ?_ ?_ | refine goDGb_d ?_ ?_ | refine goDGb_split ?_ ?_) <;> intro h
     | ((first | refine goCall_norm ?_ | refine goDCall_norm ?_); simp only [AV.norm, AV.normL, W2, W2C, W2B, hs, h1, h3, h4, w0, List.length_map]; first | refine goCall_p (pair21_ok _ _) (.inl rfl) ?_ | refine goCall_p (smallW_ok _) (.inl rfl) ?_ | refine goCall_p (qf) (.inl rfl) ?_ | refine goCall_p (z1) (.inl rfl) ?_ | refine goCall_p (z2) (.inl rfl) ?_ | refine goDCall_p (pair21_ok _ _) (.inl rfl) ?_ | refine goDCall_p (smallW_ok _) (.inl rfl) ?_ | refine goDCall_p (qf) (.inl rfl) ?_ | refine goDCall_p (z1) (.inl rfl) ?_ | refine goDCall_p (z2) (.inl rfl) ?_)
     | refine go_draw (id := 1) C_ok mixed 0 Try.f11.ntmps rfl (by kernel_rfl) (by decide) ?_
     | refine go_draw (id := 13) C_ok mixed 1 Try.f11.ntmps rfl (by kernel_rfl) (by decide) ?_
     | refine go_draw (id := 15) C_ok mixed 0 Try.f11.ntmps rfl (by kernel_rfl) (by decide) ?_
     | skip) <;> simp only [h, ↓upd_eq, ↓envL_cons, Go.Ab.W0, Go.Ab.WD, Go.Ab.WE, if_true, if_false, reduceIte, Nat.reduceEqDiff, Nat.reduceAdd, Nat.reduceLT, Nat.reduceLeDiff, reduceCtorEq, Nat.reduceMul, implies_true, forall_eq_or_imp, forall_eq, Nat.reducePow, W1, W1C, W1B, hs, h1, h3, h4, w0, List.length_map]
    refine aloop_trim [9, 2, 3, 4, 5] ?_
    simp only [List.map_cons, List.map_nil, ↓upd_eq, ↓envL_cons, Go.Ab.W0, Go.Ab.WD, Go.Ab.WE, if_true, if_false, reduceIte, Nat.reduceEqDiff, Nat.reduceAdd, Nat.reduceLT, Nat.reduceLeDiff, reduceCtorEq, Nat.reduceMul, implies_true, forall_eq_or_imp, forall_eq, Nat.reducePow, W1, W1C, W1B]
    refine goLoopS 1 (fun i : Nat => [(9, .int .i64 i)]) (fun _ => _) (fun i => i ≤ l.length) (fun i => l.length - i) C_ok 0 rfl rfl (Nat.zero_le _) (by decide) ?_
    rintro i hi
    simp only [List.drop_succ_cons, List.drop_zero, List.cons_append, List.nil_append]
    simp only [↓upd_eq, ↓envL_cons, Go.Ab.W0, Go.Ab.WD, Go.Ab.WE, if_true, if_false, reduceIte, Nat.reduceEqDiff, Nat.reduceAdd, Nat.reduceLT, Nat.reduceLeDiff, reduceCtorEq, Nat.reduceMul, implies_true, forall_eq_or_imp, forall_eq, Nat.reducePow, W1, W1C, W1B]
    refine goIf_d (fun hlt => ?_) (fun hlt => ?_)
    · have h := True.intro
      repeat' (first
       | (with_reducible first | refine goIf_b ?_ ?_ | refine goIf_n ?_ ?_ | refine goIf_d ?_ ?_ | refine goIf_split ?_ ?_ | refine goGb_b ?_ ?_ | refine goGb_n ?_ ?_ | refine goGb_d ?_ ?_ | refine goGb_split ?_ ?_ | refine goDGb_b ?_ ?_ | refine goDGb_n ?_ ?_ | refine goDGb_d ?_ ?_ | refine goDGb_split ?_ ?_) <;> intro h
       | ((first | refine goCall_norm ?_ | refine goDCall_norm ?_); simp only [AV.norm, AV.normL, W2, W2C, W2B, hlt, mapT_get hlt, List.length_map]; first | refine goCall_p (c1 i hlt) (.inl rfl) ?_ | refine goDCall_p (c1 i hlt) (.inl rfl) ?_)
       | refine go_draw (id := 1) C_ok mixed 0 Try.f11.ntmps rfl (by kernel_rfl) (by decide) ?_
       | refine go_draw (id := 13) C_ok mixed 1 Try.f11.ntmps rfl (by kernel_rfl) (by decide) ?_
       | refine go_draw (id := 15) C_ok mixed 0 Try.f11.ntmps rfl (by kernel_rfl) (by decide) ?_
       | skip) <;> simp only [h, ↓upd_eq, ↓envL_cons, Go.Ab.W0, Go.Ab.WD, Go.Ab.WE, if_true, if_false, reduceIte, Nat.reduceEqDiff, Nat.reduceAdd, Nat.reduceLT, Nat.reduceLeDiff, reduceCtorEq, Nat.reduceMul, implies_true, forall_eq_or_imp, forall_eq, Nat.reducePow, W1, W1C, W1B, hlt, mapT_get hlt, List.length_map]
      refine ⟨i + 1, hlt, by omega, weak_drop rfl rfl rfl rfl ?_ ?_ ?_⟩
      all_goals simp only [List.forall_mem_cons, mem_nil_all, frz_app, ↓upd_eq, ↓envL_cons, Nat.reduceEqDiff, if_true, if_false, reduceIte, true_and, and_true, and_self, true_or, or_true, implies_true, List.not_mem_nil, false_implies, AV.bel, AV.belL, AObj.bel, AV.norm, AV.normL, Bool.and_true, Bool.true_and, decide_true, decide_eq_true_eq, List.length_cons, List.length_nil, Nat.zero_add, Nat.reduceAdd, Nat.lt_add_one, Nat.lt_add_right_iff_pos, Nat.zero_lt_succ, Nat.zero_lt_one, Nat.reduceLT, List.take_succ_cons, List.take_zero, wrap_succ hlt hmax, map_bel, AV.belL, List.length_map]
    · have h := True.intro
      repeat' (first
       | (with_reducible first | refine goIf_b ?_ ?_ | refine goIf_n ?_ ?_ | refine goIf_d ?_ ?_ | refine goIf_split ?_ ?_ | refine goGb_b ?_ ?_ | refine goGb_n ?_ ?_ | refine goGb_d ?_ ?_ | refine goGb_split ?_ ?_ | refine goDGb_b ?_ ?_ | refine goDGb_n ?_ ?_ | refine goDGb_d ?_ ?_ | refine goDGb_split ?_ ?_) <;> intro h
       | ((first | refine goCall_norm ?_ | refine goDCall_norm ?_); simp only [AV.norm, AV.normL, W2, W2C, W2B, Go.Ab.W3, Int.reduceAdd, Int.reduceLT, Int.reduceToNat, Int.reduceBEq, Int.reduceBNe, Int.reduceLE, hlt, hw, hz, map_norm, mapB_norm, List.length_map]; first | refine goCall_p (two_ok _ _ _) (.inl rfl) ?_ | refine goCall_p (qc) (.inl rfl) ?_ | refine goCall_p (q) (.inl rfl) ?_ | refine goCall_p (wakes21_ok) (.inl rfl) ?_ | refine goDCall_p (two_ok _ _ _) (.inl rfl) ?_ | refine goDCall_p (qc) (.inl rfl) ?_ | refine goDCall_p (q) (.inl rfl) ?_ | refine goDCall_p (wakes21_ok) (.inl rfl) ?_)
       | refine go_draw (id := 1) C_ok mixed 0 Try.f11.ntmps rfl (by kernel_rfl) (by decide) ?_
       | refine go_draw (id := 13) C_ok mixed 1 Try.f11.ntmps rfl (by kernel_rfl) (by decide) ?_
       | refine go_draw (id := 15) C_ok mixed 0 Try.f11.ntmps rfl (by kernel_rfl) (by decide) ?_
       | refine goRound ?_ C_ok Try.f11.ntmps rfl (by decide)
       | skip) <;> simp only [h, ↓upd_eq, ↓envL_cons, Go.Ab.W0, Go.Ab.WD, Go.Ab.WE, if_true, if_false, reduceIte, Nat.reduceEqDiff, Nat.reduceAdd, Nat.reduceLT, Nat.reduceLeDiff, reduceCtorEq, Nat.reduceMul, implies_true, forall_eq_or_imp, forall_eq, Nat.reducePow, W1, W1C, W1B, Go.Ab.W3, Int.reduceAdd, Int.reduceLT, Int.reduceToNat, Int.reduceBEq, Int.reduceBNe, Int.reduceLE, hlt, hw, hz, map_norm, mapB_norm, List.length_map, cutNormal_normal]
  | true =>
    have cp := cast_put (l := labM m) (σ := sigB bs) x y hg
    have ct := (cast_turn (l := labM m) x y hg false).1
    rw [Bool.not_false] at ct
    have e1 : castE x.ty y.ty (labM m) = 0 := by rw [castE_co hx hy hl, hg]; rfl
    have e2 : castE x.ty y.ty (labM m + 1) = 0 := by rw [castE_co hx hy hl', hg]; rfl
    have e3 : castE (putS (sigB bs) x).ty (putS (sigB bs) y).ty (labM m) = 0 := by rw [castE_co hx' hy' hl, cp.1]; rfl
    have ok1 := (cast_okk hl x y hg false).1
    rw [e1, castC_co hx hy hl hg] at q
    rw [e2, castC_co hx hy hl' hg, ← ct] at g
    rw [e3, castC_co hx' hy' hl cp.1, (cp.2 false).1] at d
    have tu := turned_ok (castT (labM m) x y false) ok1
    have s1 := sameC_refl (castT (labM m) x y false).co
    have s2 := sameC_refl (castT (labM m) x y false).turn.co
    clear cp ct e1 e2 e3 ok1
    generalize (castT (labM m) x y false).turn.co = k2 at *
    generalize (castT (labM m) x y false).co = k1 at *
    generalize labM m = k at *
    generalize (putS (sigB bs) x).ty = x' at *
    generalize (putS (sigB bs) y).ty = y' at *
    refine pcalls_text C_ok Try.func11 rfl (by decide) (Nat.le_of_ble_eq_true rfl) (by decide) rfl fun ok H => ?_
    rw [Try.results11]
    have h := True.intro
    repeat' (first
     | (with_reducible first | refine goIf_b ?_ ?_ | refine goIf_n ?_ ?_ | refine goIf_d ?_ ?_ | refine goIf_split ?_ ?_ | refine goGb_b ?_ ?_ | refine goGb_n ?_ ?_ | refine goGb_d ?_ ?_ | refine goGb_split ?_ ?_ | refine goDGb_b ?_ ?_ | refine goDGb_n ?_ ?_ | refine goDGb_d ?_ ?_ | refine goDGb_split ?_ ?_) <;> intro h
     | ((first | refine goCall_norm ?_ | refine goDCall_norm ?_); simp only [AV.norm, AV.normL, W2, W2C, W2B, hs, h1, h3, h4, w0, List.length_map]; first | refine goCall_p (pair21_ok _ _) (.inl rfl) ?_ | refine goCall_p (smallW_ok _) (.inl rfl) ?_ | refine goCall_p (qf) (.inl rfl) ?_ | refine goCall_p (z1) (.inl rfl) ?_ | refine goCall_p (z2) (.inl rfl) ?_ | refine goDCall_p (pair21_ok _ _) (.inl rfl) ?_ | refine goDCall_p (smallW_ok _) (.inl rfl) ?_ | refine goDCall_p (qf) (.inl rfl) ?_ | refine goDCall_p (z1) (.inl rfl) ?_ | refine goDCall_p (z2) (.inl rfl) ?_)
     | refine go_draw (id := 1) C_ok mixed 0 Try.f11.ntmps rfl (by kernel_rfl) (by decide) ?_
     | refine go_draw (id := 13) C_ok mixed 1 Try.f11.ntmps rfl (by kernel_rfl) (by decide) ?_
     | refine go_draw (id := 15) C_ok mixed 0 Try.f11.ntmps rfl (by kernel_rfl) (by decide) ?_
     | skip) <;> simp only [h, ↓upd_eq, ↓envL_cons, Go.Ab.W0, Go.Ab.WD, Go.Ab.WE, if_true, if_false, reduceIte, Nat.reduceEqDiff, Nat.reduceAdd, Nat.reduceLT, Nat.reduceLeDiff, reduceCtorEq, Nat.reduceMul, implies_true, forall_eq_or_imp, forall_eq, Nat.reducePow, W1, W1C, W1B, hs, h1, h3, h4, w0, List.length_map]
    refine aloop_trim [9, 2, 3, 4, 5] ?_
    simp only [List.map_cons, List.map_nil, ↓upd_eq, ↓envL_cons, Go.Ab.W0, Go.Ab.WD, Go.Ab.WE, if_true, if_false, reduceIte, Nat.reduceEqDiff, Nat.reduceAdd, Nat.reduceLT, Nat.reduceLeDiff, reduceCtorEq, Nat.reduceMul, implies_true, forall_eq_or_imp, forall_eq, Nat.reducePow, W1, W1C, W1B]
    refine goLoopS 1 (fun i : Nat => [(9, .int .i64 i)]) (fun _ => _) (fun i => i ≤ l.length) (fun i => l.length - i) C_ok 0 rfl rfl (Nat.zero_le _) (by decide) ?_
    rintro i hi
    simp only [List.drop_succ_cons, List.drop_zero, List.cons_append, List.nil_append]
    simp only [↓upd_eq, ↓envL_cons, Go.Ab.W0, Go.Ab.WD, Go.Ab.WE, if_true, if_false, reduceIte, Nat.reduceEqDiff, Nat.reduceAdd, Nat.reduceLT, Nat.reduceLeDiff, reduceCtorEq, Nat.reduceMul, implies_true, forall_eq_or_imp, forall_eq, Nat.reducePow, W1, W1C, W1B]
    refine goIf_d (fun hlt => ?_) (fun hlt => ?_)
    · have h := True.intro
      repeat' (first
       | (with_reducible first | refine goIf_b ?_ ?_ | refine goIf_n ?_ ?_ | refine goIf_d ?_ ?_ | refine goIf_split ?_ ?_ | refine goGb_b ?_ ?_ | refine goGb_n ?_ ?_ | refine goGb_d ?_ ?_ | refine goGb_split ?_ ?_ | refine goDGb_b ?_ ?_ | refine goDGb_n ?_ ?_ | refine goDGb_d ?_ ?_ | refine goDGb_split ?_ ?_) <;> intro h
       | ((first | refine goCall_norm ?_ | refine goDCall_norm ?_); simp only [AV.norm, AV.normL, W2, W2C, W2B, hlt, mapT_get hlt, List.length_map]; first | refine goCall_p (c1 i hlt) (.inl rfl) ?_ | refine goDCall_p (c1 i hlt) (.inl rfl) ?_)
       | refine go_draw (id := 1) C_ok mixed 0 Try.f11.ntmps rfl (by kernel_rfl) (by decide) ?_
       | refine go_draw (id := 13) C_ok mixed 1 Try.f11.ntmps rfl (by kernel_rfl) (by decide) ?_
       | refine go_draw (id := 15) C_ok mixed 0 Try.f11.ntmps rfl (by kernel_rfl) (by decide) ?_
       | skip) <;> simp only [h, ↓upd_eq, ↓envL_cons, Go.Ab.W0, Go.Ab.WD, Go.Ab.WE, if_true, if_false, reduceIte, Nat.reduceEqDiff, Nat.reduceAdd, Nat.reduceLT, Nat.reduceLeDiff, reduceCtorEq, Nat.reduceMul, implies_true, forall_eq_or_imp, forall_eq, Nat.reducePow, W1, W1C, W1B, hlt, mapT_get hlt, List.length_map]
      refine ⟨i + 1, hlt, by omega, weak_drop rfl rfl rfl rfl ?_ ?_ ?_⟩
      all_goals simp only [List.forall_mem_cons, mem_nil_all, frz_app, ↓upd_eq, ↓envL_cons, Nat.reduceEqDiff, if_true, if_false, reduceIte, true_and, and_true, and_self, true_or, or_true, implies_true, List.not_mem_nil, false_implies, AV.bel, AV.belL, AObj.bel, AV.norm, AV.normL, Bool.and_true, Bool.true_and, decide_true, decide_eq_true_eq, List.length_cons, List.length_nil, Nat.zero_add, Nat.reduceAdd, Nat.lt_add_one, Nat.lt_add_right_iff_pos, Nat.zero_lt_succ, Nat.zero_lt_one, Nat.reduceLT, List.take_succ_cons, List.take_zero, wrap_succ hlt hmax, map_bel, AV.belL, List.length_map]
    · have h := True.intro
      repeat' (first
       | (with_reducible first | refine goIf_b ?_ ?_ | refine goIf_n ?_ ?_ | refine goIf_d ?_ ?_ | refine goIf_split ?_ ?_ | refine goGb_b ?_ ?_ | refine goGb_n ?_ ?_ | refine goGb_d ?_ ?_ | refine goGb_split ?_ ?_ | refine goDGb_b ?_ ?_ | refine goDGb_n ?_ ?_ | refine goDGb_d ?_ ?_ | refine goDGb_split ?_ ?_) <;> intro h
       | ((first | refine goCall_norm ?_ | refine goDCall_norm ?_); simp only [AV.norm, AV.normL, W2, W2C, W2B, Go.Ab.W3, Int.reduceAdd, Int.reduceLT, Int.reduceToNat, Int.reduceBEq, Int.reduceBNe, Int.reduceLE, hlt, hw, hz, wl, s1, s2, map_norm, mapB_norm, List.length_map]; first | refine goCall_p (two_ok _ _ _) (.inl rfl) ?_ | refine goCall_p (qc) (.inl rfl) ?_ | refine goCall_p (q) (.inl rfl) ?_ | refine goCall_p (p1) (.inl rfl) ?_ | refine goCall_p (p2) (.inl rfl) ?_ | refine goCall_p (d) (.inl rfl) ?_ | refine goCall_p (g) (.inl rfl) ?_ | refine goCall_p (tu) (.inl rfl) ?_ | refine goCall_p (sameC_ok _ _) (.inl rfl) ?_ | refine goCall_p (wakes21_ok) (.inl rfl) ?_ | refine goDCall_p (two_ok _ _ _) (.inl rfl) ?_ | refine goDCall_p (qc) (.inl rfl) ?_ | refine goDCall_p (q) (.inl rfl) ?_ | refine goDCall_p (p1) (.inl rfl) ?_ | refine goDCall_p (p2) (.inl rfl) ?_ | refine goDCall_p (d) (.inl rfl) ?_ | refine goDCall_p (g) (.inl rfl) ?_ | refine goDCall_p (tu) (.inl rfl) ?_ | refine goDCall_p (sameC_ok _ _) (.inl rfl) ?_ | refine goDCall_p (wakes21_ok) (.inl rfl) ?_)
       | refine go_draw (id := 1) C_ok mixed 0 Try.f11.ntmps rfl (by kernel_rfl) (by decide) ?_
       | refine go_draw (id := 13) C_ok mixed 1 Try.f11.ntmps rfl (by kernel_rfl) (by decide) ?_
       | refine go_draw (id := 15) C_ok mixed 0 Try.f11.ntmps rfl (by kernel_rfl) (by decide) ?_
       | refine goRound ?_ C_ok Try.f11.ntmps rfl (by decide)
       | skip) <;> simp only [h, ↓upd_eq, ↓envL_cons, Go.Ab.W0, Go.Ab.WD, Go.Ab.WE, if_true, if_false, reduceIte, Nat.reduceEqDiff, Nat.reduceAdd, Nat.reduceLT, Nat.reduceLeDiff, reduceCtorEq, Nat.reduceMul, implies_true, forall_eq_or_imp, forall_eq, Nat.reducePow, W1, W1C, W1B, Go.Ab.W3, Int.reduceAdd, Int.reduceLT, Int.reduceToNat, Int.reduceBEq, Int.reduceBNe, Int.reduceLE, hlt, hw, hz, wl, s1, s2, map_norm, mapB_norm, List.length_map, cutNormal_normal]

end Go.Proofs.Ytajdipeebpmifaa
