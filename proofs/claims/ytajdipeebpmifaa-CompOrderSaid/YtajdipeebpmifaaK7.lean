/- The law CompOrder answers true, whatever the input. No condition. -/
import Derived.Test.YtajdipeebpmifaaPKa
import Derived.Test.YtajdipeebpmifaaPCa
set_option linter.unusedSimpArgs false
set_option linter.unusedVariables false
set_option maxHeartbeats 4000000
set_option maxRecDepth 100000
namespace Go.Proofs.Ytajdipeebpmifaa
open Go Go.Ab
attribute [local irreducible] PCalls ACalls CallK GoCall GoDCall GoIf GoGb GoDGb GoO GoD GoX GoDX GoG GoDG GoGv GoDGv Go ALoop

theorem chain_agree (x y : T) (l : Int) (n : Bool) (hx : x.ok = true) (hy : y.ok = true) (hl : labelOK l = true) (h : castE x.ty y.ty l = 0) : ∃ k : K, castC x.ty y.ty l n = k.co ∧ k.ok = true ∧ fitsK k x y = true := by
  rw [castE_co hx hy hl] at h
  have ag : agreeT x y = true := by
    cases e : agreeT x y with
    | true => rfl
    | false => rw [e] at h; cases h
  exact ⟨_, castC_co hx hy hl ag, (cast_okk hl x y ag n).1, (cast_fits (l := l) x y ag n).1⟩
theorem both_chain {c d e : K} {x y z w : T} (hc : c.ok = true) (hd : d.ok = true) (he : e.ok = true) (f1 : fitsK c x y = true) (f2 : fitsK d y z = true) (f3 : fitsK e z w = true) : bothA c.co d.co e.co = true := by
  obtain ⟨p, p1, p2, p3⟩ := joinK_fits hc hd f1 f2
  obtain ⟨q, q1, q2, q3⟩ := joinK_fits hd he f2 f3
  obtain ⟨r, r1, r2, r3⟩ := joinK_fits p2 he p3 f3
  obtain ⟨s, s1, s2, s3⟩ := joinK_fits hc q2 f1 q3
  have g1 := joinE_of hc hd p1 p2
  have g2 := joinE_of hd he q1 q2
  have g3 := joinE_of p2 he r1 r2
  have g4 := joinE_of hc q2 s1 s2
  simp only [bothA, g1.1, g1.2, g2.1, g2.2, g3.1, g4.1, beq_self_eq_true, Bool.and_self]
theorem chain4 {l : List Ty} (h : chainT l = true) (hl : 4 ≤ l.length) : ∃ x y z w : T, ∃ m : List Ty, l = x.ty :: y.ty :: z.ty :: w.ty :: m ∧ x.ok = true ∧ y.ok = true ∧ z.ok = true ∧ w.ok = true := by
  match l, hl with
  | a :: b :: c :: d :: m, _ =>
    obtain ⟨x, rfl, hx, _⟩ := chain1_iff (chainT_mem h (t := a) (by simp))
    obtain ⟨y, rfl, hy, _⟩ := chain1_iff (chainT_mem h (t := b) (by simp))
    obtain ⟨z, rfl, hz, _⟩ := chain1_iff (chainT_mem h (t := c) (by simp))
    obtain ⟨w, rfl, hw, _⟩ := chain1_iff (chainT_mem h (t := d) (by simp))
    exact ⟨x, y, z, w, m, rfl, hx, hy, hz, hw⟩
theorem compOrder_ok (l : List Ty) (c d e : Co) : PCalls Try.prog 16 [.sl (l.map emb) .no, embC c, embC d, embC e] (.bool true) := by
  cases hv : heavyC [c, d, e] with
  | true =>
    refine pcalls_text C_ok Try.func16 rfl (by decide) (Nat.le_of_ble_eq_true rfl) (by decide) rfl fun ok H => ?_
    rw [Try.results16]
    have h := True.intro
    repeat' (first
     | (with_reducible first | refine goIf_b ?_ ?_ | refine goIf_n ?_ ?_ | refine goIf_d ?_ ?_ | refine goIf_split ?_ ?_ | refine goGb_b ?_ ?_ | refine goGb_n ?_ ?_ | refine goGb_d ?_ ?_ | refine goGb_split ?_ ?_ | refine goDGb_b ?_ ?_ | refine goDGb_n ?_ ?_ | refine goDGb_d ?_ ?_ | refine goDGb_split ?_ ?_) <;> intro h
     | ((first | refine goCall_norm ?_ | refine goDCall_norm ?_); simp only [AV.norm, AV.normL, W2, W2C, Go.Ab.W3, Int.reduceAdd, Int.reduceLT, Int.reduceToNat, Int.reduceBEq, Int.reduceBNe, Int.reduceLE, hv]; first | refine goCall_p (heavyC3_ok _ _ _) (.inl rfl) ?_ | refine goDCall_p (heavyC3_ok _ _ _) (.inl rfl) ?_)
     | refine go_draw (id := 4) C_ok mixed 1 Try.f16.ntmps rfl (by kernel_rfl) (by decide) ?_
     | refine go_draw (id := 5) C_ok mixed 1 Try.f16.ntmps rfl (by kernel_rfl) (by decide) ?_
     | refine go_draw (id := 6) C_ok mixed 1 Try.f16.ntmps rfl (by kernel_rfl) (by decide) ?_
     | refine goRound ?_ C_ok Try.f16.ntmps rfl (by decide)
     | skip) <;> simp only [h, ↓upd_eq, ↓envL_cons, Go.Ab.W0, Go.Ab.WD, Go.Ab.WE, if_true, if_false, reduceIte, Nat.reduceEqDiff, Nat.reduceAdd, Nat.reduceLT, Nat.reduceLeDiff, reduceCtorEq, Nat.reduceMul, implies_true, forall_eq_or_imp, forall_eq, Nat.reducePow, W1, W1C, Go.Ab.W3, Int.reduceAdd, Int.reduceLT, Int.reduceToNat, Int.reduceBEq, Int.reduceBNe, Int.reduceLE, hv, cutNormal_normal]
  | false =>
  cases hs : chainT l with
  | false =>
    refine pcalls_text C_ok Try.func16 rfl (by decide) (Nat.le_of_ble_eq_true rfl) (by decide) rfl fun ok H => ?_
    rw [Try.results16]
    have h := True.intro
    repeat' (first
     | (with_reducible first | refine goIf_b ?_ ?_ | refine goIf_n ?_ ?_ | refine goIf_d ?_ ?_ | refine goIf_split ?_ ?_ | refine goGb_b ?_ ?_ | refine goGb_n ?_ ?_ | refine goGb_d ?_ ?_ | refine goGb_split ?_ ?_ | refine goDGb_b ?_ ?_ | refine goDGb_n ?_ ?_ | refine goDGb_d ?_ ?_ | refine goDGb_split ?_ ?_) <;> intro h
     | ((first | refine goCall_norm ?_ | refine goDCall_norm ?_); simp only [AV.norm, AV.normL, W2, W2C, Go.Ab.W3, Int.reduceAdd, Int.reduceLT, Int.reduceToNat, Int.reduceBEq, Int.reduceBNe, Int.reduceLE, hv, hs]; first | refine goCall_p (heavyC3_ok _ _ _) (.inl rfl) ?_ | refine goCall_p (chain_ok _) (.inl rfl) ?_ | refine goDCall_p (heavyC3_ok _ _ _) (.inl rfl) ?_ | refine goDCall_p (chain_ok _) (.inl rfl) ?_)
     | refine go_draw (id := 4) C_ok mixed 1 Try.f16.ntmps rfl (by kernel_rfl) (by decide) ?_
     | refine go_draw (id := 5) C_ok mixed 1 Try.f16.ntmps rfl (by kernel_rfl) (by decide) ?_
     | refine go_draw (id := 6) C_ok mixed 1 Try.f16.ntmps rfl (by kernel_rfl) (by decide) ?_
     | refine goRound ?_ C_ok Try.f16.ntmps rfl (by decide)
     | skip) <;> simp only [h, ↓upd_eq, ↓envL_cons, Go.Ab.W0, Go.Ab.WD, Go.Ab.WE, if_true, if_false, reduceIte, Nat.reduceEqDiff, Nat.reduceAdd, Nat.reduceLT, Nat.reduceLeDiff, reduceCtorEq, Nat.reduceMul, implies_true, forall_eq_or_imp, forall_eq, Nat.reducePow, W1, W1C, Go.Ab.W3, Int.reduceAdd, Int.reduceLT, Int.reduceToNat, Int.reduceBEq, Int.reduceBNe, Int.reduceLE, hv, hs, cutNormal_normal]
  | true =>
  have b0 := both_ok c d e
  have hch := chain_ok l
  by_cases hl : (l.length : Int) ≥ 4
  · obtain ⟨x, y, z, w, m, rfl, hx, hy, hz, hw⟩ := chain4 hs (by omega)
    have q1 := tCastC_ok x.ty y.ty 1 false
    have q2 := tCastC_ok y.ty z.ty 2 true
    have q3 := tCastC_ok z.ty w.ty 3 false
    generalize chainT (x.ty :: y.ty :: z.ty :: w.ty :: m) = g at hs hch
    subst hs
    simp only [List.map_cons, List.length_cons] at hch hl ⊢
    have l0 : ((m.length : Int) + 1 + 1 + 1 + 1 ≥ 4) = True := by simp; omega
    have z0 : ((0 : Int) < ((m.length + 1 + 1 + 1 + 1 : Nat) : Int)) = True := by simp only [eq_iff_iff, iff_true]; omega
    have z1 : ((1 : Int) < ((m.length + 1 + 1 + 1 + 1 : Nat) : Int)) = True := by simp only [eq_iff_iff, iff_true]; omega
    have z2 : ((2 : Int) < ((m.length + 1 + 1 + 1 + 1 : Nat) : Int)) = True := by simp only [eq_iff_iff, iff_true]; omega
    have z3 : ((3 : Int) < ((m.length + 1 + 1 + 1 + 1 : Nat) : Int)) = True := by simp only [eq_iff_iff, iff_true]; omega
    by_cases e1 : castE x.ty y.ty 1 = 0
    · by_cases e2 : castE y.ty z.ty 2 = 0
      · by_cases e3 : castE z.ty w.ty 3 = 0
        · obtain ⟨k1, r1, o1, f1⟩ := chain_agree x y 1 false hx hy (by decide) e1
          obtain ⟨k2, r2, o2, f2⟩ := chain_agree y z 2 true hy hz (by decide) e2
          obtain ⟨k3, r3, o3, f3⟩ := chain_agree z w 3 false hz hw (by decide) e3
          have b1 := both_ok k1.co k2.co k3.co
          rw [both_chain o1 o2 o3 f1 f2 f3] at b1
          rw [e1, r1] at q1
          rw [e2, r2] at q2
          rw [e3, r3] at q3
          generalize k1.co = k1 at *
          generalize k2.co = k2 at *
          generalize k3.co = k3 at *
          refine pcalls_text C_ok Try.func16 rfl (by decide) (Nat.le_of_ble_eq_true rfl) (by decide) rfl fun ok H => ?_
          rw [Try.results16]
          have h := True.intro
          repeat' (first
           | (with_reducible first | refine goIf_b ?_ ?_ | refine goIf_n ?_ ?_ | refine goIf_d ?_ ?_ | refine goIf_split ?_ ?_ | refine goGb_b ?_ ?_ | refine goGb_n ?_ ?_ | refine goGb_d ?_ ?_ | refine goGb_split ?_ ?_ | refine goDGb_b ?_ ?_ | refine goDGb_n ?_ ?_ | refine goDGb_d ?_ ?_ | refine goDGb_split ?_ ?_) <;> intro h
           | ((first | refine goCall_norm ?_ | refine goDCall_norm ?_); simp only [AV.norm, AV.normL, W2, W2C, Go.Ab.W3, Int.reduceAdd, Int.reduceLT, Int.reduceToNat, Int.reduceBEq, Int.reduceBNe, Int.reduceLE, hv, hl, l0, z0, z1, z2, z3, List.length_map, List.length_cons]; first | refine goCall_p (heavyC3_ok _ _ _) (.inl rfl) ?_ | refine goCall_p (hch) (.inl rfl) ?_ | refine goCall_p (q1) (.inl rfl) ?_ | refine goCall_p (q2) (.inl rfl) ?_ | refine goCall_p (q3) (.inl rfl) ?_ | refine goCall_p (b1) (.inl rfl) ?_ | refine goCall_p (b0) (.inl rfl) ?_ | refine goCall_p (wakes22_ok) (.inl rfl) ?_ | refine goDCall_p (heavyC3_ok _ _ _) (.inl rfl) ?_ | refine goDCall_p (hch) (.inl rfl) ?_ | refine goDCall_p (q1) (.inl rfl) ?_ | refine goDCall_p (q2) (.inl rfl) ?_ | refine goDCall_p (q3) (.inl rfl) ?_ | refine goDCall_p (b1) (.inl rfl) ?_ | refine goDCall_p (b0) (.inl rfl) ?_ | refine goDCall_p (wakes22_ok) (.inl rfl) ?_)
           | refine go_draw (id := 4) C_ok mixed 1 Try.f16.ntmps rfl (by kernel_rfl) (by decide) ?_
           | refine go_draw (id := 5) C_ok mixed 1 Try.f16.ntmps rfl (by kernel_rfl) (by decide) ?_
           | refine go_draw (id := 6) C_ok mixed 1 Try.f16.ntmps rfl (by kernel_rfl) (by decide) ?_
           | refine goRound ?_ C_ok Try.f16.ntmps rfl (by decide)
           | skip) <;> simp only [h, ↓upd_eq, ↓envL_cons, Go.Ab.W0, Go.Ab.WD, Go.Ab.WE, if_true, if_false, reduceIte, Nat.reduceEqDiff, Nat.reduceAdd, Nat.reduceLT, Nat.reduceLeDiff, reduceCtorEq, Nat.reduceMul, implies_true, forall_eq_or_imp, forall_eq, Nat.reducePow, W1, W1C, Go.Ab.W3, Int.reduceAdd, Int.reduceLT, Int.reduceToNat, Int.reduceBEq, Int.reduceBNe, Int.reduceLE, hv, hl, l0, z0, z1, z2, z3, List.length_map, List.length_cons, cutNormal_normal]
        · have e3' : (castE z.ty w.ty 3 == 0) = false := by simpa using e3
          rw [e1] at q1
          rw [e2] at q2
          generalize castE z.ty w.ty 3 = n3 at *
          refine pcalls_text C_ok Try.func16 rfl (by decide) (Nat.le_of_ble_eq_true rfl) (by decide) rfl fun ok H => ?_
          rw [Try.results16]
          have h := True.intro
          repeat' (first
           | (with_reducible first | refine goIf_b ?_ ?_ | refine goIf_n ?_ ?_ | refine goIf_d ?_ ?_ | refine goIf_split ?_ ?_ | refine goGb_b ?_ ?_ | refine goGb_n ?_ ?_ | refine goGb_d ?_ ?_ | refine goGb_split ?_ ?_ | refine goDGb_b ?_ ?_ | refine goDGb_n ?_ ?_ | refine goDGb_d ?_ ?_ | refine goDGb_split ?_ ?_) <;> intro h
           | ((first | refine goCall_norm ?_ | refine goDCall_norm ?_); simp only [AV.norm, AV.normL, W2, W2C, Go.Ab.W3, Int.reduceAdd, Int.reduceLT, Int.reduceToNat, Int.reduceBEq, Int.reduceBNe, Int.reduceLE, hv, hl, l0, z0, z1, z2, z3, e3', List.length_map, List.length_cons]; first | refine goCall_p (heavyC3_ok _ _ _) (.inl rfl) ?_ | refine goCall_p (hch) (.inl rfl) ?_ | refine goCall_p (q1) (.inl rfl) ?_ | refine goCall_p (q2) (.inl rfl) ?_ | refine goCall_p (q3) (.inl rfl) ?_ | refine goCall_p (b0) (.inl rfl) ?_ | refine goCall_p (wakes22_ok) (.inl rfl) ?_ | refine goDCall_p (heavyC3_ok _ _ _) (.inl rfl) ?_ | refine goDCall_p (hch) (.inl rfl) ?_ | refine goDCall_p (q1) (.inl rfl) ?_ | refine goDCall_p (q2) (.inl rfl) ?_ | refine goDCall_p (q3) (.inl rfl) ?_ | refine goDCall_p (b0) (.inl rfl) ?_ | refine goDCall_p (wakes22_ok) (.inl rfl) ?_)
           | refine go_draw (id := 4) C_ok mixed 1 Try.f16.ntmps rfl (by kernel_rfl) (by decide) ?_
           | refine go_draw (id := 5) C_ok mixed 1 Try.f16.ntmps rfl (by kernel_rfl) (by decide) ?_
           | refine go_draw (id := 6) C_ok mixed 1 Try.f16.ntmps rfl (by kernel_rfl) (by decide) ?_
           | refine goRound ?_ C_ok Try.f16.ntmps rfl (by decide)
           | skip) <;> simp only [h, ↓upd_eq, ↓envL_cons, Go.Ab.W0, Go.Ab.WD, Go.Ab.WE, if_true, if_false, reduceIte, Nat.reduceEqDiff, Nat.reduceAdd, Nat.reduceLT, Nat.reduceLeDiff, reduceCtorEq, Nat.reduceMul, implies_true, forall_eq_or_imp, forall_eq, Nat.reducePow, W1, W1C, Go.Ab.W3, Int.reduceAdd, Int.reduceLT, Int.reduceToNat, Int.reduceBEq, Int.reduceBNe, Int.reduceLE, hv, hl, l0, z0, z1, z2, z3, e3', List.length_map, List.length_cons, cutNormal_normal]
      · have e2' : (castE y.ty z.ty 2 == 0) = false := by simpa using e2
        rw [e1] at q1
        generalize castE y.ty z.ty 2 = n2 at *
        refine pcalls_text C_ok Try.func16 rfl (by decide) (Nat.le_of_ble_eq_true rfl) (by decide) rfl fun ok H => ?_
        rw [Try.results16]
        have h := True.intro
        repeat' (first
         | (with_reducible first | refine goIf_b ?_ ?_ | refine goIf_n ?_ ?_ | refine goIf_d ?_ ?_ | refine goIf_split ?_ ?_ | refine goGb_b ?_ ?_ | refine goGb_n ?_ ?_ | refine goGb_d ?_ ?_ | refine goGb_split ?_ ?_ | refine goDGb_b ?_ ?_ | refine goDGb_n ?_ ?_ | refine goDGb_d ?_ ?_ | refine goDGb_split ?_ ?_) <;> intro h
         | ((first | refine goCall_norm ?_ | refine goDCall_norm ?_); simp only [AV.norm, AV.normL, W2, W2C, Go.Ab.W3, Int.reduceAdd, Int.reduceLT, Int.reduceToNat, Int.reduceBEq, Int.reduceBNe, Int.reduceLE, hv, hl, l0, z0, z1, z2, z3, e2', List.length_map, List.length_cons]; first | refine goCall_p (heavyC3_ok _ _ _) (.inl rfl) ?_ | refine goCall_p (hch) (.inl rfl) ?_ | refine goCall_p (q1) (.inl rfl) ?_ | refine goCall_p (q2) (.inl rfl) ?_ | refine goCall_p (q3) (.inl rfl) ?_ | refine goCall_p (b0) (.inl rfl) ?_ | refine goCall_p (wakes22_ok) (.inl rfl) ?_ | refine goDCall_p (heavyC3_ok _ _ _) (.inl rfl) ?_ | refine goDCall_p (hch) (.inl rfl) ?_ | refine goDCall_p (q1) (.inl rfl) ?_ | refine goDCall_p (q2) (.inl rfl) ?_ | refine goDCall_p (q3) (.inl rfl) ?_ | refine goDCall_p (b0) (.inl rfl) ?_ | refine goDCall_p (wakes22_ok) (.inl rfl) ?_)
         | refine go_draw (id := 4) C_ok mixed 1 Try.f16.ntmps rfl (by kernel_rfl) (by decide) ?_
         | refine go_draw (id := 5) C_ok mixed 1 Try.f16.ntmps rfl (by kernel_rfl) (by decide) ?_
         | refine go_draw (id := 6) C_ok mixed 1 Try.f16.ntmps rfl (by kernel_rfl) (by decide) ?_
         | refine goRound ?_ C_ok Try.f16.ntmps rfl (by decide)
         | skip) <;> simp only [h, ↓upd_eq, ↓envL_cons, Go.Ab.W0, Go.Ab.WD, Go.Ab.WE, if_true, if_false, reduceIte, Nat.reduceEqDiff, Nat.reduceAdd, Nat.reduceLT, Nat.reduceLeDiff, reduceCtorEq, Nat.reduceMul, implies_true, forall_eq_or_imp, forall_eq, Nat.reducePow, W1, W1C, Go.Ab.W3, Int.reduceAdd, Int.reduceLT, Int.reduceToNat, Int.reduceBEq, Int.reduceBNe, Int.reduceLE, hv, hl, l0, z0, z1, z2, z3, e2', List.length_map, List.length_cons, cutNormal_normal]
    · have e1' : (castE x.ty y.ty 1 == 0) = false := by simpa using e1
      generalize castE x.ty y.ty 1 = n1 at *
      refine pcalls_text C_ok Try.func16 rfl (by decide) (Nat.le_of_ble_eq_true rfl) (by decide) rfl fun ok H => ?_
      rw [Try.results16]
      have h := True.intro
      repeat' (first
       | (with_reducible first | refine goIf_b ?_ ?_ | refine goIf_n ?_ ?_ | refine goIf_d ?_ ?_ | refine goIf_split ?_ ?_ | refine goGb_b ?_ ?_ | refine goGb_n ?_ ?_ | refine goGb_d ?_ ?_ | refine goGb_split ?_ ?_ | refine goDGb_b ?_ ?_ | refine goDGb_n ?_ ?_ | refine goDGb_d ?_ ?_ | refine goDGb_split ?_ ?_) <;> intro h
       | ((first | refine goCall_norm ?_ | refine goDCall_norm ?_); simp only [AV.norm, AV.normL, W2, W2C, Go.Ab.W3, Int.reduceAdd, Int.reduceLT, Int.reduceToNat, Int.reduceBEq, Int.reduceBNe, Int.reduceLE, hv, hl, l0, z0, z1, z2, z3, e1', List.length_map, List.length_cons]; first | refine goCall_p (heavyC3_ok _ _ _) (.inl rfl) ?_ | refine goCall_p (hch) (.inl rfl) ?_ | refine goCall_p (q1) (.inl rfl) ?_ | refine goCall_p (q2) (.inl rfl) ?_ | refine goCall_p (q3) (.inl rfl) ?_ | refine goCall_p (b0) (.inl rfl) ?_ | refine goCall_p (wakes22_ok) (.inl rfl) ?_ | refine goDCall_p (heavyC3_ok _ _ _) (.inl rfl) ?_ | refine goDCall_p (hch) (.inl rfl) ?_ | refine goDCall_p (q1) (.inl rfl) ?_ | refine goDCall_p (q2) (.inl rfl) ?_ | refine goDCall_p (q3) (.inl rfl) ?_ | refine goDCall_p (b0) (.inl rfl) ?_ | refine goDCall_p (wakes22_ok) (.inl rfl) ?_)
       | refine go_draw (id := 4) C_ok mixed 1 Try.f16.ntmps rfl (by kernel_rfl) (by decide) ?_
       | refine go_draw (id := 5) C_ok mixed 1 Try.f16.ntmps rfl (by kernel_rfl) (by decide) ?_
       | refine go_draw (id := 6) C_ok mixed 1 Try.f16.ntmps rfl (by kernel_rfl) (by decide) ?_
       | refine goRound ?_ C_ok Try.f16.ntmps rfl (by decide)
       | skip) <;> simp only [h, ↓upd_eq, ↓envL_cons, Go.Ab.W0, Go.Ab.WD, Go.Ab.WE, if_true, if_false, reduceIte, Nat.reduceEqDiff, Nat.reduceAdd, Nat.reduceLT, Nat.reduceLeDiff, reduceCtorEq, Nat.reduceMul, implies_true, forall_eq_or_imp, forall_eq, Nat.reducePow, W1, W1C, Go.Ab.W3, Int.reduceAdd, Int.reduceLT, Int.reduceToNat, Int.reduceBEq, Int.reduceBNe, Int.reduceLE, hv, hl, l0, z0, z1, z2, z3, e1', List.length_map, List.length_cons, cutNormal_normal]
  · refine pcalls_text C_ok Try.func16 rfl (by decide) (Nat.le_of_ble_eq_true rfl) (by decide) rfl fun ok H => ?_
    rw [Try.results16]
    have h := True.intro
    repeat' (first
     | (with_reducible first | refine goIf_b ?_ ?_ | refine goIf_n ?_ ?_ | refine goIf_d ?_ ?_ | refine goIf_split ?_ ?_ | refine goGb_b ?_ ?_ | refine goGb_n ?_ ?_ | refine goGb_d ?_ ?_ | refine goGb_split ?_ ?_ | refine goDGb_b ?_ ?_ | refine goDGb_n ?_ ?_ | refine goDGb_d ?_ ?_ | refine goDGb_split ?_ ?_) <;> intro h
     | ((first | refine goCall_norm ?_ | refine goDCall_norm ?_); simp only [AV.norm, AV.normL, W2, W2C, Go.Ab.W3, Int.reduceAdd, Int.reduceLT, Int.reduceToNat, Int.reduceBEq, Int.reduceBNe, Int.reduceLE, hv, hs, hl, List.length_map]; first | refine goCall_p (heavyC3_ok _ _ _) (.inl rfl) ?_ | refine goCall_p (hch) (.inl rfl) ?_ | refine goCall_p (b0) (.inl rfl) ?_ | refine goCall_p (wakes22_ok) (.inl rfl) ?_ | refine goDCall_p (heavyC3_ok _ _ _) (.inl rfl) ?_ | refine goDCall_p (hch) (.inl rfl) ?_ | refine goDCall_p (b0) (.inl rfl) ?_ | refine goDCall_p (wakes22_ok) (.inl rfl) ?_)
     | refine go_draw (id := 4) C_ok mixed 1 Try.f16.ntmps rfl (by kernel_rfl) (by decide) ?_
     | refine go_draw (id := 5) C_ok mixed 1 Try.f16.ntmps rfl (by kernel_rfl) (by decide) ?_
     | refine go_draw (id := 6) C_ok mixed 1 Try.f16.ntmps rfl (by kernel_rfl) (by decide) ?_
     | refine goRound ?_ C_ok Try.f16.ntmps rfl (by decide)
     | skip) <;> simp only [h, ↓upd_eq, ↓envL_cons, Go.Ab.W0, Go.Ab.WD, Go.Ab.WE, if_true, if_false, reduceIte, Nat.reduceEqDiff, Nat.reduceAdd, Nat.reduceLT, Nat.reduceLeDiff, reduceCtorEq, Nat.reduceMul, implies_true, forall_eq_or_imp, forall_eq, Nat.reducePow, W1, W1C, Go.Ab.W3, Int.reduceAdd, Int.reduceLT, Int.reduceToNat, Int.reduceBEq, Int.reduceBNe, Int.reduceLE, hv, hs, hl, List.length_map, cutNormal_normal]

end Go.Proofs.Ytajdipeebpmifaa
