/- The law TransParts answers true, whatever the input. No condition. -/
import Derived.Test.YtajdipeebpmifaaPJa
import Derived.Test.YtajdipeebpmifaaPCa
set_option linter.unusedSimpArgs false
set_option linter.unusedVariables false
set_option maxHeartbeats 40000000
set_option maxRecDepth 100000
namespace Go.Proofs.Ytajdipeebpmifaa
open Go Go.Ab
attribute [local irreducible] PCalls ACalls CallK GoCall GoDCall GoIf GoGb GoDGb GoO GoD GoX GoDX GoG GoDG GoGv GoDGv Go ALoop

theorem cast_yes {x y : T} {m : Int} (hx : x.ok = true) (hy : y.ok = true) (hl : labelOK m = true) (h : agreeT x y = true) (n : Bool) : PCalls Try.prog 48 [emb x.ty, emb y.ty, .int .i64 m, .bool n] (.tup [embC (castT m x y n).co, .int .i64 0]) := by
  have := tCast_ok m hl x y hx hy n
  rw [if_pos h] at this; exact this
theorem cast_no {x y : T} {m : Int} (hx : x.ok = true) (hy : y.ok = true) (hl : labelOK m = true) (h : agreeT x y = false) (n : Bool) : PCalls Try.prog 48 [emb x.ty, emb y.ty, .int .i64 m, .bool n] (.tup [embC (.mk 0 0 0 false []), .int .i64 4]) := by
  have := tCast_ok m hl x y hx hy n
  rw [if_neg (by rw [h]; decide)] at this; exact this
theorem transParts_ok (a b c d : Ty) (l : Int) : PCalls Try.prog 12 [emb a, emb b, emb c, emb d, .int .i64 l] (.bool true) := by
  cases hs : pairT a b with
  | false =>
    refine pcalls_text C_ok Try.func12 rfl (by decide) (Nat.le_of_ble_eq_true rfl) (by decide) rfl fun ok H => ?_
    rw [Try.results12]
    have h := True.intro
    repeat' (first
     | (with_reducible first | refine goIf_b ?_ ?_ | refine goIf_n ?_ ?_ | refine goIf_d ?_ ?_ | refine goIf_split ?_ ?_ | refine goGb_b ?_ ?_ | refine goGb_n ?_ ?_ | refine goGb_d ?_ ?_ | refine goGb_split ?_ ?_ | refine goDGb_b ?_ ?_ | refine goDGb_n ?_ ?_ | refine goDGb_d ?_ ?_ | refine goDGb_split ?_ ?_) <;> intro h
     | ((first | refine goCall_norm ?_ | refine goDCall_norm ?_); simp only [AV.norm, AV.normL, W2, W2C, Go.Ab.W3, Int.reduceAdd, Int.reduceLT, Int.reduceToNat, Int.reduceBEq, Int.reduceBNe, Int.reduceLE, hs]; first | refine goCall_p (pair21_ok _ _) (.inl rfl) ?_ | refine goDCall_p (pair21_ok _ _) (.inl rfl) ?_)
     | refine go_draw (id := 1) C_ok mixed 0 Try.f12.ntmps rfl (by kernel_rfl) (by decide) ?_
     | refine go_draw (id := 7) C_ok mixed 1 Try.f12.ntmps rfl (by kernel_rfl) (by decide) ?_
     | refine go_draw (id := 8) C_ok mixed 1 Try.f12.ntmps rfl (by kernel_rfl) (by decide) ?_
     | refine go_draw (id := 9) C_ok mixed 1 Try.f12.ntmps rfl (by kernel_rfl) (by decide) ?_
     | refine goRound ?_ C_ok Try.f12.ntmps rfl (by decide)
     | skip) <;> simp only [h, ↓upd_eq, ↓envL_cons, Go.Ab.W0, Go.Ab.WD, Go.Ab.WE, if_true, if_false, reduceIte, Nat.reduceEqDiff, Nat.reduceAdd, Nat.reduceLT, Nat.reduceLeDiff, reduceCtorEq, Nat.reduceMul, implies_true, forall_eq_or_imp, forall_eq, Nat.reducePow, W1, W1C, Go.Ab.W3, Int.reduceAdd, Int.reduceLT, Int.reduceToNat, Int.reduceBEq, Int.reduceBNe, Int.reduceLE, hs, cutNormal_normal]
  | true =>
    cases hs' : pairT c d with
    | false =>
      refine pcalls_text C_ok Try.func12 rfl (by decide) (Nat.le_of_ble_eq_true rfl) (by decide) rfl fun ok H => ?_
      rw [Try.results12]
      have h := True.intro
      repeat' (first
       | (with_reducible first | refine goIf_b ?_ ?_ | refine goIf_n ?_ ?_ | refine goIf_d ?_ ?_ | refine goIf_split ?_ ?_ | refine goGb_b ?_ ?_ | refine goGb_n ?_ ?_ | refine goGb_d ?_ ?_ | refine goGb_split ?_ ?_ | refine goDGb_b ?_ ?_ | refine goDGb_n ?_ ?_ | refine goDGb_d ?_ ?_ | refine goDGb_split ?_ ?_) <;> intro h
       | ((first | refine goCall_norm ?_ | refine goDCall_norm ?_); simp only [AV.norm, AV.normL, W2, W2C, Go.Ab.W3, Int.reduceAdd, Int.reduceLT, Int.reduceToNat, Int.reduceBEq, Int.reduceBNe, Int.reduceLE, hs, hs']; first | refine goCall_p (pair21_ok _ _) (.inl rfl) ?_ | refine goDCall_p (pair21_ok _ _) (.inl rfl) ?_)
       | refine go_draw (id := 1) C_ok mixed 0 Try.f12.ntmps rfl (by kernel_rfl) (by decide) ?_
       | refine go_draw (id := 7) C_ok mixed 1 Try.f12.ntmps rfl (by kernel_rfl) (by decide) ?_
       | refine go_draw (id := 8) C_ok mixed 1 Try.f12.ntmps rfl (by kernel_rfl) (by decide) ?_
       | refine go_draw (id := 9) C_ok mixed 1 Try.f12.ntmps rfl (by kernel_rfl) (by decide) ?_
       | refine goRound ?_ C_ok Try.f12.ntmps rfl (by decide)
       | skip) <;> simp only [h, ↓upd_eq, ↓envL_cons, Go.Ab.W0, Go.Ab.WD, Go.Ab.WE, if_true, if_false, reduceIte, Nat.reduceEqDiff, Nat.reduceAdd, Nat.reduceLT, Nat.reduceLeDiff, reduceCtorEq, Nat.reduceMul, implies_true, forall_eq_or_imp, forall_eq, Nat.reducePow, W1, W1C, Go.Ab.W3, Int.reduceAdd, Int.reduceLT, Int.reduceToNat, Int.reduceBEq, Int.reduceBNe, Int.reduceLE, hs, hs', cutNormal_normal]
    | true =>
      obtain ⟨⟨a, rfl, ha⟩, ⟨b, rfl, hb⟩, n1, n2⟩ := pairT_iff hs
      obtain ⟨⟨c, rfl, hc⟩, ⟨d, rfl, hd⟩, n3, n4⟩ := pairT_iff hs'
      have hw := labM_w l
      have hz : ((1048576 : Int) ≠ 0) = True := by simp
      obtain ⟨hl, _, _⟩ := labM_ok l
      have z1 := rsize_ok a.ty (by omega)
      have z2 := rsize_ok b.ty (by omega)
      have z3 := rsize_ok c.ty (by omega)
      have z4 := rsize_ok d.ty (by omega)
      generalize nodes a.ty = k1 at *
      generalize nodes b.ty = k2 at *
      generalize nodes c.ty = k3 at *
      generalize nodes d.ty = k4 at *
      have w1 : IntKind.wrap .i64 ((k1 : Int) + k2) = ((k1 + k2 : Nat) : Int) := wrap_nat2 (by omega)
      have w2 : IntKind.wrap .i64 (((k1 + k2 : Nat) : Int) + k3) = ((k1 + k2 + k3 : Nat) : Int) := wrap_nat2 (by omega)
      have w3 : IntKind.wrap .i64 (((k1 + k2 + k3 : Nat) : Int) + k4) = ((k1 + k2 + k3 + k4 : Nat) : Int) := wrap_nat2 (by omega)
      by_cases hbig : ((k1 + k2 + k3 + k4 : Nat) : Int) > 300
      · refine pcalls_text C_ok Try.func12 rfl (by decide) (Nat.le_of_ble_eq_true rfl) (by decide) rfl fun ok H => ?_
        rw [Try.results12]
        have h := True.intro
        repeat' (first
         | (with_reducible first | refine goIf_b ?_ ?_ | refine goIf_n ?_ ?_ | refine goIf_d ?_ ?_ | refine goIf_split ?_ ?_ | refine goGb_b ?_ ?_ | refine goGb_n ?_ ?_ | refine goGb_d ?_ ?_ | refine goGb_split ?_ ?_ | refine goDGb_b ?_ ?_ | refine goDGb_n ?_ ?_ | refine goDGb_d ?_ ?_ | refine goDGb_split ?_ ?_) <;> intro h
         | ((first | refine goCall_norm ?_ | refine goDCall_norm ?_); simp only [AV.norm, AV.normL, W2, W2C, Go.Ab.W3, Int.reduceAdd, Int.reduceLT, Int.reduceToNat, Int.reduceBEq, Int.reduceBNe, Int.reduceLE, hs, hs', w1, w2, w3, hbig]; first | refine goCall_p (pair21_ok _ _) (.inl rfl) ?_ | refine goCall_p (z1) (.inl rfl) ?_ | refine goCall_p (z2) (.inl rfl) ?_ | refine goCall_p (z3) (.inl rfl) ?_ | refine goCall_p (z4) (.inl rfl) ?_ | refine goDCall_p (pair21_ok _ _) (.inl rfl) ?_ | refine goDCall_p (z1) (.inl rfl) ?_ | refine goDCall_p (z2) (.inl rfl) ?_ | refine goDCall_p (z3) (.inl rfl) ?_ | refine goDCall_p (z4) (.inl rfl) ?_)
         | refine go_draw (id := 1) C_ok mixed 0 Try.f12.ntmps rfl (by kernel_rfl) (by decide) ?_
         | refine go_draw (id := 7) C_ok mixed 1 Try.f12.ntmps rfl (by kernel_rfl) (by decide) ?_
         | refine go_draw (id := 8) C_ok mixed 1 Try.f12.ntmps rfl (by kernel_rfl) (by decide) ?_
         | refine go_draw (id := 9) C_ok mixed 1 Try.f12.ntmps rfl (by kernel_rfl) (by decide) ?_
         | refine goRound ?_ C_ok Try.f12.ntmps rfl (by decide)
         | skip) <;> simp only [h, ↓upd_eq, ↓envL_cons, Go.Ab.W0, Go.Ab.WD, Go.Ab.WE, if_true, if_false, reduceIte, Nat.reduceEqDiff, Nat.reduceAdd, Nat.reduceLT, Nat.reduceLeDiff, reduceCtorEq, Nat.reduceMul, implies_true, forall_eq_or_imp, forall_eq, Nat.reducePow, W1, W1C, Go.Ab.W3, Int.reduceAdd, Int.reduceLT, Int.reduceToNat, Int.reduceBEq, Int.reduceBNe, Int.reduceLE, hs, hs', w1, w2, w3, hbig, cutNormal_normal]
      have hp : (T.pair a b).ok = true := by simp [T.ok, ha, hb]
      have hp' : (T.pair c d).ok = true := by simp [T.ok, hc, hd]
      have hf : (T.fn a b).ok = true := by simp [T.ok, ha, hb]
      have hf' : (T.fn c d).ok = true := by simp [T.ok, hc, hd]
      have hL : (T.list a).ok = true := by simp [T.ok, ha]
      have hL' : (T.list c).ok = true := by simp [T.ok, hc]
      have gp : agreeT (.pair a b) (.pair c d) = (agreeT a c && agreeT b d) := rfl
      have gf : agreeT (.fn a b) (.fn c d) = (agreeT a c && agreeT b d) := rfl
      have gl : agreeT (.list a) (.list c) = agreeT a c := rfl
      have gc := agreeT_comm c a
      cases hA : agreeT a c with
      | false =>
        rw [hA] at gp gf gl gc
        rw [Bool.false_and] at gp gf
        have q1 := cast_no ha hc hl hA false
        have q3 := cast_no hc ha hl gc true
        have q4 := cast_no hp hp' hl gp false
        have q5 := cast_no hf hf' hl gf false
        have q6 := cast_no hL hL' hl gl false
        simp only [T.ty] at q4 q5 q6
        cases hB : agreeT b d with
        | false =>
          have q2 := cast_no hb hd hl hB false
          generalize labM l = m at *
          refine pcalls_text C_ok Try.func12 rfl (by decide) (Nat.le_of_ble_eq_true rfl) (by decide) rfl fun ok H => ?_
          rw [Try.results12]
          have h := True.intro
          repeat' (first
           | (with_reducible first | refine goIf_b ?_ ?_ | refine goIf_n ?_ ?_ | refine goIf_d ?_ ?_ | refine goIf_split ?_ ?_ | refine goGb_b ?_ ?_ | refine goGb_n ?_ ?_ | refine goGb_d ?_ ?_ | refine goGb_split ?_ ?_ | refine goDGb_b ?_ ?_ | refine goDGb_n ?_ ?_ | refine goDGb_d ?_ ?_ | refine goDGb_split ?_ ?_) <;> intro h
           | ((first | refine goCall_norm ?_ | refine goDCall_norm ?_); simp only [AV.norm, AV.normL, W2, W2C, Go.Ab.W3, Int.reduceAdd, Int.reduceLT, Int.reduceToNat, Int.reduceBEq, Int.reduceBNe, Int.reduceLE, hs, hs', w1, w2, w3, hbig, hw, hz]; first | refine goCall_p (pair21_ok _ _) (.inl rfl) ?_ | refine goCall_p (z1) (.inl rfl) ?_ | refine goCall_p (z2) (.inl rfl) ?_ | refine goCall_p (z3) (.inl rfl) ?_ | refine goCall_p (z4) (.inl rfl) ?_ | refine goCall_p (two_ok _ _ _) (.inl rfl) ?_ | refine goCall_p (list_ok _) (.inl rfl) ?_ | refine goCall_p (q1) (.inl rfl) ?_ | refine goCall_p (q2) (.inl rfl) ?_ | refine goCall_p (q3) (.inl rfl) ?_ | refine goCall_p (q4) (.inl rfl) ?_ | refine goCall_p (q5) (.inl rfl) ?_ | refine goCall_p (q6) (.inl rfl) ?_ | refine goCall_p (wakes21_ok) (.inl rfl) ?_ | refine goDCall_p (pair21_ok _ _) (.inl rfl) ?_ | refine goDCall_p (z1) (.inl rfl) ?_ | refine goDCall_p (z2) (.inl rfl) ?_ | refine goDCall_p (z3) (.inl rfl) ?_ | refine goDCall_p (z4) (.inl rfl) ?_ | refine goDCall_p (two_ok _ _ _) (.inl rfl) ?_ | refine goDCall_p (list_ok _) (.inl rfl) ?_ | refine goDCall_p (q1) (.inl rfl) ?_ | refine goDCall_p (q2) (.inl rfl) ?_ | refine goDCall_p (q3) (.inl rfl) ?_ | refine goDCall_p (q4) (.inl rfl) ?_ | refine goDCall_p (q5) (.inl rfl) ?_ | refine goDCall_p (q6) (.inl rfl) ?_ | refine goDCall_p (wakes21_ok) (.inl rfl) ?_)
           | refine go_draw (id := 1) C_ok mixed 0 Try.f12.ntmps rfl (by kernel_rfl) (by decide) ?_
           | refine go_draw (id := 7) C_ok mixed 1 Try.f12.ntmps rfl (by kernel_rfl) (by decide) ?_
           | refine go_draw (id := 8) C_ok mixed 1 Try.f12.ntmps rfl (by kernel_rfl) (by decide) ?_
           | refine go_draw (id := 9) C_ok mixed 1 Try.f12.ntmps rfl (by kernel_rfl) (by decide) ?_
           | refine goRound ?_ C_ok Try.f12.ntmps rfl (by decide)
           | skip) <;> simp only [h, ↓upd_eq, ↓envL_cons, Go.Ab.W0, Go.Ab.WD, Go.Ab.WE, if_true, if_false, reduceIte, Nat.reduceEqDiff, Nat.reduceAdd, Nat.reduceLT, Nat.reduceLeDiff, reduceCtorEq, Nat.reduceMul, implies_true, forall_eq_or_imp, forall_eq, Nat.reducePow, W1, W1C, Go.Ab.W3, Int.reduceAdd, Int.reduceLT, Int.reduceToNat, Int.reduceBEq, Int.reduceBNe, Int.reduceLE, hs, hs', w1, w2, w3, hbig, hw, hz, cutNormal_normal]
        | true =>
          have q2 := cast_yes hb hd hl hB false
          generalize (castT (labM l) b d false).co = x2 at *
          generalize labM l = m at *
          refine pcalls_text C_ok Try.func12 rfl (by decide) (Nat.le_of_ble_eq_true rfl) (by decide) rfl fun ok H => ?_
          rw [Try.results12]
          have h := True.intro
          repeat' (first
           | (with_reducible first | refine goIf_b ?_ ?_ | refine goIf_n ?_ ?_ | refine goIf_d ?_ ?_ | refine goIf_split ?_ ?_ | refine goGb_b ?_ ?_ | refine goGb_n ?_ ?_ | refine goGb_d ?_ ?_ | refine goGb_split ?_ ?_ | refine goDGb_b ?_ ?_ | refine goDGb_n ?_ ?_ | refine goDGb_d ?_ ?_ | refine goDGb_split ?_ ?_) <;> intro h
           | ((first | refine goCall_norm ?_ | refine goDCall_norm ?_); simp only [AV.norm, AV.normL, W2, W2C, Go.Ab.W3, Int.reduceAdd, Int.reduceLT, Int.reduceToNat, Int.reduceBEq, Int.reduceBNe, Int.reduceLE, hs, hs', w1, w2, w3, hbig, hw, hz]; first | refine goCall_p (pair21_ok _ _) (.inl rfl) ?_ | refine goCall_p (z1) (.inl rfl) ?_ | refine goCall_p (z2) (.inl rfl) ?_ | refine goCall_p (z3) (.inl rfl) ?_ | refine goCall_p (z4) (.inl rfl) ?_ | refine goCall_p (two_ok _ _ _) (.inl rfl) ?_ | refine goCall_p (list_ok _) (.inl rfl) ?_ | refine goCall_p (q1) (.inl rfl) ?_ | refine goCall_p (q2) (.inl rfl) ?_ | refine goCall_p (q3) (.inl rfl) ?_ | refine goCall_p (q4) (.inl rfl) ?_ | refine goCall_p (q5) (.inl rfl) ?_ | refine goCall_p (q6) (.inl rfl) ?_ | refine goCall_p (wakes21_ok) (.inl rfl) ?_ | refine goDCall_p (pair21_ok _ _) (.inl rfl) ?_ | refine goDCall_p (z1) (.inl rfl) ?_ | refine goDCall_p (z2) (.inl rfl) ?_ | refine goDCall_p (z3) (.inl rfl) ?_ | refine goDCall_p (z4) (.inl rfl) ?_ | refine goDCall_p (two_ok _ _ _) (.inl rfl) ?_ | refine goDCall_p (list_ok _) (.inl rfl) ?_ | refine goDCall_p (q1) (.inl rfl) ?_ | refine goDCall_p (q2) (.inl rfl) ?_ | refine goDCall_p (q3) (.inl rfl) ?_ | refine goDCall_p (q4) (.inl rfl) ?_ | refine goDCall_p (q5) (.inl rfl) ?_ | refine goDCall_p (q6) (.inl rfl) ?_ | refine goDCall_p (wakes21_ok) (.inl rfl) ?_)
           | refine go_draw (id := 1) C_ok mixed 0 Try.f12.ntmps rfl (by kernel_rfl) (by decide) ?_
           | refine go_draw (id := 7) C_ok mixed 1 Try.f12.ntmps rfl (by kernel_rfl) (by decide) ?_
           | refine go_draw (id := 8) C_ok mixed 1 Try.f12.ntmps rfl (by kernel_rfl) (by decide) ?_
           | refine go_draw (id := 9) C_ok mixed 1 Try.f12.ntmps rfl (by kernel_rfl) (by decide) ?_
           | refine goRound ?_ C_ok Try.f12.ntmps rfl (by decide)
           | skip) <;> simp only [h, ↓upd_eq, ↓envL_cons, Go.Ab.W0, Go.Ab.WD, Go.Ab.WE, if_true, if_false, reduceIte, Nat.reduceEqDiff, Nat.reduceAdd, Nat.reduceLT, Nat.reduceLeDiff, reduceCtorEq, Nat.reduceMul, implies_true, forall_eq_or_imp, forall_eq, Nat.reducePow, W1, W1C, Go.Ab.W3, Int.reduceAdd, Int.reduceLT, Int.reduceToNat, Int.reduceBEq, Int.reduceBNe, Int.reduceLE, hs, hs', w1, w2, w3, hbig, hw, hz, cutNormal_normal]
      | true =>
        rw [hA] at gp gf gl gc
        rw [Bool.true_and] at gp gf
        have q1 := cast_yes ha hc hl hA false
        have q3 := cast_yes hc ha hl gc true
        have q6 := cast_yes hL hL' hl gl false
        rw [cast_list] at q6
        simp only [T.ty] at q6
        cases hB : agreeT b d with
        | false =>
          rw [hB] at gp gf
          have q2 := cast_no hb hd hl hB false
          have q4 := cast_no hp hp' hl gp false
          have q5 := cast_no hf hf' hl gf false
          simp only [T.ty] at q4 q5
          generalize (mkList (castT (labM l) a c false)).co = x6 at *
          generalize (castT (labM l) a c false).co = x1 at *
          generalize (castT (labM l) c a true).co = x3 at *
          generalize labM l = m at *
          refine pcalls_text C_ok Try.func12 rfl (by decide) (Nat.le_of_ble_eq_true rfl) (by decide) rfl fun ok H => ?_
          rw [Try.results12]
          have h := True.intro
          repeat' (first
           | (with_reducible first | refine goIf_b ?_ ?_ | refine goIf_n ?_ ?_ | refine goIf_d ?_ ?_ | refine goIf_split ?_ ?_ | refine goGb_b ?_ ?_ | refine goGb_n ?_ ?_ | refine goGb_d ?_ ?_ | refine goGb_split ?_ ?_ | refine goDGb_b ?_ ?_ | refine goDGb_n ?_ ?_ | refine goDGb_d ?_ ?_ | refine goDGb_split ?_ ?_) <;> intro h
           | ((first | refine goCall_norm ?_ | refine goDCall_norm ?_); simp only [AV.norm, AV.normL, W2, W2C, Go.Ab.W3, Int.reduceAdd, Int.reduceLT, Int.reduceToNat, Int.reduceBEq, Int.reduceBNe, Int.reduceLE, hs, hs', w1, w2, w3, hbig, hw, hz]; first | refine goCall_p (pair21_ok _ _) (.inl rfl) ?_ | refine goCall_p (z1) (.inl rfl) ?_ | refine goCall_p (z2) (.inl rfl) ?_ | refine goCall_p (z3) (.inl rfl) ?_ | refine goCall_p (z4) (.inl rfl) ?_ | refine goCall_p (two_ok _ _ _) (.inl rfl) ?_ | refine goCall_p (list_ok _) (.inl rfl) ?_ | refine goCall_p (q1) (.inl rfl) ?_ | refine goCall_p (q2) (.inl rfl) ?_ | refine goCall_p (q3) (.inl rfl) ?_ | refine goCall_p (q4) (.inl rfl) ?_ | refine goCall_p (q5) (.inl rfl) ?_ | refine goCall_p (q6) (.inl rfl) ?_ | refine goCall_p (wakes21_ok) (.inl rfl) ?_ | refine goDCall_p (pair21_ok _ _) (.inl rfl) ?_ | refine goDCall_p (z1) (.inl rfl) ?_ | refine goDCall_p (z2) (.inl rfl) ?_ | refine goDCall_p (z3) (.inl rfl) ?_ | refine goDCall_p (z4) (.inl rfl) ?_ | refine goDCall_p (two_ok _ _ _) (.inl rfl) ?_ | refine goDCall_p (list_ok _) (.inl rfl) ?_ | refine goDCall_p (q1) (.inl rfl) ?_ | refine goDCall_p (q2) (.inl rfl) ?_ | refine goDCall_p (q3) (.inl rfl) ?_ | refine goDCall_p (q4) (.inl rfl) ?_ | refine goDCall_p (q5) (.inl rfl) ?_ | refine goDCall_p (q6) (.inl rfl) ?_ | refine goDCall_p (wakes21_ok) (.inl rfl) ?_)
           | refine go_draw (id := 1) C_ok mixed 0 Try.f12.ntmps rfl (by kernel_rfl) (by decide) ?_
           | refine go_draw (id := 7) C_ok mixed 1 Try.f12.ntmps rfl (by kernel_rfl) (by decide) ?_
           | refine go_draw (id := 8) C_ok mixed 1 Try.f12.ntmps rfl (by kernel_rfl) (by decide) ?_
           | refine go_draw (id := 9) C_ok mixed 1 Try.f12.ntmps rfl (by kernel_rfl) (by decide) ?_
           | refine goRound ?_ C_ok Try.f12.ntmps rfl (by decide)
           | skip) <;> simp only [h, ↓upd_eq, ↓envL_cons, Go.Ab.W0, Go.Ab.WD, Go.Ab.WE, if_true, if_false, reduceIte, Nat.reduceEqDiff, Nat.reduceAdd, Nat.reduceLT, Nat.reduceLeDiff, reduceCtorEq, Nat.reduceMul, implies_true, forall_eq_or_imp, forall_eq, Nat.reducePow, W1, W1C, Go.Ab.W3, Int.reduceAdd, Int.reduceLT, Int.reduceToNat, Int.reduceBEq, Int.reduceBNe, Int.reduceLE, hs, hs', w1, w2, w3, hbig, hw, hz, cutNormal_normal]
        | true =>
          rw [hB] at gp gf
          have q2 := cast_yes hb hd hl hB false
          have q4 := cast_yes hp hp' hl gp false
          have q5 := cast_yes hf hf' hl gf false
          rw [cast_pair] at q4
          rw [cast_fn] at q5
          simp only [T.ty, Bool.not_false] at q4 q5
          have o1 := of_pair (castT (labM l) a c false) (castT (labM l) b d false)
          have o2 := of_fun (castT (labM l) c a true) (castT (labM l) b d false)
          have o3 := of_list (castT (labM l) a c false)
          generalize (mkPair (castT (labM l) a c false) (castT (labM l) b d false)).co = x4 at *
          generalize (mkFn (castT (labM l) c a true) (castT (labM l) b d false)).co = x5 at *
          generalize (mkList (castT (labM l) a c false)).co = x6 at *
          generalize (castT (labM l) a c false).co = x1 at *
          generalize (castT (labM l) b d false).co = x2 at *
          generalize (castT (labM l) c a true).co = x3 at *
          generalize labM l = m at *
          refine pcalls_text C_ok Try.func12 rfl (by decide) (Nat.le_of_ble_eq_true rfl) (by decide) rfl fun ok H => ?_
          rw [Try.results12]
          have h := True.intro
          repeat' (first
           | (with_reducible first | refine goIf_b ?_ ?_ | refine goIf_n ?_ ?_ | refine goIf_d ?_ ?_ | refine goIf_split ?_ ?_ | refine goGb_b ?_ ?_ | refine goGb_n ?_ ?_ | refine goGb_d ?_ ?_ | refine goGb_split ?_ ?_ | refine goDGb_b ?_ ?_ | refine goDGb_n ?_ ?_ | refine goDGb_d ?_ ?_ | refine goDGb_split ?_ ?_) <;> intro h
           | ((first | refine goCall_norm ?_ | refine goDCall_norm ?_); simp only [AV.norm, AV.normL, W2, W2C, Go.Ab.W3, Int.reduceAdd, Int.reduceLT, Int.reduceToNat, Int.reduceBEq, Int.reduceBNe, Int.reduceLE, hs, hs', w1, w2, w3, hbig, hw, hz]; first | refine goCall_p (pair21_ok _ _) (.inl rfl) ?_ | refine goCall_p (z1) (.inl rfl) ?_ | refine goCall_p (z2) (.inl rfl) ?_ | refine goCall_p (z3) (.inl rfl) ?_ | refine goCall_p (z4) (.inl rfl) ?_ | refine goCall_p (two_ok _ _ _) (.inl rfl) ?_ | refine goCall_p (list_ok _) (.inl rfl) ?_ | refine goCall_p (q1) (.inl rfl) ?_ | refine goCall_p (q2) (.inl rfl) ?_ | refine goCall_p (q3) (.inl rfl) ?_ | refine goCall_p (q4) (.inl rfl) ?_ | refine goCall_p (q5) (.inl rfl) ?_ | refine goCall_p (q6) (.inl rfl) ?_ | refine goCall_p (o1) (.inl rfl) ?_ | refine goCall_p (o2) (.inl rfl) ?_ | refine goCall_p (o3) (.inl rfl) ?_ | refine goCall_p (wakes21_ok) (.inl rfl) ?_ | refine goDCall_p (pair21_ok _ _) (.inl rfl) ?_ | refine goDCall_p (z1) (.inl rfl) ?_ | refine goDCall_p (z2) (.inl rfl) ?_ | refine goDCall_p (z3) (.inl rfl) ?_ | refine goDCall_p (z4) (.inl rfl) ?_ | refine goDCall_p (two_ok _ _ _) (.inl rfl) ?_ | refine goDCall_p (list_ok _) (.inl rfl) ?_ | refine goDCall_p (q1) (.inl rfl) ?_ | refine goDCall_p (q2) (.inl rfl) ?_ | refine goDCall_p (q3) (.inl rfl) ?_ | refine goDCall_p (q4) (.inl rfl) ?_ | refine goDCall_p (q5) (.inl rfl) ?_ | refine goDCall_p (q6) (.inl rfl) ?_ | refine goDCall_p (o1) (.inl rfl) ?_ | refine goDCall_p (o2) (.inl rfl) ?_ | refine goDCall_p (o3) (.inl rfl) ?_ | refine goDCall_p (wakes21_ok) (.inl rfl) ?_)
           | refine go_draw (id := 1) C_ok mixed 0 Try.f12.ntmps rfl (by kernel_rfl) (by decide) ?_
           | refine go_draw (id := 7) C_ok mixed 1 Try.f12.ntmps rfl (by kernel_rfl) (by decide) ?_
           | refine go_draw (id := 8) C_ok mixed 1 Try.f12.ntmps rfl (by kernel_rfl) (by decide) ?_
           | refine go_draw (id := 9) C_ok mixed 1 Try.f12.ntmps rfl (by kernel_rfl) (by decide) ?_
           | refine goRound ?_ C_ok Try.f12.ntmps rfl (by decide)
           | skip) <;> simp only [h, ↓upd_eq, ↓envL_cons, Go.Ab.W0, Go.Ab.WD, Go.Ab.WE, if_true, if_false, reduceIte, Nat.reduceEqDiff, Nat.reduceAdd, Nat.reduceLT, Nat.reduceLeDiff, reduceCtorEq, Nat.reduceMul, implies_true, forall_eq_or_imp, forall_eq, Nat.reducePow, W1, W1C, Go.Ab.W3, Int.reduceAdd, Int.reduceLT, Int.reduceToNat, Int.reduceBEq, Int.reduceBNe, Int.reduceLE, hs, hs', w1, w2, w3, hbig, hw, hz, cutNormal_normal]

end Go.Proofs.Ytajdipeebpmifaa
