/- The law TransFits answers true, whatever the input. No condition. -/
import Derived.Test.YtajdipeebpmifaaJ1
import Derived.Test.YtajdipeebpmifaaPCa
import Derived.Test.YtajdipeebpmifaaPFa
set_option linter.unusedSimpArgs false
set_option linter.unusedVariables false
set_option maxHeartbeats 4000000
set_option maxRecDepth 100000
namespace Go.Proofs.Ytajdipeebpmifaa
open Go Go.Ab
attribute [local irreducible] PCalls ACalls CallK GoCall GoDCall GoIf GoGb GoDGb GoO GoD GoX GoDX GoG GoDG GoGv GoDGv Go ALoop

theorem transFits_ok (a b : Ty) (l : Int) (n : Bool) : PCalls Try.prog 14 [emb a, emb b, .int .i64 l, .bool n] (.bool true) := by
  cases hs : pairT a b with
  | false =>
    refine pcalls_text C_ok Try.func14 rfl (by decide) (Nat.le_of_ble_eq_true rfl) (by decide) rfl fun ok H => ?_
    rw [Try.results14]
    have h := True.intro
    repeat' (first
     | (with_reducible first | refine goIf_b ?_ ?_ | refine goIf_n ?_ ?_ | refine goIf_d ?_ ?_ | refine goIf_split ?_ ?_ | refine goGb_b ?_ ?_ | refine goGb_n ?_ ?_ | refine goGb_d ?_ ?_ | refine goGb_split ?_ ?_ | refine goDGb_b ?_ ?_ | refine goDGb_n ?_ ?_ | refine goDGb_d ?_ ?_ | refine goDGb_split ?_ ?_) <;> intro h
     | ((first | refine goCall_norm ?_ | refine goDCall_norm ?_); simp only [AV.norm, AV.normL, W2, W2C, Go.Ab.W3, Int.reduceAdd, Int.reduceLT, Int.reduceToNat, Int.reduceBEq, Int.reduceBNe, Int.reduceLE, hs]; first | refine goCall_p (pair21_ok _ _) (.inl rfl) ?_ | refine goDCall_p (pair21_ok _ _) (.inl rfl) ?_)
     | refine go_draw (id := 9) C_ok mixed 0 Try.f14.ntmps rfl (by kernel_rfl) (by decide) ?_
     | refine goRound ?_ C_ok Try.f14.ntmps rfl (by decide)
     | skip) <;> simp only [h, ↓upd_eq, ↓envL_cons, Go.Ab.W0, Go.Ab.WD, Go.Ab.WE, if_true, if_false, reduceIte, Nat.reduceEqDiff, Nat.reduceAdd, Nat.reduceLT, Nat.reduceLeDiff, reduceCtorEq, Nat.reduceMul, implies_true, forall_eq_or_imp, forall_eq, Nat.reducePow, W1, W1C, Go.Ab.W3, Int.reduceAdd, Int.reduceLT, Int.reduceToNat, Int.reduceBEq, Int.reduceBNe, Int.reduceLE, hs, cutNormal_normal]
  | true =>
    obtain ⟨⟨x, rfl, hx⟩, ⟨y, rfl, hy⟩, n1, n2⟩ := pairT_iff hs
    have hw := labM_w l
    have hz : ((1048576 : Int) ≠ 0) = True := by simp
    obtain ⟨hl, _, _⟩ := labM_ok l
    have ra : right x.ty = true := by rw [T.right_ty]; exact hx
    have rb : right y.ty = true := by rw [T.right_ty]; exact hy
    have q := tCastC_ok x.ty y.ty (labM l) n
    have g := pagree_ok x.ty y.ty
    rw [ra, rb, T.agree_ty] at g
    simp only [Bool.true_and] at g
    cases hg : agreeT x y with
    | false =>
      have e1 : castE x.ty y.ty (labM l) = 4 := by rw [castE_co hx hy hl, hg]; rfl
      have e2 : castC x.ty y.ty (labM l) n = .mk 0 0 0 false [] := castC_no (by rw [e1]; decide)
      rw [e1, e2] at q
      rw [hg] at g
      generalize labM l = m at hw q
      refine pcalls_text C_ok Try.func14 rfl (by decide) (Nat.le_of_ble_eq_true rfl) (by decide) rfl fun ok H => ?_
      rw [Try.results14]
      have h := True.intro
      repeat' (first
       | (with_reducible first | refine goIf_b ?_ ?_ | refine goIf_n ?_ ?_ | refine goIf_d ?_ ?_ | refine goIf_split ?_ ?_ | refine goGb_b ?_ ?_ | refine goGb_n ?_ ?_ | refine goGb_d ?_ ?_ | refine goGb_split ?_ ?_ | refine goDGb_b ?_ ?_ | refine goDGb_n ?_ ?_ | refine goDGb_d ?_ ?_ | refine goDGb_split ?_ ?_) <;> intro h
       | ((first | refine goCall_norm ?_ | refine goDCall_norm ?_); simp only [AV.norm, AV.normL, W2, W2C, Go.Ab.W3, Int.reduceAdd, Int.reduceLT, Int.reduceToNat, Int.reduceBEq, Int.reduceBNe, Int.reduceLE, hs, hw, hz]; first | refine goCall_p (pair21_ok _ _) (.inl rfl) ?_ | refine goCall_p (g) (.inl rfl) ?_ | refine goCall_p (q) (.inl rfl) ?_ | refine goCall_p (wakes21_ok) (.inl rfl) ?_ | refine goDCall_p (pair21_ok _ _) (.inl rfl) ?_ | refine goDCall_p (g) (.inl rfl) ?_ | refine goDCall_p (q) (.inl rfl) ?_ | refine goDCall_p (wakes21_ok) (.inl rfl) ?_)
       | refine go_draw (id := 9) C_ok mixed 0 Try.f14.ntmps rfl (by kernel_rfl) (by decide) ?_
       | refine goRound ?_ C_ok Try.f14.ntmps rfl (by decide)
       | skip) <;> simp only [h, ↓upd_eq, ↓envL_cons, Go.Ab.W0, Go.Ab.WD, Go.Ab.WE, if_true, if_false, reduceIte, Nat.reduceEqDiff, Nat.reduceAdd, Nat.reduceLT, Nat.reduceLeDiff, reduceCtorEq, Nat.reduceMul, implies_true, forall_eq_or_imp, forall_eq, Nat.reducePow, W1, W1C, Go.Ab.W3, Int.reduceAdd, Int.reduceLT, Int.reduceToNat, Int.reduceBEq, Int.reduceBNe, Int.reduceLE, hs, hw, hz, cutNormal_normal]
    | true =>
      have e1 : castE x.ty y.ty (labM l) = 0 := by rw [castE_co hx hy hl, hg]; rfl
      have e2 := castC_co (n := n) hx hy hl hg
      have ok := (cast_okk hl x y hg n).1
      have ft := (cast_fits (l := labM l) x y hg n).1
      have ht := (cast_h (l := labM l) x y hg n).1
      have si : ((castT (labM l) x y n).co.kind == 1) = same x.ty y.ty := by
        rw [T.same_ty, Bool.eq_iff_iff, decide_eq_true_eq, ← cast_isId (l := labM l) hg n, ← isId_iff, ← K.kind_id]
        simp
      rw [e1, e2] at q
      rw [hg] at g
      have r1 : rightC (castT (labM l) x y n).co = true := by rw [K.right_co]; exact ok
      have r2 := cFitsC_ok (castT (labM l) x y n).co x.ty y.ty
      rw [fitsC_co ok hx hy, ft] at r2
      have hd : heightC (castT (labM l) x y n).co ≤ max (depth x.ty) (depth y.ty) := by rw [K.height_co, T.deep_ty, T.deep_ty]; exact ht
      have n3 : nodesC (castT (labM l) x y n).co ≤ 1000000000 := by
        have := (cast_s (l := labM l) x y hg n).1
        rw [T.nodes_ty] at n1 n2
        rw [K.nodes_co]; omega
      have r3 := cHeight_ok _ n3
      rw [r1, if_pos rfl] at r3
      have r4 := ccheck_ok (castT (labM l) x y n).co
      rw [r1, if_pos rfl] at r4
      have d1 := rdepth_ok x.ty (by omega)
      have d2 := rdepth_ok y.ty (by omega)
      have hle : ((heightC (castT (labM l) x y n).co : Int) ≤ ((max (depth x.ty) (depth y.ty) : Nat) : Int)) = True := by simpa using hd
      generalize (castT (labM l) x y n).co = k at q r2 r3 r4 si hle
      generalize labM l = m at hw q
      refine pcalls_text C_ok Try.func14 rfl (by decide) (Nat.le_of_ble_eq_true rfl) (by decide) rfl fun ok H => ?_
      rw [Try.results14]
      have h := True.intro
      repeat' (first
       | (with_reducible first | refine goIf_b ?_ ?_ | refine goIf_n ?_ ?_ | refine goIf_d ?_ ?_ | refine goIf_split ?_ ?_ | refine goGb_b ?_ ?_ | refine goGb_n ?_ ?_ | refine goGb_d ?_ ?_ | refine goGb_split ?_ ?_ | refine goDGb_b ?_ ?_ | refine goDGb_n ?_ ?_ | refine goDGb_d ?_ ?_ | refine goDGb_split ?_ ?_) <;> intro h
       | ((first | refine goCall_norm ?_ | refine goDCall_norm ?_); simp only [AV.norm, AV.normL, W2, W2C, Go.Ab.W3, Int.reduceAdd, Int.reduceLT, Int.reduceToNat, Int.reduceBEq, Int.reduceBNe, Int.reduceLE, hs, hw, hz, si, wrap_max, hle, beq_self_eq_true]; first | refine goCall_p (pair21_ok _ _) (.inl rfl) ?_ | refine goCall_p (g) (.inl rfl) ?_ | refine goCall_p (q) (.inl rfl) ?_ | refine goCall_p (r2) (.inl rfl) ?_ | refine goCall_p (r3) (.inl rfl) ?_ | refine goCall_p (r4) (.inl rfl) ?_ | refine goCall_p (d1) (.inl rfl) ?_ | refine goCall_p (d2) (.inl rfl) ?_ | refine goCall_p (rsame_ok _ _) (.inl rfl) ?_ | refine goCall_p (wakes21_ok) (.inl rfl) ?_ | refine goDCall_p (pair21_ok _ _) (.inl rfl) ?_ | refine goDCall_p (g) (.inl rfl) ?_ | refine goDCall_p (q) (.inl rfl) ?_ | refine goDCall_p (r2) (.inl rfl) ?_ | refine goDCall_p (r3) (.inl rfl) ?_ | refine goDCall_p (r4) (.inl rfl) ?_ | refine goDCall_p (d1) (.inl rfl) ?_ | refine goDCall_p (d2) (.inl rfl) ?_ | refine goDCall_p (rsame_ok _ _) (.inl rfl) ?_ | refine goDCall_p (wakes21_ok) (.inl rfl) ?_)
       | refine go_draw (id := 9) C_ok mixed 0 Try.f14.ntmps rfl (by kernel_rfl) (by decide) ?_
       | refine goRound ?_ C_ok Try.f14.ntmps rfl (by decide)
       | skip) <;> simp only [h, ↓upd_eq, ↓envL_cons, Go.Ab.W0, Go.Ab.WD, Go.Ab.WE, if_true, if_false, reduceIte, Nat.reduceEqDiff, Nat.reduceAdd, Nat.reduceLT, Nat.reduceLeDiff, reduceCtorEq, Nat.reduceMul, implies_true, forall_eq_or_imp, forall_eq, Nat.reducePow, W1, W1C, Go.Ab.W3, Int.reduceAdd, Int.reduceLT, Int.reduceToNat, Int.reduceBEq, Int.reduceBNe, Int.reduceLE, hs, hw, hz, si, wrap_max, hle, beq_self_eq_true, cutNormal_normal]

end Go.Proofs.Ytajdipeebpmifaa
