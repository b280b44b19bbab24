/- The law TransLess answers true, whatever the input. No condition. -/
import Derived.Test.YtajdipeebpmifaaJ8
import Derived.Test.YtajdipeebpmifaaPCa
import Derived.Test.YtajdipeebpmifaaPFa
set_option linter.unusedSimpArgs false
set_option linter.unusedVariables false
set_option maxHeartbeats 40000000
set_option maxRecDepth 100000
namespace Go.Proofs.Ytajdipeebpmifaa
open Go Go.Ab
attribute [local irreducible] PCalls ACalls CallK GoCall GoDCall GoIf GoGb GoDGb GoO GoD GoX GoDX GoG GoDG GoGv GoDGv Go ALoop

theorem small_deep {a : Ty} (h : small [a] = true) : depth a ≤ 60 := by
  have h1 := small_mem h (List.mem_singleton.2 rfl)
  simp only [small1, Bool.not_eq_true', Bool.or_eq_false_iff] at h1
  exact deep_of h1.1.2
theorem lessI_size (l : List Bool) : ∀ (a : T) (n : Nat), (lessI l n a).size ≤ a.size := by
  intro a
  induction a with
  | pair x y ih1 ih2 => intro n; have h1 := ih1 (2 * n + 1); have h2 := ih2 (2 * n + 2); simp only [lessI]; split <;> simp only [T.size] <;> omega
  | fn x y ih1 ih2 => intro n; have h1 := ih1 (2 * n + 1); have h2 := ih2 (2 * n + 2); simp only [lessI]; split <;> simp only [T.size] <;> omega
  | list x ih1 => intro n; have h1 := ih1 (2 * n + 1); simp only [lessI]; split <;> simp only [T.size] <;> omega
  | _ => intro n; simp only [lessI]; split <;> simp [T.size]
theorem transLess_ok (a : Ty) (bs : List Bool) (l : Int) : PCalls Try.prog 13 [emb a, .sl (bs.map .bool) .no, .int .i64 l] (.bool true) := by
  cases h1 : small [a] with
  | false =>
    refine pcalls_text C_ok Try.func13 rfl (by decide) (Nat.le_of_ble_eq_true rfl) (by decide) rfl fun ok H => ?_
    rw [Try.results13]
    have h := True.intro
    repeat' (first
     | (with_reducible first | refine goIf_b ?_ ?_ | refine goIf_n ?_ ?_ | refine goIf_d ?_ ?_ | refine goIf_split ?_ ?_ | refine goGb_b ?_ ?_ | refine goGb_n ?_ ?_ | refine goGb_d ?_ ?_ | refine goGb_split ?_ ?_ | refine goDGb_b ?_ ?_ | refine goDGb_n ?_ ?_ | refine goDGb_d ?_ ?_ | refine goDGb_split ?_ ?_) <;> intro h
     | ((first | refine goCall_norm ?_ | refine goDCall_norm ?_); simp only [AV.norm, AV.normL, W2, W2C, Go.Ab.W3, Int.reduceAdd, Int.reduceLT, Int.reduceToNat, Int.reduceBEq, Int.reduceBNe, Int.reduceLE, h1]; first | refine goCall_p (small1_ok _) (.inl rfl) ?_ | refine goDCall_p (small1_ok _) (.inl rfl) ?_)
     | refine goRound ?_ C_ok Try.f13.ntmps rfl (by decide)
     | skip) <;> simp only [h, ↓upd_eq, ↓envL_cons, Go.Ab.W0, Go.Ab.WD, Go.Ab.WE, if_true, if_false, reduceIte, Nat.reduceEqDiff, Nat.reduceAdd, Nat.reduceLT, Nat.reduceLeDiff, reduceCtorEq, Nat.reduceMul, implies_true, forall_eq_or_imp, forall_eq, Nat.reducePow, W1, W1C, Go.Ab.W3, Int.reduceAdd, Int.reduceLT, Int.reduceToNat, Int.reduceBEq, Int.reduceBNe, Int.reduceLE, h1, cutNormal_normal]
  | true =>
  cases h2 : fine [a] with
  | false =>
    refine pcalls_text C_ok Try.func13 rfl (by decide) (Nat.le_of_ble_eq_true rfl) (by decide) rfl fun ok H => ?_
    rw [Try.results13]
    have h := True.intro
    repeat' (first
     | (with_reducible first | refine goIf_b ?_ ?_ | refine goIf_n ?_ ?_ | refine goIf_d ?_ ?_ | refine goIf_split ?_ ?_ | refine goGb_b ?_ ?_ | refine goGb_n ?_ ?_ | refine goGb_d ?_ ?_ | refine goGb_split ?_ ?_ | refine goDGb_b ?_ ?_ | refine goDGb_n ?_ ?_ | refine goDGb_d ?_ ?_ | refine goDGb_split ?_ ?_) <;> intro h
     | ((first | refine goCall_norm ?_ | refine goDCall_norm ?_); simp only [AV.norm, AV.normL, W2, W2C, Go.Ab.W3, Int.reduceAdd, Int.reduceLT, Int.reduceToNat, Int.reduceBEq, Int.reduceBNe, Int.reduceLE, h1, h2]; first | refine goCall_p (small1_ok _) (.inl rfl) ?_ | refine goCall_p (fine1_ok _) (.inl rfl) ?_ | refine goDCall_p (small1_ok _) (.inl rfl) ?_ | refine goDCall_p (fine1_ok _) (.inl rfl) ?_)
     | refine goRound ?_ C_ok Try.f13.ntmps rfl (by decide)
     | skip) <;> simp only [h, ↓upd_eq, ↓envL_cons, Go.Ab.W0, Go.Ab.WD, Go.Ab.WE, if_true, if_false, reduceIte, Nat.reduceEqDiff, Nat.reduceAdd, Nat.reduceLT, Nat.reduceLeDiff, reduceCtorEq, Nat.reduceMul, implies_true, forall_eq_or_imp, forall_eq, Nat.reducePow, W1, W1C, Go.Ab.W3, Int.reduceAdd, Int.reduceLT, Int.reduceToNat, Int.reduceBEq, Int.reduceBNe, Int.reduceLE, h1, h2, cutNormal_normal]
  | true =>
  by_cases h3 : (bs.length : Int) > 700
  · refine pcalls_text C_ok Try.func13 rfl (by decide) (Nat.le_of_ble_eq_true rfl) (by decide) rfl fun ok H => ?_
    rw [Try.results13]
    have h := True.intro
    repeat' (first
     | (with_reducible first | refine goIf_b ?_ ?_ | refine goIf_n ?_ ?_ | refine goIf_d ?_ ?_ | refine goIf_split ?_ ?_ | refine goGb_b ?_ ?_ | refine goGb_n ?_ ?_ | refine goGb_d ?_ ?_ | refine goGb_split ?_ ?_ | refine goDGb_b ?_ ?_ | refine goDGb_n ?_ ?_ | refine goDGb_d ?_ ?_ | refine goDGb_split ?_ ?_) <;> intro h
     | ((first | refine goCall_norm ?_ | refine goDCall_norm ?_); simp only [AV.norm, AV.normL, W2, W2C, Go.Ab.W3, Int.reduceAdd, Int.reduceLT, Int.reduceToNat, Int.reduceBEq, Int.reduceBNe, Int.reduceLE, h1, h2, h3, List.length_map]; first | refine goCall_p (small1_ok _) (.inl rfl) ?_ | refine goCall_p (fine1_ok _) (.inl rfl) ?_ | refine goDCall_p (small1_ok _) (.inl rfl) ?_ | refine goDCall_p (fine1_ok _) (.inl rfl) ?_)
     | refine goRound ?_ C_ok Try.f13.ntmps rfl (by decide)
     | skip) <;> simp only [h, ↓upd_eq, ↓envL_cons, Go.Ab.W0, Go.Ab.WD, Go.Ab.WE, if_true, if_false, reduceIte, Nat.reduceEqDiff, Nat.reduceAdd, Nat.reduceLT, Nat.reduceLeDiff, reduceCtorEq, Nat.reduceMul, implies_true, forall_eq_or_imp, forall_eq, Nat.reducePow, W1, W1C, Go.Ab.W3, Int.reduceAdd, Int.reduceLT, Int.reduceToNat, Int.reduceBEq, Int.reduceBNe, Int.reduceLE, h1, h2, h3, List.length_map, cutNormal_normal]
  · cases h4 : without 6 a with
    | false =>
      refine pcalls_text C_ok Try.func13 rfl (by decide) (Nat.le_of_ble_eq_true rfl) (by decide) rfl fun ok H => ?_
      rw [Try.results13]
      have h := True.intro
      repeat' (first
       | (with_reducible first | refine goIf_b ?_ ?_ | refine goIf_n ?_ ?_ | refine goIf_d ?_ ?_ | refine goIf_split ?_ ?_ | refine goGb_b ?_ ?_ | refine goGb_n ?_ ?_ | refine goGb_d ?_ ?_ | refine goGb_split ?_ ?_ | refine goDGb_b ?_ ?_ | refine goDGb_n ?_ ?_ | refine goDGb_d ?_ ?_ | refine goDGb_split ?_ ?_) <;> intro h
       | ((first | refine goCall_norm ?_ | refine goDCall_norm ?_); simp only [AV.norm, AV.normL, W2, W2C, Go.Ab.W3, Int.reduceAdd, Int.reduceLT, Int.reduceToNat, Int.reduceBEq, Int.reduceBNe, Int.reduceLE, h1, h2, h3, h4, List.length_map]; first | refine goCall_p (small1_ok _) (.inl rfl) ?_ | refine goCall_p (fine1_ok _) (.inl rfl) ?_ | refine goCall_p (rwithout_ok _ _) (.inl rfl) ?_ | refine goDCall_p (small1_ok _) (.inl rfl) ?_ | refine goDCall_p (fine1_ok _) (.inl rfl) ?_ | refine goDCall_p (rwithout_ok _ _) (.inl rfl) ?_)
       | refine goRound ?_ C_ok Try.f13.ntmps rfl (by decide)
       | skip) <;> simp only [h, ↓upd_eq, ↓envL_cons, Go.Ab.W0, Go.Ab.WD, Go.Ab.WE, if_true, if_false, reduceIte, Nat.reduceEqDiff, Nat.reduceAdd, Nat.reduceLT, Nat.reduceLeDiff, reduceCtorEq, Nat.reduceMul, implies_true, forall_eq_or_imp, forall_eq, Nat.reducePow, W1, W1C, Go.Ab.W3, Int.reduceAdd, Int.reduceLT, Int.reduceToNat, Int.reduceBEq, Int.reduceBNe, Int.reduceLE, h1, h2, h3, h4, List.length_map, cutNormal_normal]
    | true =>
      obtain ⟨hr, hn⟩ := fine_mem h2 (List.mem_singleton.2 rfl)
      have hd := small_deep h1
      obtain ⟨x, rfl, hx⟩ := T.of_right' hr
      have hc : x.closed = true := by rw [← T.closed_ty]; exact h4
      rw [T.deep_ty] at hd
      rw [T.nodes_ty] at hn
      have q0 : PCalls Try.prog 61 [emb x.ty, .sl (bs.map .bool) .no, .int .i64 0] (emb (lessI bs 0 x).ty) := lessI_walk bs x 0 (by
        have : 2 ^ x.deep ≤ 2 ^ 60 := Nat.pow_le_pow_right (by decide) hd
        omega)
      obtain ⟨hy', hcy', hb⟩ := lessI_ok bs x 0
      have hy := hy' hx
      have hcy := hcy' hc
      have hny := lessI_size bs x 0
      generalize lessI bs 0 x = y at q0 hy hcy hb hny
      have ag := below_agreeT y x hc hcy hb
      have hw := labM_w l
      have hz : ((1048576 : Int) ≠ 0) = True := by simp
      obtain ⟨hl, _, _⟩ := labM_ok l
      have ra : right x.ty = true := by rw [T.right_ty]; exact hx
      have rb : right y.ty = true := by rw [T.right_ty]; exact hy
      have be : below x.ty y.ty = true := by rw [T.below_ty]; exact hb
      obtain ⟨p0, p1⟩ := (sb_below x.ty y.ty ra rb).1 be
      obtain ⟨s0, _, _, s3⟩ := cast_sides (l := labM l) x y ag hx hy false
      have s0 := s0 p0
      have s3 := s3 p1
      have q1 := tCastC_ok x.ty y.ty (labM l) false
      have q2 := tCastC_ok y.ty x.ty (labM l) false
      have ag' := agreeT_symm x y ag
      rw [castE_co hx hy hl, ag, if_pos rfl, castC_co hx hy hl ag] at q1
      rw [castE_co hy hx hl, ag', if_pos rfl, castC_co hy hx hl ag'] at q2
      have lb := (cast_lab (l := labM l) x y ag false).1
      have lb' := (cast_lab (l := labM l) y x ag' false).1
      have n3 := (cast_s (l := labM l) x y ag false).1
      have n4 := (cast_s (l := labM l) y x ag' false).1
      have sd := sides_ok (labM l) false _ (show (castT (labM l) x y false).size ≤ 1000000 by omega)
      have sd' := sides_ok (labM l) false _ (show (castT (labM l) y x false).size ≤ 1000000 by omega)
      unfold SidesOK at sd sd'
      rw [lb, s0] at sd
      rw [lb', s3] at sd'
      generalize (castT (labM l) x y false).cnt (!false) = c1 at sd
      generalize (castT (labM l) y x false).cnt false = c2 at sd'
      generalize (castT (labM l) x y false).co = k at q1 sd
      generalize (castT (labM l) y x false).co = k' at q2 sd'
      generalize labM l = m at hw q1 q2 sd sd'
      have p2 := pbelow_ok x.ty y.ty
      rw [ra, rb, be] at p2
      simp only [Bool.and_self, Int.natCast_zero] at p2 sd sd'
      refine pcalls_text C_ok Try.func13 rfl (by decide) (Nat.le_of_ble_eq_true rfl) (by decide) rfl fun ok H => ?_
      rw [Try.results13]
      have h := True.intro
      repeat' (first
       | (with_reducible first | refine goIf_b ?_ ?_ | refine goIf_n ?_ ?_ | refine goIf_d ?_ ?_ | refine goIf_split ?_ ?_ | refine goGb_b ?_ ?_ | refine goGb_n ?_ ?_ | refine goGb_d ?_ ?_ | refine goGb_split ?_ ?_ | refine goDGb_b ?_ ?_ | refine goDGb_n ?_ ?_ | refine goDGb_d ?_ ?_ | refine goDGb_split ?_ ?_) <;> intro h
       | ((first | refine goCall_norm ?_ | refine goDCall_norm ?_); simp only [AV.norm, AV.normL, W2, W2C, Go.Ab.W3, Int.reduceAdd, Int.reduceLT, Int.reduceToNat, Int.reduceBEq, Int.reduceBNe, Int.reduceLE, h1, h2, h3, h4, List.length_map, bools_norm, hw, hz]; first | refine goCall_p (small1_ok _) (.inl rfl) ?_ | refine goCall_p (fine1_ok _) (.inl rfl) ?_ | refine goCall_p (rwithout_ok _ _) (.inl rfl) ?_ | refine goCall_p (q0) (.inl rfl) ?_ | refine goCall_p (q1) (.inl rfl) ?_ | refine goCall_p (q2) (.inl rfl) ?_ | refine goCall_p (p2) (.inl rfl) ?_ | refine goCall_p (sd) (.inl rfl) ?_ | refine goCall_p (sd') (.inl rfl) ?_ | refine goCall_p (wakes21_ok) (.inl rfl) ?_ | refine goDCall_p (small1_ok _) (.inl rfl) ?_ | refine goDCall_p (fine1_ok _) (.inl rfl) ?_ | refine goDCall_p (rwithout_ok _ _) (.inl rfl) ?_ | refine goDCall_p (q0) (.inl rfl) ?_ | refine goDCall_p (q1) (.inl rfl) ?_ | refine goDCall_p (q2) (.inl rfl) ?_ | refine goDCall_p (p2) (.inl rfl) ?_ | refine goDCall_p (sd) (.inl rfl) ?_ | refine goDCall_p (sd') (.inl rfl) ?_ | refine goDCall_p (wakes21_ok) (.inl rfl) ?_)
       | refine goRound ?_ C_ok Try.f13.ntmps rfl (by decide)
       | skip) <;> simp only [h, ↓upd_eq, ↓envL_cons, Go.Ab.W0, Go.Ab.WD, Go.Ab.WE, if_true, if_false, reduceIte, Nat.reduceEqDiff, Nat.reduceAdd, Nat.reduceLT, Nat.reduceLeDiff, reduceCtorEq, Nat.reduceMul, implies_true, forall_eq_or_imp, forall_eq, Nat.reducePow, W1, W1C, Go.Ab.W3, Int.reduceAdd, Int.reduceLT, Int.reduceToNat, Int.reduceBEq, Int.reduceBNe, Int.reduceLE, h1, h2, h3, h4, List.length_map, bools_norm, hw, hz, cutNormal_normal]

end Go.Proofs.Ytajdipeebpmifaa
