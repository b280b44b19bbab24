/- Layer 11: numbers anew. No condition. -/
import Derived.Test.YtpkdbhlpndibkaaEB
import Derived.Test.YtpkdbhlpndibkaaPW
set_option linter.unusedSimpArgs false
set_option linter.unusedVariables false
set_option maxHeartbeats 4000000
set_option maxRecDepth 100000
namespace Go.Proofs.Ytpkdbhlpndibkaa
open Go Go.Ab
attribute [local irreducible] PCalls ACalls CallK GoCall GoDCall GoIf GoGb GoDGb GoO GoD GoX GoDX GoG GoDG GoGv GoDGv Go ALoop

theorem renT_size (ρ : Int → Int) : ∀ t : T, (putS (fun k => .var (ρ k)) t).size = t.size := by
  intro t
  induction t <;> simp_all [putS, T.size]
theorem canon_nodes (x : T) : nodes (canonT x).ty = nodes x.ty := by
  rw [nodes_size, nodes_size]; exact renT_size _ x
theorem canon_okT {x : T} (hx : x.ok = true) (hs : nodes x.ty ≤ 1048576) : (canonT x).ok = true := by
  refine putS_ok (fun n _ => ?_) x hx
  have h1 : (x.varsF []).idxOf n ≤ (x.varsF []).length := List.idxOf_le_length
  have h2 := varsT_len x.ty
  rw [varsT_T] at h2
  have h3 : (0 : Int) ≤ (((x.varsF []).idxOf n : Nat) : Int) ∧ (((x.varsF []).idxOf n : Nat) : Int) ≤ 1048576 := ⟨by omega, by omega⟩
  show (decide (0 ≤ idxI (x.varsF []) n) && decide (idxI (x.varsF []) n ≤ 1048576)) = true
  unfold idxI
  rw [decide_eq_true h3.1, decide_eq_true h3.2]; rfl
theorem canonR_T {x : T} (hx : x.ok = true) : canonR x.ty = .tup [emb (canonT x).ty, .int .i64 0] := by
  rw [canonR, if_pos (by rw [T.right_ty]; exact hx), tOf_ty]
theorem matchV_T {x y : T} (hx : x.ok = true) (hy : y.ok = true) : ∃ l : List Bd, matchV x.ty y.ty = .tup [.sl (l.map embB) .no, .bool (matchT x y []).isSome] := by
  rw [matchV, if_pos ⟨by rw [T.right_ty]; exact hx, by rw [T.right_ty]; exact hy⟩, tOf_ty, tOf_ty]
  cases matchT x y [] with
  | some L => exact ⟨bdL L, rfl⟩
  | none => exact ⟨[], rfl⟩
theorem pairS_ok (a b : Ty) : PCalls Try.prog 9 [.sl [emb a, emb b] .no] (.bool (small [a, b])) := smallW_ok [a, b]
theorem schemeCanon_ok (t u : Ty) : PCalls Try.prog 5 [emb t, emb u] (.bool true) := by
  cases hv : small [t, u] with
  | false =>
    refine pcalls_text C_ok Try.func5 rfl (by decide) (Nat.le_of_ble_eq_true rfl) (by decide) rfl fun ok H => ?_
    rw [Try.results5]
    have h := True.intro
    repeat' (first
     | (with_reducible first | refine goIf_b ?_ ?_ | refine goIf_n ?_ ?_ | refine goIf_d ?_ ?_ | refine goIf_split ?_ ?_ | refine goGb_b ?_ ?_ | refine goGb_n ?_ ?_ | refine goGb_d ?_ ?_ | refine goGb_split ?_ ?_ | refine goDGb_b ?_ ?_ | refine goDGb_n ?_ ?_ | refine goDGb_d ?_ ?_ | refine goDGb_split ?_ ?_) <;> intro h
     | ((first | refine goCall_norm ?_ | refine goDCall_norm ?_); simp only [AV.norm, AV.normL, W2, W2B, hv]; first | refine goCall_p (pairS_ok _ _) (.inl rfl) ?_ | refine goDCall_p (pairS_ok _ _) (.inl rfl) ?_)
     | skip) <;> simp only [h, ↓upd_eq, ↓envL_cons, Go.Ab.W0, Go.Ab.WD, Go.Ab.WE, if_true, if_false, reduceIte, Nat.reduceEqDiff, Nat.reduceAdd, Nat.reduceLT, Nat.reduceLeDiff, reduceCtorEq, Nat.reduceMul, implies_true, forall_eq_or_imp, forall_eq, Nat.reducePow, W1, W1B, hv]
  | true =>
    have na := small_nodes hv (t := t) (by simp)
    have nb := small_nodes hv (t := u) (by simp)
    by_cases h0 : right t = true
    · by_cases h1 : right u = true
      · obtain ⟨x, rfl, hx⟩ := T.of_right' h0
        obtain ⟨y, rfl, hy⟩ := T.of_right' h1
        have q1 := canon_ok x.ty (by omega)
        have q2 := canon_ok y.ty (by omega)
        have q3 := canon_ok (canonT x).ty (by rw [canon_nodes]; omega)
        rw [canonR_T hx] at q1
        rw [canonR_T hy] at q2
        rw [canonR_T (canon_okT hx (by omega)), canon_canon] at q3
        have q4 := rVars_ok (canonT x).ty (by rw [canon_nodes]; omega)
        rw [varsT_T, canon_vars] at q4
        have m1 := match_ok x.ty y.ty (by omega)
        have m2 := match_ok y.ty x.ty (by omega)
        obtain ⟨l1, e1⟩ := matchV_T hx hy
        obtain ⟨l2, e2⟩ := matchV_T hy hx
        rw [e1] at m1
        rw [e2] at m2
        have s1 := ksame_ok (canonT x).ty (canonT x).ty
        rw [same_refl] at s1
        have s2 := ksame_ok (canonT x).ty (canonT y).ty
        have hS : same (canonT x).ty (canonT y).ty = ((matchT x y []).isSome && (matchT y x []).isSome) := by
          rw [T.same_ty, Bool.eq_iff_iff, decide_eq_true_eq, Bool.and_eq_true, canon_iff]
        rw [hS] at s2
        have hkl : (x.varsF []).length ≤ 1048577 := by have := varsT_len x.ty; rw [varsT_T] at this; omega
        have hmax : (x.varsF []).length ≤ maxLen := by rw [maxLen_val]; omega
        generalize (x.varsF []).length = k at *
        generalize (canonT x).ty = X at *
        generalize (canonT y).ty = Y at *
        generalize (matchT x y []).isSome = b1 at *
        generalize (matchT y x []).isSome = b2 at *
        clear e1 e2 hS
        have hget : ∀ i, i < k → (((List.range k).map fun i : Nat => (i : Int)).map I64).getD i .any = .int .i64 i := fun i hi => by simp [hi, I64]
        refine pcalls_text C_ok Try.func5 rfl (by decide) (Nat.le_of_ble_eq_true rfl) (by decide) rfl fun ok H => ?_
        rw [Try.results5]
        have h := True.intro
        repeat' (first
         | (with_reducible first | refine goIf_b ?_ ?_ | refine goIf_n ?_ ?_ | refine goIf_d ?_ ?_ | refine goIf_split ?_ ?_ | refine goGb_b ?_ ?_ | refine goGb_n ?_ ?_ | refine goGb_d ?_ ?_ | refine goGb_split ?_ ?_ | refine goDGb_b ?_ ?_ | refine goDGb_n ?_ ?_ | refine goDGb_d ?_ ?_ | refine goDGb_split ?_ ?_) <;> intro h
         | ((first | refine goCall_norm ?_ | refine goDCall_norm ?_); simp only [AV.norm, AV.normL, W2, W2B, hv, h0, h1, bne_self_eq_false]; first | refine goCall_p (pairS_ok _ _) (.inl rfl) ?_ | refine goCall_p (rright_ok _) (.inl rfl) ?_ | refine goCall_p (q1) (.inl rfl) ?_ | refine goCall_p (q2) (.inl rfl) ?_ | refine goCall_p (q3) (.inl rfl) ?_ | refine goCall_p (s1) (.inl rfl) ?_ | refine goCall_p (q4) (.inl rfl) ?_ | refine goDCall_p (pairS_ok _ _) (.inl rfl) ?_ | refine goDCall_p (rright_ok _) (.inl rfl) ?_ | refine goDCall_p (q1) (.inl rfl) ?_ | refine goDCall_p (q2) (.inl rfl) ?_ | refine goDCall_p (q3) (.inl rfl) ?_ | refine goDCall_p (s1) (.inl rfl) ?_ | refine goDCall_p (q4) (.inl rfl) ?_)
         | skip) <;> simp only [h, ↓upd_eq, ↓envL_cons, Go.Ab.W0, Go.Ab.WD, Go.Ab.WE, if_true, if_false, reduceIte, Nat.reduceEqDiff, Nat.reduceAdd, Nat.reduceLT, Nat.reduceLeDiff, reduceCtorEq, Nat.reduceMul, implies_true, forall_eq_or_imp, forall_eq, Nat.reducePow, W1, W1B, hv, h0, h1, bne_self_eq_false]
        refine aloop_trim [12, 2, 3, 5, 7, 11] ?_
        simp only [List.map_cons, List.map_nil, ↓upd_eq, ↓envL_cons, Go.Ab.W0, Go.Ab.WD, Go.Ab.WE, if_true, if_false, reduceIte, Nat.reduceEqDiff, Nat.reduceAdd, Nat.reduceLT, Nat.reduceLeDiff, reduceCtorEq, Nat.reduceMul, implies_true, forall_eq_or_imp, forall_eq, Nat.reducePow, W1, W1B]
        refine goLoopS 1 (fun i : Nat => [(12, .int .i64 i)]) (fun _ => _) (fun i => i ≤ k) (fun i => k - i) C_ok 0 rfl rfl (Nat.zero_le _) (by decide) ?_
        rintro i hi
        simp only [List.drop_succ_cons, List.drop_zero, List.cons_append, List.nil_append]
        by_cases hlt : i < k
        · have h := True.intro
          repeat' (first
           | (with_reducible first | refine goIf_b ?_ ?_ | refine goIf_n ?_ ?_ | refine goIf_d ?_ ?_ | refine goIf_split ?_ ?_ | refine goGb_b ?_ ?_ | refine goGb_n ?_ ?_ | refine goGb_d ?_ ?_ | refine goGb_split ?_ ?_ | refine goDGb_b ?_ ?_ | refine goDGb_n ?_ ?_ | refine goDGb_d ?_ ?_ | refine goDGb_split ?_ ?_) <;> intro h
           | skip) <;> simp only [h, ↓upd_eq, ↓envL_cons, Go.Ab.W0, Go.Ab.WD, Go.Ab.WE, if_true, if_false, reduceIte, Nat.reduceEqDiff, Nat.reduceAdd, Nat.reduceLT, Nat.reduceLeDiff, reduceCtorEq, Nat.reduceMul, implies_true, forall_eq_or_imp, forall_eq, Nat.reducePow, W1, W1B, hlt, hget i hlt, List.length_map, List.length_range, bne_self_eq_false]
          refine ⟨i + 1, by omega, by omega, weak_drop rfl rfl rfl rfl ?_ ?_ ?_⟩
          all_goals first | (simp only [List.forall_mem_cons, mem_nil_all, frz_app, ↓upd_eq, ↓envL_cons, Nat.reduceEqDiff, if_true, if_false, reduceIte, true_and, and_true, and_self, true_or, or_true, implies_true, List.not_mem_nil, false_implies, AV.bel, AV.belL, AObj.bel, AV.norm, AV.normL, Bool.and_true, Bool.true_and, decide_true, decide_eq_true_eq, List.length_cons, List.length_nil, Nat.zero_add, Nat.reduceAdd, Nat.lt_add_one, Nat.lt_add_right_iff_pos, Nat.zero_lt_succ, Nat.zero_lt_one, Nat.reduceLT, List.take_succ_cons, List.take_zero, wrap_succ hlt hmax, ints_bel, map_bel]; done) | (simp only [List.forall_mem_cons, mem_nil_all, frz_app, ↓upd_eq, ↓envL_cons, Nat.reduceEqDiff, if_true, if_false, reduceIte, true_and, and_true, and_self, true_or, or_true, implies_true, List.not_mem_nil, false_implies, AV.bel, AV.belL, AObj.bel, AV.norm, AV.normL, Bool.and_true, Bool.true_and, decide_true, decide_eq_true_eq, List.length_cons, List.length_nil, Nat.zero_add, Nat.reduceAdd, Nat.lt_add_one, Nat.lt_add_right_iff_pos, Nat.zero_lt_succ, Nat.zero_lt_one, Nat.reduceLT, List.take_succ_cons, List.take_zero, wrap_succ hlt hmax, ints_bel, map_bel]; omega)
        · cases b1 <;> cases b2 <;> have h := True.intro
          repeat' (first
           | (with_reducible first | refine goIf_b ?_ ?_ | refine goIf_n ?_ ?_ | refine goIf_d ?_ ?_ | refine goIf_split ?_ ?_ | refine goGb_b ?_ ?_ | refine goGb_n ?_ ?_ | refine goGb_d ?_ ?_ | refine goGb_split ?_ ?_ | refine goDGb_b ?_ ?_ | refine goDGb_n ?_ ?_ | refine goDGb_d ?_ ?_ | refine goDGb_split ?_ ?_) <;> intro h
           | ((first | refine goCall_norm ?_ | refine goDCall_norm ?_); simp only [AV.norm, AV.normL, W2, W2B, hlt, List.length_map, List.length_range]; first | refine goCall_p (m1) (.inl rfl) ?_ | refine goCall_p (m2) (.inl rfl) ?_ | refine goCall_p (s2) (.inl rfl) ?_ | refine goCall_p (wakes11_ok) (.inl rfl) ?_ | refine goDCall_p (m1) (.inl rfl) ?_ | refine goDCall_p (m2) (.inl rfl) ?_ | refine goDCall_p (s2) (.inl rfl) ?_ | refine goDCall_p (wakes11_ok) (.inl rfl) ?_)
           | skip) <;> simp only [h, ↓upd_eq, ↓envL_cons, Go.Ab.W0, Go.Ab.WD, Go.Ab.WE, if_true, if_false, reduceIte, Nat.reduceEqDiff, Nat.reduceAdd, Nat.reduceLT, Nat.reduceLeDiff, reduceCtorEq, Nat.reduceMul, implies_true, forall_eq_or_imp, forall_eq, Nat.reducePow, W1, W1B, hlt, List.length_map, List.length_range]
      · refine pcalls_text C_ok Try.func5 rfl (by decide) (Nat.le_of_ble_eq_true rfl) (by decide) rfl fun ok H => ?_
        rw [Try.results5]
        have h := True.intro
        repeat' (first
         | (with_reducible first | refine goIf_b ?_ ?_ | refine goIf_n ?_ ?_ | refine goIf_d ?_ ?_ | refine goIf_split ?_ ?_ | refine goGb_b ?_ ?_ | refine goGb_n ?_ ?_ | refine goGb_d ?_ ?_ | refine goGb_split ?_ ?_ | refine goDGb_b ?_ ?_ | refine goDGb_n ?_ ?_ | refine goDGb_d ?_ ?_ | refine goDGb_split ?_ ?_) <;> intro h
         | ((first | refine goCall_norm ?_ | refine goDCall_norm ?_); simp only [AV.norm, AV.normL, W2, W2B, hv, h0, h1]; first | refine goCall_p (pairS_ok _ _) (.inl rfl) ?_ | refine goCall_p (rright_ok _) (.inl rfl) ?_ | refine goDCall_p (pairS_ok _ _) (.inl rfl) ?_ | refine goDCall_p (rright_ok _) (.inl rfl) ?_)
         | skip) <;> simp only [h, ↓upd_eq, ↓envL_cons, Go.Ab.W0, Go.Ab.WD, Go.Ab.WE, if_true, if_false, reduceIte, Nat.reduceEqDiff, Nat.reduceAdd, Nat.reduceLT, Nat.reduceLeDiff, reduceCtorEq, Nat.reduceMul, implies_true, forall_eq_or_imp, forall_eq, Nat.reducePow, W1, W1B, hv, h0, h1]
    · refine pcalls_text C_ok Try.func5 rfl (by decide) (Nat.le_of_ble_eq_true rfl) (by decide) rfl fun ok H => ?_
      rw [Try.results5]
      have h := True.intro
      repeat' (first
       | (with_reducible first | refine goIf_b ?_ ?_ | refine goIf_n ?_ ?_ | refine goIf_d ?_ ?_ | refine goIf_split ?_ ?_ | refine goGb_b ?_ ?_ | refine goGb_n ?_ ?_ | refine goGb_d ?_ ?_ | refine goGb_split ?_ ?_ | refine goDGb_b ?_ ?_ | refine goDGb_n ?_ ?_ | refine goDGb_d ?_ ?_ | refine goDGb_split ?_ ?_) <;> intro h
       | ((first | refine goCall_norm ?_ | refine goDCall_norm ?_); simp only [AV.norm, AV.normL, W2, W2B, hv, h0]; first | refine goCall_p (pairS_ok _ _) (.inl rfl) ?_ | refine goCall_p (rright_ok _) (.inl rfl) ?_ | refine goDCall_p (pairS_ok _ _) (.inl rfl) ?_ | refine goDCall_p (rright_ok _) (.inl rfl) ?_)
       | skip) <;> simp only [h, ↓upd_eq, ↓envL_cons, Go.Ab.W0, Go.Ab.WD, Go.Ab.WE, if_true, if_false, reduceIte, Nat.reduceEqDiff, Nat.reduceAdd, Nat.reduceLT, Nat.reduceLeDiff, reduceCtorEq, Nat.reduceMul, implies_true, forall_eq_or_imp, forall_eq, Nat.reducePow, W1, W1B, hv, h0]

end Go.Proofs.Ytpkdbhlpndibkaa
