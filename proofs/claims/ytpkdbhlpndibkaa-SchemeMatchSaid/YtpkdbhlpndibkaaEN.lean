/- Layer 11: matching. No condition. -/
import Derived.Test.YtpkdbhlpndibkaaEM
set_option linter.unusedSimpArgs false
set_option linter.unusedVariables false
set_option maxHeartbeats 4000000
set_option maxRecDepth 100000
namespace Go.Proofs.Ytpkdbhlpndibkaa
open Go Go.Ab
attribute [local irreducible] PCalls ACalls CallK GoCall GoDCall GoIf GoGb GoDGb GoO GoD GoX GoDX GoG GoDG GoGv GoDGv Go ALoop

theorem kbinds_ok (l : List Bd) : PCalls Try.prog 24 [.sl (l.map embB) .no, .sl (l.map embB) .no] (.bool true) := by
  refine pcalls_text C_ok Try.func24 rfl (by decide) (Nat.le_of_ble_eq_true rfl) (by decide) rfl fun ok H => ?_
  rw [Try.results24]
  have hmax : l.length ≤ maxLen := by
    have := ok.1; simp only [AV.okay, List.length_map] at this; exact this.1
  have h := True.intro
  repeat' (first
   | (with_reducible first | refine goIf_b ?_ ?_ | refine goIf_n ?_ ?_ | refine goIf_d ?_ ?_ | refine goIf_split ?_ ?_ | refine goGb_b ?_ ?_ | refine goGb_n ?_ ?_ | refine goGb_d ?_ ?_ | refine goGb_split ?_ ?_ | refine goDGb_b ?_ ?_ | refine goDGb_n ?_ ?_ | refine goDGb_d ?_ ?_ | refine goDGb_split ?_ ?_) <;> intro h
   | refine go_draw (id := 6) C_ok (fun _ => trivial) mixed 0 Try.f24.ntmps rfl (by kernel_rfl) (by decide) ?_
   | skip) <;> simp only [h, ↓upd_eq, ↓envL_cons, Go.Ab.W0, Go.Ab.WD, Go.Ab.WE, if_true, if_false, reduceIte, Nat.reduceEqDiff, Nat.reduceAdd, Nat.reduceLT, Nat.reduceLeDiff, reduceCtorEq, Nat.reduceMul, implies_true, forall_eq_or_imp, forall_eq, Nat.reducePow, W1, W1B, List.length_map, bne_self_eq_false]
  refine aloop_trim [5, 0, 1] ?_
  simp only [List.map_cons, List.map_nil, ↓upd_eq, ↓envL_cons, Go.Ab.W0, Go.Ab.WD, Go.Ab.WE, if_true, if_false, reduceIte, Nat.reduceEqDiff, Nat.reduceAdd, Nat.reduceLT, Nat.reduceLeDiff, reduceCtorEq, Nat.reduceMul, implies_true, forall_eq_or_imp, forall_eq, Nat.reducePow, W1, W1B]
  refine goLoopS 1 (fun i : Nat => [(5, .int .i64 i)]) (fun _ => _) (fun i => i ≤ l.length) (fun i => l.length - i) C_ok 0 rfl rfl (Nat.zero_le _) (by decide) ?_
  rintro i hi
  simp only [List.drop_succ_cons, List.drop_zero, List.cons_append, List.nil_append]
  by_cases hlt : i < l.length
  · have hg := mapB_get hlt
    generalize l.getD i default = p at *
    have hs := ksame_ok p.2 p.2
    rw [same_refl] at hs
    have h := True.intro
    repeat' (first
     | (with_reducible first | refine goIf_b ?_ ?_ | refine goIf_n ?_ ?_ | refine goIf_d ?_ ?_ | refine goIf_split ?_ ?_ | refine goGb_b ?_ ?_ | refine goGb_n ?_ ?_ | refine goGb_d ?_ ?_ | refine goGb_split ?_ ?_ | refine goDGb_b ?_ ?_ | refine goDGb_n ?_ ?_ | refine goDGb_d ?_ ?_ | refine goDGb_split ?_ ?_) <;> intro h
     | ((first | refine goCall_norm ?_ | refine goDCall_norm ?_); simp only [AV.norm, AV.normL, W2, W2B, hlt, hg, embB_cells, List.length_map, bne_self_eq_false]; first | refine goCall_p (hs) (.inl rfl) ?_ | refine goDCall_p (hs) (.inl rfl) ?_)
     | refine go_draw (id := 6) C_ok (fun _ => trivial) mixed 0 Try.f24.ntmps rfl (by kernel_rfl) (by decide) ?_
     | skip) <;> simp only [h, ↓upd_eq, ↓envL_cons, Go.Ab.W0, Go.Ab.WD, Go.Ab.WE, if_true, if_false, reduceIte, Nat.reduceEqDiff, Nat.reduceAdd, Nat.reduceLT, Nat.reduceLeDiff, reduceCtorEq, Nat.reduceMul, implies_true, forall_eq_or_imp, forall_eq, Nat.reducePow, W1, W1B, hlt, hg, embB_cells, List.length_map, bne_self_eq_false]
    refine ⟨i + 1, by omega, by omega, weak_drop rfl rfl rfl rfl ?_ ?_ ?_⟩
    all_goals first | (simp only [List.forall_mem_cons, mem_nil_all, frz_app, ↓upd_eq, ↓envL_cons, Nat.reduceEqDiff, if_true, if_false, reduceIte, true_and, and_true, and_self, true_or, or_true, implies_true, List.not_mem_nil, false_implies, AV.bel, AV.belL, AObj.bel, AV.norm, AV.normL, Bool.and_true, Bool.true_and, decide_true, decide_eq_true_eq, List.length_cons, List.length_nil, Nat.zero_add, Nat.reduceAdd, Nat.lt_add_one, Nat.lt_add_right_iff_pos, Nat.zero_lt_succ, Nat.zero_lt_one, Nat.reduceLT, List.take_succ_cons, List.take_zero, wrap_succ hlt hmax, mapB_bel, map_bel]; done) | (simp only [List.forall_mem_cons, mem_nil_all, frz_app, ↓upd_eq, ↓envL_cons, Nat.reduceEqDiff, if_true, if_false, reduceIte, true_and, and_true, and_self, true_or, or_true, implies_true, List.not_mem_nil, false_implies, AV.bel, AV.belL, AObj.bel, AV.norm, AV.normL, Bool.and_true, Bool.true_and, decide_true, decide_eq_true_eq, List.length_cons, List.length_nil, Nat.zero_add, Nat.reduceAdd, Nat.lt_add_one, Nat.lt_add_right_iff_pos, Nat.zero_lt_succ, Nat.zero_lt_one, Nat.reduceLT, List.take_succ_cons, List.take_zero, wrap_succ hlt hmax, mapB_bel, map_bel]; omega)
  · have h := True.intro
    repeat' (first
     | (with_reducible first | refine goIf_b ?_ ?_ | refine goIf_n ?_ ?_ | refine goIf_d ?_ ?_ | refine goIf_split ?_ ?_ | refine goGb_b ?_ ?_ | refine goGb_n ?_ ?_ | refine goGb_d ?_ ?_ | refine goGb_split ?_ ?_ | refine goDGb_b ?_ ?_ | refine goDGb_n ?_ ?_ | refine goDGb_d ?_ ?_ | refine goDGb_split ?_ ?_) <;> intro h
     | refine go_draw (id := 6) C_ok (fun _ => trivial) mixed 0 Try.f24.ntmps rfl (by kernel_rfl) (by decide) ?_
     | skip) <;> simp only [h, ↓upd_eq, ↓envL_cons, Go.Ab.W0, Go.Ab.WD, Go.Ab.WE, if_true, if_false, reduceIte, Nat.reduceEqDiff, Nat.reduceAdd, Nat.reduceLT, Nat.reduceLeDiff, reduceCtorEq, Nat.reduceMul, implies_true, forall_eq_or_imp, forall_eq, Nat.reducePow, W1, W1B, hlt, List.length_map]
theorem schemeMatch_ok (t u : Ty) (l : List Ty) : PCalls Try.prog 4 [emb t, emb u, .sl (l.map emb) .no] (.bool true) := by
  cases hv : small [t, u] with
  | false =>
    refine pcalls_text C_ok Try.func4 rfl (by decide) (Nat.le_of_ble_eq_true rfl) (by decide) rfl fun ok H => ?_
    rw [Try.results4]
    have h := True.intro
    repeat' (first
     | (with_reducible first | refine goIf_b ?_ ?_ | refine goIf_n ?_ ?_ | refine goIf_d ?_ ?_ | refine goIf_split ?_ ?_ | refine goGb_b ?_ ?_ | refine goGb_n ?_ ?_ | refine goGb_d ?_ ?_ | refine goGb_split ?_ ?_ | refine goDGb_b ?_ ?_ | refine goDGb_n ?_ ?_ | refine goDGb_d ?_ ?_ | refine goDGb_split ?_ ?_) <;> intro h
     | ((first | refine goCall_norm ?_ | refine goDCall_norm ?_); simp only [AV.norm, AV.normL, W2, W2B, hv, hv, List.length_map]; first | refine goCall_p (pairS_ok _ _) (.inl rfl) ?_ | refine goCall_p (smallW_ok _) (.inl rfl) ?_ | refine goCall_p (rright_ok _) (.inl rfl) ?_ | refine goCall_p (fineW_ok _) (.inl rfl) ?_ | refine goDCall_p (pairS_ok _ _) (.inl rfl) ?_ | refine goDCall_p (smallW_ok _) (.inl rfl) ?_ | refine goDCall_p (rright_ok _) (.inl rfl) ?_ | refine goDCall_p (fineW_ok _) (.inl rfl) ?_)
     | skip) <;> simp only [h, ↓upd_eq, ↓envL_cons, Go.Ab.W0, Go.Ab.WD, Go.Ab.WE, if_true, if_false, reduceIte, Nat.reduceEqDiff, Nat.reduceAdd, Nat.reduceLT, Nat.reduceLeDiff, reduceCtorEq, Nat.reduceMul, implies_true, forall_eq_or_imp, forall_eq, Nat.reducePow, W1, W1B, hv, hv, List.length_map]
  | true =>
    have na := small_nodes hv (t := t) (by simp)
    have nb := small_nodes hv (t := u) (by simp)
    cases hw : small l with
    | false =>
      refine pcalls_text C_ok Try.func4 rfl (by decide) (Nat.le_of_ble_eq_true rfl) (by decide) rfl fun ok H => ?_
      rw [Try.results4]
      have h := True.intro
      repeat' (first
       | (with_reducible first | refine goIf_b ?_ ?_ | refine goIf_n ?_ ?_ | refine goIf_d ?_ ?_ | refine goIf_split ?_ ?_ | refine goGb_b ?_ ?_ | refine goGb_n ?_ ?_ | refine goGb_d ?_ ?_ | refine goGb_split ?_ ?_ | refine goDGb_b ?_ ?_ | refine goDGb_n ?_ ?_ | refine goDGb_d ?_ ?_ | refine goDGb_split ?_ ?_) <;> intro h
       | ((first | refine goCall_norm ?_ | refine goDCall_norm ?_); simp only [AV.norm, AV.normL, W2, W2B, hv, hw, List.length_map]; first | refine goCall_p (pairS_ok _ _) (.inl rfl) ?_ | refine goCall_p (smallW_ok _) (.inl rfl) ?_ | refine goCall_p (rright_ok _) (.inl rfl) ?_ | refine goCall_p (fineW_ok _) (.inl rfl) ?_ | refine goDCall_p (pairS_ok _ _) (.inl rfl) ?_ | refine goDCall_p (smallW_ok _) (.inl rfl) ?_ | refine goDCall_p (rright_ok _) (.inl rfl) ?_ | refine goDCall_p (fineW_ok _) (.inl rfl) ?_)
       | skip) <;> simp only [h, ↓upd_eq, ↓envL_cons, Go.Ab.W0, Go.Ab.WD, Go.Ab.WE, if_true, if_false, reduceIte, Nat.reduceEqDiff, Nat.reduceAdd, Nat.reduceLT, Nat.reduceLeDiff, reduceCtorEq, Nat.reduceMul, implies_true, forall_eq_or_imp, forall_eq, Nat.reducePow, W1, W1B, hv, hw, List.length_map]
    | true =>
      by_cases hl20 : 20 < l.length
      · have hl' : ((20 : Int) < l.length) = True := by simp only [eq_iff_iff, iff_true]; omega
        refine pcalls_text C_ok Try.func4 rfl (by decide) (Nat.le_of_ble_eq_true rfl) (by decide) rfl fun ok H => ?_
        rw [Try.results4]
        have h := True.intro
        repeat' (first
         | (with_reducible first | refine goIf_b ?_ ?_ | refine goIf_n ?_ ?_ | refine goIf_d ?_ ?_ | refine goIf_split ?_ ?_ | refine goGb_b ?_ ?_ | refine goGb_n ?_ ?_ | refine goGb_d ?_ ?_ | refine goGb_split ?_ ?_ | refine goDGb_b ?_ ?_ | refine goDGb_n ?_ ?_ | refine goDGb_d ?_ ?_ | refine goDGb_split ?_ ?_) <;> intro h
         | ((first | refine goCall_norm ?_ | refine goDCall_norm ?_); simp only [AV.norm, AV.normL, W2, W2B, hv, hw, hl', List.length_map]; first | refine goCall_p (pairS_ok _ _) (.inl rfl) ?_ | refine goCall_p (smallW_ok _) (.inl rfl) ?_ | refine goCall_p (rright_ok _) (.inl rfl) ?_ | refine goCall_p (fineW_ok _) (.inl rfl) ?_ | refine goDCall_p (pairS_ok _ _) (.inl rfl) ?_ | refine goDCall_p (smallW_ok _) (.inl rfl) ?_ | refine goDCall_p (rright_ok _) (.inl rfl) ?_ | refine goDCall_p (fineW_ok _) (.inl rfl) ?_)
         | skip) <;> simp only [h, ↓upd_eq, ↓envL_cons, Go.Ab.W0, Go.Ab.WD, Go.Ab.WE, if_true, if_false, reduceIte, Nat.reduceEqDiff, Nat.reduceAdd, Nat.reduceLT, Nat.reduceLeDiff, reduceCtorEq, Nat.reduceMul, implies_true, forall_eq_or_imp, forall_eq, Nat.reducePow, W1, W1B, hv, hw, hl', List.length_map]
      · have hl' : ((20 : Int) < l.length) = False := by simp only [eq_iff_iff, iff_false]; omega
        by_cases h0 : right t = true
        · by_cases h1 : right u = true
          · cases hf : fineW l with
            | false =>
              refine pcalls_text C_ok Try.func4 rfl (by decide) (Nat.le_of_ble_eq_true rfl) (by decide) rfl fun ok H => ?_
              rw [Try.results4]
              have h := True.intro
              repeat' (first
               | (with_reducible first | refine goIf_b ?_ ?_ | refine goIf_n ?_ ?_ | refine goIf_d ?_ ?_ | refine goIf_split ?_ ?_ | refine goGb_b ?_ ?_ | refine goGb_n ?_ ?_ | refine goGb_d ?_ ?_ | refine goGb_split ?_ ?_ | refine goDGb_b ?_ ?_ | refine goDGb_n ?_ ?_ | refine goDGb_d ?_ ?_ | refine goDGb_split ?_ ?_) <;> intro h
               | ((first | refine goCall_norm ?_ | refine goDCall_norm ?_); simp only [AV.norm, AV.normL, W2, W2B, hv, hw, hl', h0, h1, hf, List.length_map]; first | refine goCall_p (pairS_ok _ _) (.inl rfl) ?_ | refine goCall_p (smallW_ok _) (.inl rfl) ?_ | refine goCall_p (rright_ok _) (.inl rfl) ?_ | refine goCall_p (fineW_ok _) (.inl rfl) ?_ | refine goDCall_p (pairS_ok _ _) (.inl rfl) ?_ | refine goDCall_p (smallW_ok _) (.inl rfl) ?_ | refine goDCall_p (rright_ok _) (.inl rfl) ?_ | refine goDCall_p (fineW_ok _) (.inl rfl) ?_)
               | skip) <;> simp only [h, ↓upd_eq, ↓envL_cons, Go.Ab.W0, Go.Ab.WD, Go.Ab.WE, if_true, if_false, reduceIte, Nat.reduceEqDiff, Nat.reduceAdd, Nat.reduceLT, Nat.reduceLeDiff, reduceCtorEq, Nat.reduceMul, implies_true, forall_eq_or_imp, forall_eq, Nat.reducePow, W1, W1B, hv, hw, hl', h0, h1, hf, List.length_map]
            | true =>
              have hlr : ∀ y ∈ l, right y = true := by
                simp only [fineW, Bool.and_eq_true] at hf
                exact fun y hy => rightL_mem hf.2 hy
              obtain ⟨x, rfl, hx⟩ := T.of_right' h0
              obtain ⟨y, rfl, hy⟩ := T.of_right' h1
              have hnd := nodup_varsF x [] List.nodup_nil
              have q0 := statB_ok x.ty l false (by omega) (by omega) hlr
              rw [varsT_T] at q0
              have hB := statB_okBs hx hlr false
              have q1 := subst_ok x.ty (statB (x.varsF []) l false)
              rw [substR, if_pos ⟨h0, hB⟩, tOf_ty] at q1
              have hM : matchT x (putS (sigB (statB (x.varsF []) l false)) x) [] = some (bindsOf (sigB (statB (x.varsF []) l false)) (x.varsF [])) :=
                match_put x [] fun n hn => by
                  obtain ⟨i, e, _⟩ := sig_stat hnd l false (mem_vars0.2 hn)
                  rw [e]; exact gT_stat _ _ _
              have hso : (putS (sigB (statB (x.varsF []) l false)) x).ok = true := by
                refine putS_ok (fun n hn => ?_) x hx
                simp only [sigB]
                cases hlk : lookB (statB (x.varsF []) l false) n with
                | none => exact hn
                | some t' =>
                  obtain ⟨z, hz, hzo⟩ := T.of_right' (statB_right hlr n t' hlk)
                  subst hz
                  simp only [tOf_ty]; exact hzo
              have q2 := match_ok x.ty (putS (sigB (statB (x.varsF []) l false)) x).ty (by omega)
              rw [matchV, if_pos ⟨h0, by rw [T.right_ty]; exact hso⟩, tOf_ty, tOf_ty, hM] at q2
              simp only [statB_binds hnd] at q2
              have qb := kbinds_ok (statB (x.varsF []) l false)
              have q3 := match_ok x.ty y.ty (by omega)
              rw [matchV, if_pos ⟨h0, h1⟩, tOf_ty, tOf_ty] at q3
              generalize (putS (sigB (statB (x.varsF []) l false)) x).ty = S at *
              generalize statB (x.varsF []) l false = bs at *
              cases hm : matchT x y [] with
              | none =>
                rw [hm] at q3
                simp only at q3
                refine pcalls_text C_ok Try.func4 rfl (by decide) (Nat.le_of_ble_eq_true rfl) (by decide) rfl fun ok H => ?_
                rw [Try.results4]
                have h := True.intro
                repeat' (first
                 | (with_reducible first | refine goIf_b ?_ ?_ | refine goIf_n ?_ ?_ | refine goIf_d ?_ ?_ | refine goIf_split ?_ ?_ | refine goGb_b ?_ ?_ | refine goGb_n ?_ ?_ | refine goGb_d ?_ ?_ | refine goGb_split ?_ ?_ | refine goDGb_b ?_ ?_ | refine goDGb_n ?_ ?_ | refine goDGb_d ?_ ?_ | refine goDGb_split ?_ ?_) <;> intro h
                 | ((first | refine goCall_norm ?_ | refine goDCall_norm ?_); simp only [AV.norm, AV.normL, W2, W2B, hv, hw, hl', h0, h1, hf, List.length_map, mapB_norm, bne_self_eq_false]; first | refine goCall_p (pairS_ok _ _) (.inl rfl) ?_ | refine goCall_p (smallW_ok _) (.inl rfl) ?_ | refine goCall_p (rright_ok _) (.inl rfl) ?_ | refine goCall_p (fineW_ok _) (.inl rfl) ?_ | refine goCall_p (q0) (.inl rfl) ?_ | refine goCall_p (q1) (.inl rfl) ?_ | refine goCall_p (q2) (.inl rfl) ?_ | refine goCall_p (qb) (.inl rfl) ?_ | refine goCall_p (q3) (.inl rfl) ?_ | refine goCall_p (wakes11_ok) (.inl rfl) ?_ | refine goDCall_p (pairS_ok _ _) (.inl rfl) ?_ | refine goDCall_p (smallW_ok _) (.inl rfl) ?_ | refine goDCall_p (rright_ok _) (.inl rfl) ?_ | refine goDCall_p (fineW_ok _) (.inl rfl) ?_ | refine goDCall_p (q0) (.inl rfl) ?_ | refine goDCall_p (q1) (.inl rfl) ?_ | refine goDCall_p (q2) (.inl rfl) ?_ | refine goDCall_p (qb) (.inl rfl) ?_ | refine goDCall_p (q3) (.inl rfl) ?_ | refine goDCall_p (wakes11_ok) (.inl rfl) ?_)
                 | skip) <;> simp only [h, ↓upd_eq, ↓envL_cons, Go.Ab.W0, Go.Ab.WD, Go.Ab.WE, if_true, if_false, reduceIte, Nat.reduceEqDiff, Nat.reduceAdd, Nat.reduceLT, Nat.reduceLeDiff, reduceCtorEq, Nat.reduceMul, implies_true, forall_eq_or_imp, forall_eq, Nat.reducePow, W1, W1B, hv, hw, hl', h0, h1, hf, List.length_map, mapB_norm, bne_self_eq_false]
                exact absurd h (by decide)
              | some L =>
                rw [hm] at q3
                simp only at q3
                obtain ⟨k1, k2, k3⟩ := bdL_okBs hx hy hm
                have q4 := subst_ok x.ty (bdL L)
                rw [substR, if_pos ⟨h0, k1⟩, tOf_ty, k2] at q4
                have qs := ksame_ok y.ty y.ty
                rw [same_refl] at qs
                have hlb := bdL_len L
                have hLn : L.length ≤ 1000 := by
                  have := fits_len x y []
                  rw [fits_match] at hm
                  split at hm
                  · cases hm
                    rw [nodes_size] at na
                    simp only [List.length_nil] at this
                    omega
                  · cases hm
                have hmax : L.length ≤ maxLen := by rw [maxLen_val]; omega
                have hw5 : ∀ i, i < L.length → without 5 ((bdL L).getD i default).2 = true := fun i hi => by
                  have e : (bdL L).getD i default = ((L.getD i (0, .dyn)).1, (L.getD i (0, .dyn)).2.ty) := by simp [bdL, hi]
                  rw [e, without5]
                  exact k3 _ (by simp [hi])
                refine pcalls_text C_ok Try.func4 rfl (by decide) (Nat.le_of_ble_eq_true rfl) (by decide) rfl fun ok H => ?_
                rw [Try.results4]
                have h := True.intro
                repeat' (first
                 | (with_reducible first | refine goIf_b ?_ ?_ | refine goIf_n ?_ ?_ | refine goIf_d ?_ ?_ | refine goIf_split ?_ ?_ | refine goGb_b ?_ ?_ | refine goGb_n ?_ ?_ | refine goGb_d ?_ ?_ | refine goGb_split ?_ ?_ | refine goDGb_b ?_ ?_ | refine goDGb_n ?_ ?_ | refine goDGb_d ?_ ?_ | refine goDGb_split ?_ ?_) <;> intro h
                 | ((first | refine goCall_norm ?_ | refine goDCall_norm ?_); simp only [AV.norm, AV.normL, W2, W2B, hv, hw, hl', h0, h1, hf, List.length_map, mapB_norm, bne_self_eq_false]; first | refine goCall_p (pairS_ok _ _) (.inl rfl) ?_ | refine goCall_p (smallW_ok _) (.inl rfl) ?_ | refine goCall_p (rright_ok _) (.inl rfl) ?_ | refine goCall_p (fineW_ok _) (.inl rfl) ?_ | refine goCall_p (q0) (.inl rfl) ?_ | refine goCall_p (q1) (.inl rfl) ?_ | refine goCall_p (q2) (.inl rfl) ?_ | refine goCall_p (qb) (.inl rfl) ?_ | refine goCall_p (q3) (.inl rfl) ?_ | refine goCall_p (q4) (.inl rfl) ?_ | refine goDCall_p (pairS_ok _ _) (.inl rfl) ?_ | refine goDCall_p (smallW_ok _) (.inl rfl) ?_ | refine goDCall_p (rright_ok _) (.inl rfl) ?_ | refine goDCall_p (fineW_ok _) (.inl rfl) ?_ | refine goDCall_p (q0) (.inl rfl) ?_ | refine goDCall_p (q1) (.inl rfl) ?_ | refine goDCall_p (q2) (.inl rfl) ?_ | refine goDCall_p (qb) (.inl rfl) ?_ | refine goDCall_p (q3) (.inl rfl) ?_ | refine goDCall_p (q4) (.inl rfl) ?_)
                 | skip) <;> simp only [h, ↓upd_eq, ↓envL_cons, Go.Ab.W0, Go.Ab.WD, Go.Ab.WE, if_true, if_false, reduceIte, Nat.reduceEqDiff, Nat.reduceAdd, Nat.reduceLT, Nat.reduceLeDiff, reduceCtorEq, Nat.reduceMul, implies_true, forall_eq_or_imp, forall_eq, Nat.reducePow, W1, W1B, hv, hw, hl', h0, h1, hf, List.length_map, mapB_norm, bne_self_eq_false]
                refine aloop_trim [16, 4, 12, 14, 15] ?_
                simp only [List.map_cons, List.map_nil, ↓upd_eq, ↓envL_cons, Go.Ab.W0, Go.Ab.WD, Go.Ab.WE, if_true, if_false, reduceIte, Nat.reduceEqDiff, Nat.reduceAdd, Nat.reduceLT, Nat.reduceLeDiff, reduceCtorEq, Nat.reduceMul, implies_true, forall_eq_or_imp, forall_eq, Nat.reducePow, W1, W1B]
                refine goLoopS 1 (fun i : Nat => [(16, .int .i64 i)]) (fun _ => _) (fun i => i ≤ L.length) (fun i => L.length - i) C_ok 0 rfl rfl (Nat.zero_le _) (by decide) ?_
                rintro i hi
                simp only [List.drop_succ_cons, List.drop_zero, List.cons_append, List.nil_append]
                by_cases hlt : i < L.length
                · have hg := mapB_get (l := bdL L) (i := i) (by rw [hlb]; exact hlt)
                  have hw' := hw5 i hlt
                  generalize (bdL L).getD i default = p at *
                  have h := True.intro
                  repeat' (first
                   | (with_reducible first | refine goIf_b ?_ ?_ | refine goIf_n ?_ ?_ | refine goIf_d ?_ ?_ | refine goIf_split ?_ ?_ | refine goGb_b ?_ ?_ | refine goGb_n ?_ ?_ | refine goGb_d ?_ ?_ | refine goGb_split ?_ ?_ | refine goDGb_b ?_ ?_ | refine goDGb_n ?_ ?_ | refine goDGb_d ?_ ?_ | refine goDGb_split ?_ ?_) <;> intro h
                   | ((first | refine goCall_norm ?_ | refine goDCall_norm ?_); simp only [AV.norm, AV.normL, W2, W2B, hlt, hlb, hg, hw', embB_cells, List.length_map]; first | refine goCall_p (rwithout_ok _ 5) (.inl rfl) ?_ | refine goDCall_p (rwithout_ok _ 5) (.inl rfl) ?_)
                   | skip) <;> simp only [h, ↓upd_eq, ↓envL_cons, Go.Ab.W0, Go.Ab.WD, Go.Ab.WE, if_true, if_false, reduceIte, Nat.reduceEqDiff, Nat.reduceAdd, Nat.reduceLT, Nat.reduceLeDiff, reduceCtorEq, Nat.reduceMul, implies_true, forall_eq_or_imp, forall_eq, Nat.reducePow, W1, W1B, hlt, hlb, hg, hw', embB_cells, List.length_map]
                  refine ⟨i + 1, by omega, by omega, weak_drop rfl rfl rfl rfl ?_ ?_ ?_⟩
                  all_goals first | (simp only [List.forall_mem_cons, mem_nil_all, frz_app, ↓upd_eq, ↓envL_cons, Nat.reduceEqDiff, if_true, if_false, reduceIte, true_and, and_true, and_self, true_or, or_true, implies_true, List.not_mem_nil, false_implies, AV.bel, AV.belL, AObj.bel, AV.norm, AV.normL, Bool.and_true, Bool.true_and, decide_true, decide_eq_true_eq, List.length_cons, List.length_nil, Nat.zero_add, Nat.reduceAdd, Nat.lt_add_one, Nat.lt_add_right_iff_pos, Nat.zero_lt_succ, Nat.zero_lt_one, Nat.reduceLT, List.take_succ_cons, List.take_zero, wrap_succ hlt hmax, mapB_bel, map_bel]; done) | (simp only [List.forall_mem_cons, mem_nil_all, frz_app, ↓upd_eq, ↓envL_cons, Nat.reduceEqDiff, if_true, if_false, reduceIte, true_and, and_true, and_self, true_or, or_true, implies_true, List.not_mem_nil, false_implies, AV.bel, AV.belL, AObj.bel, AV.norm, AV.normL, Bool.and_true, Bool.true_and, decide_true, decide_eq_true_eq, List.length_cons, List.length_nil, Nat.zero_add, Nat.reduceAdd, Nat.lt_add_one, Nat.lt_add_right_iff_pos, Nat.zero_lt_succ, Nat.zero_lt_one, Nat.reduceLT, List.take_succ_cons, List.take_zero, wrap_succ hlt hmax, mapB_bel, map_bel]; omega)
                · have h := True.intro
                  repeat' (first
                   | (with_reducible first | refine goIf_b ?_ ?_ | refine goIf_n ?_ ?_ | refine goIf_d ?_ ?_ | refine goIf_split ?_ ?_ | refine goGb_b ?_ ?_ | refine goGb_n ?_ ?_ | refine goGb_d ?_ ?_ | refine goGb_split ?_ ?_ | refine goDGb_b ?_ ?_ | refine goDGb_n ?_ ?_ | refine goDGb_d ?_ ?_ | refine goDGb_split ?_ ?_) <;> intro h
                   | ((first | refine goCall_norm ?_ | refine goDCall_norm ?_); simp only [AV.norm, AV.normL, W2, W2B, hlt, hlb, List.length_map, beq_self_eq_true]; first | refine goCall_p (qs) (.inl rfl) ?_ | refine goCall_p (wakes11_ok) (.inl rfl) ?_ | refine goDCall_p (qs) (.inl rfl) ?_ | refine goDCall_p (wakes11_ok) (.inl rfl) ?_)
                   | skip) <;> simp only [h, ↓upd_eq, ↓envL_cons, Go.Ab.W0, Go.Ab.WD, Go.Ab.WE, if_true, if_false, reduceIte, Nat.reduceEqDiff, Nat.reduceAdd, Nat.reduceLT, Nat.reduceLeDiff, reduceCtorEq, Nat.reduceMul, implies_true, forall_eq_or_imp, forall_eq, Nat.reducePow, W1, W1B, hlt, hlb, List.length_map, beq_self_eq_true]
          ·
            refine pcalls_text C_ok Try.func4 rfl (by decide) (Nat.le_of_ble_eq_true rfl) (by decide) rfl fun ok H => ?_
            rw [Try.results4]
            have h := True.intro
            repeat' (first
             | (with_reducible first | refine goIf_b ?_ ?_ | refine goIf_n ?_ ?_ | refine goIf_d ?_ ?_ | refine goIf_split ?_ ?_ | refine goGb_b ?_ ?_ | refine goGb_n ?_ ?_ | refine goGb_d ?_ ?_ | refine goGb_split ?_ ?_ | refine goDGb_b ?_ ?_ | refine goDGb_n ?_ ?_ | refine goDGb_d ?_ ?_ | refine goDGb_split ?_ ?_) <;> intro h
             | ((first | refine goCall_norm ?_ | refine goDCall_norm ?_); simp only [AV.norm, AV.normL, W2, W2B, hv, hw, hl', h0, h1, List.length_map]; first | refine goCall_p (pairS_ok _ _) (.inl rfl) ?_ | refine goCall_p (smallW_ok _) (.inl rfl) ?_ | refine goCall_p (rright_ok _) (.inl rfl) ?_ | refine goCall_p (fineW_ok _) (.inl rfl) ?_ | refine goDCall_p (pairS_ok _ _) (.inl rfl) ?_ | refine goDCall_p (smallW_ok _) (.inl rfl) ?_ | refine goDCall_p (rright_ok _) (.inl rfl) ?_ | refine goDCall_p (fineW_ok _) (.inl rfl) ?_)
             | skip) <;> simp only [h, ↓upd_eq, ↓envL_cons, Go.Ab.W0, Go.Ab.WD, Go.Ab.WE, if_true, if_false, reduceIte, Nat.reduceEqDiff, Nat.reduceAdd, Nat.reduceLT, Nat.reduceLeDiff, reduceCtorEq, Nat.reduceMul, implies_true, forall_eq_or_imp, forall_eq, Nat.reducePow, W1, W1B, hv, hw, hl', h0, h1, List.length_map]
        ·
          refine pcalls_text C_ok Try.func4 rfl (by decide) (Nat.le_of_ble_eq_true rfl) (by decide) rfl fun ok H => ?_
          rw [Try.results4]
          have h := True.intro
          repeat' (first
           | (with_reducible first | refine goIf_b ?_ ?_ | refine goIf_n ?_ ?_ | refine goIf_d ?_ ?_ | refine goIf_split ?_ ?_ | refine goGb_b ?_ ?_ | refine goGb_n ?_ ?_ | refine goGb_d ?_ ?_ | refine goGb_split ?_ ?_ | refine goDGb_b ?_ ?_ | refine goDGb_n ?_ ?_ | refine goDGb_d ?_ ?_ | refine goDGb_split ?_ ?_) <;> intro h
           | ((first | refine goCall_norm ?_ | refine goDCall_norm ?_); simp only [AV.norm, AV.normL, W2, W2B, hv, hw, hl', h0, List.length_map]; first | refine goCall_p (pairS_ok _ _) (.inl rfl) ?_ | refine goCall_p (smallW_ok _) (.inl rfl) ?_ | refine goCall_p (rright_ok _) (.inl rfl) ?_ | refine goCall_p (fineW_ok _) (.inl rfl) ?_ | refine goDCall_p (pairS_ok _ _) (.inl rfl) ?_ | refine goDCall_p (smallW_ok _) (.inl rfl) ?_ | refine goDCall_p (rright_ok _) (.inl rfl) ?_ | refine goDCall_p (fineW_ok _) (.inl rfl) ?_)
           | skip) <;> simp only [h, ↓upd_eq, ↓envL_cons, Go.Ab.W0, Go.Ab.WD, Go.Ab.WE, if_true, if_false, reduceIte, Nat.reduceEqDiff, Nat.reduceAdd, Nat.reduceLT, Nat.reduceLeDiff, reduceCtorEq, Nat.reduceMul, implies_true, forall_eq_or_imp, forall_eq, Nat.reducePow, W1, W1B, hv, hw, hl', h0, List.length_map]

end Go.Proofs.Ytpkdbhlpndibkaa
