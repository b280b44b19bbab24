/- Layer 11: twice. No condition. -/
import Derived.Test.YtpkdbhlpndibkaaEQ
set_option linter.unusedSimpArgs false
set_option linter.unusedVariables false
set_option maxHeartbeats 4000000
set_option maxRecDepth 100000
namespace Go.Proofs.Ytpkdbhlpndibkaa
open Go Go.Ab
attribute [local irreducible] PCalls ACalls CallK GoCall GoDCall GoIf GoGb GoDGb GoO GoD GoX GoDX GoG GoDG GoGv GoDGv Go ALoop

theorem allB4 (l : List Bd) : ∀ a : AV, a ∈ l.map embB → a.solid = true ∧ (cellsOf a).length = 4 := by
  intro a h
  obtain ⟨p, _, rfl⟩ := List.mem_map.1 h
  exact ⟨rfl, rfl⟩
theorem schemeTwice_ok (t : Ty) (l m : List Bd) : PCalls Try.prog 6 [emb t, .sl (l.map embB) .no, .sl (m.map embB) .no] (.bool true) := by
  cases hv : small [t] with
  | false =>
    refine pcalls_text C_ok Try.func6 rfl (by decide) (Nat.le_of_ble_eq_true rfl) (by decide) rfl fun ok H => ?_
    rw [Try.results6]
    have h := True.intro
    repeat' (first
     | (with_reducible first | refine goIf_b ?_ ?_ | refine goIf_n ?_ ?_ | refine goIf_d ?_ ?_ | refine goIf_split ?_ ?_ | refine goGb_b ?_ ?_ | refine goGb_n ?_ ?_ | refine goGb_d ?_ ?_ | refine goGb_split ?_ ?_ | refine goDGb_b ?_ ?_ | refine goDGb_n ?_ ?_ | refine goDGb_d ?_ ?_ | refine goDGb_split ?_ ?_) <;> intro h
     | ((first | refine goCall_norm ?_ | refine goDCall_norm ?_); simp only [AV.norm, AV.normL, W2, W2B, hv, hv, List.length_map]; first | refine goCall_p (smallW_ok [t]) (.inl rfl) ?_ | refine goCall_p (heavyB_ok _) (.inl rfl) ?_ | refine goCall_p (rright_ok _) (.inl rfl) ?_ | refine goCall_p (rrightB_ok _) (.inl rfl) ?_ | refine goDCall_p (smallW_ok [t]) (.inl rfl) ?_ | refine goDCall_p (heavyB_ok _) (.inl rfl) ?_ | refine goDCall_p (rright_ok _) (.inl rfl) ?_ | refine goDCall_p (rrightB_ok _) (.inl rfl) ?_)
     | refine go_draw (id := 10) C_ok (fun _ => trivial) mixed 1 Try.f6.ntmps rfl (by kernel_rfl) (by decide) ?_
     | skip) <;> simp only [h, ↓upd_eq, ↓envL_cons, Go.Ab.W0, Go.Ab.WD, Go.Ab.WE, if_true, if_false, reduceIte, Nat.reduceEqDiff, Nat.reduceAdd, Nat.reduceLT, Nat.reduceLeDiff, reduceCtorEq, Nat.reduceMul, implies_true, forall_eq_or_imp, forall_eq, Nat.reducePow, W1, W1B, hv, hv, List.length_map]
  | true =>
    cases h1 : heavyB l with
    | true =>
      refine pcalls_text C_ok Try.func6 rfl (by decide) (Nat.le_of_ble_eq_true rfl) (by decide) rfl fun ok H => ?_
      rw [Try.results6]
      have h := True.intro
      repeat' (first
       | (with_reducible first | refine goIf_b ?_ ?_ | refine goIf_n ?_ ?_ | refine goIf_d ?_ ?_ | refine goIf_split ?_ ?_ | refine goGb_b ?_ ?_ | refine goGb_n ?_ ?_ | refine goGb_d ?_ ?_ | refine goGb_split ?_ ?_ | refine goDGb_b ?_ ?_ | refine goDGb_n ?_ ?_ | refine goDGb_d ?_ ?_ | refine goDGb_split ?_ ?_) <;> intro h
       | ((first | refine goCall_norm ?_ | refine goDCall_norm ?_); simp only [AV.norm, AV.normL, W2, W2B, hv, h1, List.length_map]; first | refine goCall_p (smallW_ok [t]) (.inl rfl) ?_ | refine goCall_p (heavyB_ok _) (.inl rfl) ?_ | refine goCall_p (rright_ok _) (.inl rfl) ?_ | refine goCall_p (rrightB_ok _) (.inl rfl) ?_ | refine goDCall_p (smallW_ok [t]) (.inl rfl) ?_ | refine goDCall_p (heavyB_ok _) (.inl rfl) ?_ | refine goDCall_p (rright_ok _) (.inl rfl) ?_ | refine goDCall_p (rrightB_ok _) (.inl rfl) ?_)
       | refine go_draw (id := 10) C_ok (fun _ => trivial) mixed 1 Try.f6.ntmps rfl (by kernel_rfl) (by decide) ?_
       | skip) <;> simp only [h, ↓upd_eq, ↓envL_cons, Go.Ab.W0, Go.Ab.WD, Go.Ab.WE, if_true, if_false, reduceIte, Nat.reduceEqDiff, Nat.reduceAdd, Nat.reduceLT, Nat.reduceLeDiff, reduceCtorEq, Nat.reduceMul, implies_true, forall_eq_or_imp, forall_eq, Nat.reducePow, W1, W1B, hv, h1, List.length_map]
    | false =>
      cases h2 : heavyB m with
      | true =>
        refine pcalls_text C_ok Try.func6 rfl (by decide) (Nat.le_of_ble_eq_true rfl) (by decide) rfl fun ok H => ?_
        rw [Try.results6]
        have h := True.intro
        repeat' (first
         | (with_reducible first | refine goIf_b ?_ ?_ | refine goIf_n ?_ ?_ | refine goIf_d ?_ ?_ | refine goIf_split ?_ ?_ | refine goGb_b ?_ ?_ | refine goGb_n ?_ ?_ | refine goGb_d ?_ ?_ | refine goGb_split ?_ ?_ | refine goDGb_b ?_ ?_ | refine goDGb_n ?_ ?_ | refine goDGb_d ?_ ?_ | refine goDGb_split ?_ ?_) <;> intro h
         | ((first | refine goCall_norm ?_ | refine goDCall_norm ?_); simp only [AV.norm, AV.normL, W2, W2B, hv, h1, h2, List.length_map]; first | refine goCall_p (smallW_ok [t]) (.inl rfl) ?_ | refine goCall_p (heavyB_ok _) (.inl rfl) ?_ | refine goCall_p (rright_ok _) (.inl rfl) ?_ | refine goCall_p (rrightB_ok _) (.inl rfl) ?_ | refine goDCall_p (smallW_ok [t]) (.inl rfl) ?_ | refine goDCall_p (heavyB_ok _) (.inl rfl) ?_ | refine goDCall_p (rright_ok _) (.inl rfl) ?_ | refine goDCall_p (rrightB_ok _) (.inl rfl) ?_)
         | refine go_draw (id := 10) C_ok (fun _ => trivial) mixed 1 Try.f6.ntmps rfl (by kernel_rfl) (by decide) ?_
         | skip) <;> simp only [h, ↓upd_eq, ↓envL_cons, Go.Ab.W0, Go.Ab.WD, Go.Ab.WE, if_true, if_false, reduceIte, Nat.reduceEqDiff, Nat.reduceAdd, Nat.reduceLT, Nat.reduceLeDiff, reduceCtorEq, Nat.reduceMul, implies_true, forall_eq_or_imp, forall_eq, Nat.reducePow, W1, W1B, hv, h1, h2, List.length_map]
      | false =>
        by_cases h0 : right t = true
        · cases h3 : okBs l with
          | false =>
            refine pcalls_text C_ok Try.func6 rfl (by decide) (Nat.le_of_ble_eq_true rfl) (by decide) rfl fun ok H => ?_
            rw [Try.results6]
            have h := True.intro
            repeat' (first
             | (with_reducible first | refine goIf_b ?_ ?_ | refine goIf_n ?_ ?_ | refine goIf_d ?_ ?_ | refine goIf_split ?_ ?_ | refine goGb_b ?_ ?_ | refine goGb_n ?_ ?_ | refine goGb_d ?_ ?_ | refine goGb_split ?_ ?_ | refine goDGb_b ?_ ?_ | refine goDGb_n ?_ ?_ | refine goDGb_d ?_ ?_ | refine goDGb_split ?_ ?_) <;> intro h
             | ((first | refine goCall_norm ?_ | refine goDCall_norm ?_); simp only [AV.norm, AV.normL, W2, W2B, hv, h1, h2, h0, h3, List.length_map]; first | refine goCall_p (smallW_ok [t]) (.inl rfl) ?_ | refine goCall_p (heavyB_ok _) (.inl rfl) ?_ | refine goCall_p (rright_ok _) (.inl rfl) ?_ | refine goCall_p (rrightB_ok _) (.inl rfl) ?_ | refine goDCall_p (smallW_ok [t]) (.inl rfl) ?_ | refine goDCall_p (heavyB_ok _) (.inl rfl) ?_ | refine goDCall_p (rright_ok _) (.inl rfl) ?_ | refine goDCall_p (rrightB_ok _) (.inl rfl) ?_)
             | refine go_draw (id := 10) C_ok (fun _ => trivial) mixed 1 Try.f6.ntmps rfl (by kernel_rfl) (by decide) ?_
             | skip) <;> simp only [h, ↓upd_eq, ↓envL_cons, Go.Ab.W0, Go.Ab.WD, Go.Ab.WE, if_true, if_false, reduceIte, Nat.reduceEqDiff, Nat.reduceAdd, Nat.reduceLT, Nat.reduceLeDiff, reduceCtorEq, Nat.reduceMul, implies_true, forall_eq_or_imp, forall_eq, Nat.reducePow, W1, W1B, hv, h1, h2, h0, h3, List.length_map]
          | true =>
            cases h4 : okBs m with
            | false =>
              refine pcalls_text C_ok Try.func6 rfl (by decide) (Nat.le_of_ble_eq_true rfl) (by decide) rfl fun ok H => ?_
              rw [Try.results6]
              have h := True.intro
              repeat' (first
               | (with_reducible first | refine goIf_b ?_ ?_ | refine goIf_n ?_ ?_ | refine goIf_d ?_ ?_ | refine goIf_split ?_ ?_ | refine goGb_b ?_ ?_ | refine goGb_n ?_ ?_ | refine goGb_d ?_ ?_ | refine goGb_split ?_ ?_ | refine goDGb_b ?_ ?_ | refine goDGb_n ?_ ?_ | refine goDGb_d ?_ ?_ | refine goDGb_split ?_ ?_) <;> intro h
               | ((first | refine goCall_norm ?_ | refine goDCall_norm ?_); simp only [AV.norm, AV.normL, W2, W2B, hv, h1, h2, h0, h3, h4, List.length_map]; first | refine goCall_p (smallW_ok [t]) (.inl rfl) ?_ | refine goCall_p (heavyB_ok _) (.inl rfl) ?_ | refine goCall_p (rright_ok _) (.inl rfl) ?_ | refine goCall_p (rrightB_ok _) (.inl rfl) ?_ | refine goDCall_p (smallW_ok [t]) (.inl rfl) ?_ | refine goDCall_p (heavyB_ok _) (.inl rfl) ?_ | refine goDCall_p (rright_ok _) (.inl rfl) ?_ | refine goDCall_p (rrightB_ok _) (.inl rfl) ?_)
               | refine go_draw (id := 10) C_ok (fun _ => trivial) mixed 1 Try.f6.ntmps rfl (by kernel_rfl) (by decide) ?_
               | skip) <;> simp only [h, ↓upd_eq, ↓envL_cons, Go.Ab.W0, Go.Ab.WD, Go.Ab.WE, if_true, if_false, reduceIte, Nat.reduceEqDiff, Nat.reduceAdd, Nat.reduceLT, Nat.reduceLeDiff, reduceCtorEq, Nat.reduceMul, implies_true, forall_eq_or_imp, forall_eq, Nat.reducePow, W1, W1B, hv, h1, h2, h0, h3, h4, List.length_map]
            | true =>
              have hl40 := heavyB_len h1
              have hm40 := heavyB_len h2
              obtain ⟨x, rfl, hx⟩ := T.of_right' h0
              have q1 := subst_ok x.ty l
              rw [substR, if_pos ⟨h0, h3⟩, tOf_ty] at q1
              have q2 := subst_ok (putS (sigB l) x).ty m
              rw [substR, if_pos ⟨by rw [T.right_ty]; exact putB_ok h3 hx, h4⟩, tOf_ty] at q2
              have q3 := subst_ok x.ty (l ++ m)
              rw [substR, if_pos ⟨h0, okBs_app h3 h4⟩, tOf_ty] at q3
              have q4 := subst_ok x.ty []
              rw [substR, if_pos ⟨h0, rfl⟩, tOf_ty, put_nil] at q4
              rw [List.map_nil] at q4
              have qs := ksame_ok (putS (sigB (l ++ m)) x).ty (putS (sigB (l ++ m)) x).ty
              rw [same_refl] at qs
              have qs0 := ksame_ok x.ty x.ty
              rw [same_refl] at qs0
              have hw : ∀ i, i < l.length → ∀ b, without 6 (l.getD i default).2 = b → PCalls Try.prog 28 [emb (l.getD i default).2, .int .i64 6] (.bool b) := fun i hi b e => by rw [← e]; exact rwithout_ok _ 6
              have htw := twice_ty (l := l) (m := m) h3 h4
              refine pcalls_text C_ok Try.func6 rfl (by decide) (Nat.le_of_ble_eq_true rfl) (by decide) rfl fun ok H => ?_
              rw [Try.results6]
              have h := True.intro
              repeat' (first
               | (with_reducible first | refine goIf_b ?_ ?_ | refine goIf_n ?_ ?_ | refine goIf_d ?_ ?_ | refine goIf_split ?_ ?_ | refine goGb_b ?_ ?_ | refine goGb_n ?_ ?_ | refine goGb_d ?_ ?_ | refine goGb_split ?_ ?_ | refine goDGb_b ?_ ?_ | refine goDGb_n ?_ ?_ | refine goDGb_d ?_ ?_ | refine goDGb_split ?_ ?_) <;> intro h
               | ((first | refine goCall_norm ?_ | refine goDCall_norm ?_); simp only [AV.norm, AV.normL, W2, W2B, hv, h1, h2, h0, h3, h4, List.length_map]; first | refine goCall_p (smallW_ok [x.ty]) (.inl rfl) ?_ | refine goCall_p (heavyB_ok _) (.inl rfl) ?_ | refine goCall_p (rright_ok _) (.inl rfl) ?_ | refine goCall_p (rrightB_ok _) (.inl rfl) ?_ | refine goDCall_p (smallW_ok [x.ty]) (.inl rfl) ?_ | refine goDCall_p (heavyB_ok _) (.inl rfl) ?_ | refine goDCall_p (rright_ok _) (.inl rfl) ?_ | refine goDCall_p (rrightB_ok _) (.inl rfl) ?_)
               | refine go_draw (id := 10) C_ok (fun _ => trivial) mixed 1 Try.f6.ntmps rfl (by kernel_rfl) (by decide) ?_
               | skip) <;> simp only [h, ↓upd_eq, ↓envL_cons, Go.Ab.W0, Go.Ab.WD, Go.Ab.WE, if_true, if_false, reduceIte, Nat.reduceEqDiff, Nat.reduceAdd, Nat.reduceLT, Nat.reduceLeDiff, reduceCtorEq, Nat.reduceMul, implies_true, forall_eq_or_imp, forall_eq, Nat.reducePow, W1, W1B, hv, h1, h2, h0, h3, h4, List.length_map]
              refine aloop_trim [7, 1, 2, 3] ?_
              simp only [List.map_cons, List.map_nil, ↓upd_eq, ↓envL_cons, Go.Ab.W0, Go.Ab.WD, Go.Ab.WE, if_true, if_false, reduceIte, Nat.reduceEqDiff, Nat.reduceAdd, Nat.reduceLT, Nat.reduceLeDiff, reduceCtorEq, Nat.reduceMul, implies_true, forall_eq_or_imp, forall_eq, Nat.reducePow, W1, W1B]
              refine goLoopS 1 (fun i : Nat => [(7, .int .i64 i)]) (fun _ => _) (fun i => i ≤ l.length ∧ ∀ j, j < i → without 6 (l.getD j default).2 = true) (fun i => l.length - i) C_ok 0 rfl rfl ⟨Nat.zero_le _, fun j hj => absurd hj (Nat.not_lt_zero j)⟩ (by decide) ?_
              rintro i ⟨hi, hc⟩
              have hmax : l.length ≤ maxLen := by rw [maxLen_val]; omega
              simp only [List.drop_succ_cons, List.drop_zero, List.cons_append, List.nil_append]
              by_cases hlt : i < l.length
              · have hg := mapB_get hlt
                cases hwi : without 6 (l.getD i default).2 with
                | false =>
                  have c1 := hw i hlt _ hwi
                  have h := True.intro
                  repeat' (first
                   | (with_reducible first | refine goIf_b ?_ ?_ | refine goIf_n ?_ ?_ | refine goIf_d ?_ ?_ | refine goIf_split ?_ ?_ | refine goGb_b ?_ ?_ | refine goGb_n ?_ ?_ | refine goGb_d ?_ ?_ | refine goGb_split ?_ ?_ | refine goDGb_b ?_ ?_ | refine goDGb_n ?_ ?_ | refine goDGb_d ?_ ?_ | refine goDGb_split ?_ ?_) <;> intro h
                   | ((first | refine goCall_norm ?_ | refine goDCall_norm ?_); simp only [AV.norm, AV.normL, W2, W2B, hlt, hg, embB_cells, List.length_map]; first | refine goCall_p (c1) (.inl rfl) ?_ | refine goCall_p (wakes11_ok) (.inl rfl) ?_ | refine goDCall_p (c1) (.inl rfl) ?_ | refine goDCall_p (wakes11_ok) (.inl rfl) ?_)
                   | refine go_draw (id := 10) C_ok (fun _ => trivial) mixed 1 Try.f6.ntmps rfl (by kernel_rfl) (by decide) ?_
                   | skip) <;> simp only [h, ↓upd_eq, ↓envL_cons, Go.Ab.W0, Go.Ab.WD, Go.Ab.WE, if_true, if_false, reduceIte, Nat.reduceEqDiff, Nat.reduceAdd, Nat.reduceLT, Nat.reduceLeDiff, reduceCtorEq, Nat.reduceMul, implies_true, forall_eq_or_imp, forall_eq, Nat.reducePow, W1, W1B, hlt, hg, embB_cells, List.length_map]
                | true =>
                  have c1 := hw i hlt _ hwi
                  have h := True.intro
                  repeat' (first
                   | (with_reducible first | refine goIf_b ?_ ?_ | refine goIf_n ?_ ?_ | refine goIf_d ?_ ?_ | refine goIf_split ?_ ?_ | refine goGb_b ?_ ?_ | refine goGb_n ?_ ?_ | refine goGb_d ?_ ?_ | refine goGb_split ?_ ?_ | refine goDGb_b ?_ ?_ | refine goDGb_n ?_ ?_ | refine goDGb_d ?_ ?_ | refine goDGb_split ?_ ?_) <;> intro h
                   | ((first | refine goCall_norm ?_ | refine goDCall_norm ?_); simp only [AV.norm, AV.normL, W2, W2B, hlt, hg, embB_cells, List.length_map]; first | refine goCall_p (c1) (.inl rfl) ?_ | refine goCall_p (wakes11_ok) (.inl rfl) ?_ | refine goDCall_p (c1) (.inl rfl) ?_ | refine goDCall_p (wakes11_ok) (.inl rfl) ?_)
                   | refine go_draw (id := 10) C_ok (fun _ => trivial) mixed 1 Try.f6.ntmps rfl (by kernel_rfl) (by decide) ?_
                   | skip) <;> simp only [h, ↓upd_eq, ↓envL_cons, Go.Ab.W0, Go.Ab.WD, Go.Ab.WE, if_true, if_false, reduceIte, Nat.reduceEqDiff, Nat.reduceAdd, Nat.reduceLT, Nat.reduceLeDiff, reduceCtorEq, Nat.reduceMul, implies_true, forall_eq_or_imp, forall_eq, Nat.reducePow, W1, W1B, hlt, hg, embB_cells, List.length_map]
                  refine ⟨i + 1, ⟨by omega, fun j hj => ?_⟩, by omega, weak_drop rfl rfl rfl rfl ?_ ?_ ?_⟩
                  · rcases Nat.lt_succ_iff_lt_or_eq.1 hj with h | rfl
                    · exact hc j h
                    · exact hwi
                  all_goals first | (simp only [List.forall_mem_cons, mem_nil_all, frz_app, ↓upd_eq, ↓envL_cons, Nat.reduceEqDiff, if_true, if_false, reduceIte, true_and, and_true, and_self, true_or, or_true, implies_true, List.not_mem_nil, false_implies, AV.bel, AV.belL, AObj.bel, AV.norm, AV.normL, Bool.and_true, Bool.true_and, decide_true, decide_eq_true_eq, List.length_cons, List.length_nil, Nat.zero_add, Nat.reduceAdd, Nat.lt_add_one, Nat.lt_add_right_iff_pos, Nat.zero_lt_succ, Nat.zero_lt_one, Nat.reduceLT, List.take_succ_cons, List.take_zero, wrap_succ hlt hmax, mapB_bel, map_bel]; done) | (simp only [List.forall_mem_cons, mem_nil_all, frz_app, ↓upd_eq, ↓envL_cons, Nat.reduceEqDiff, if_true, if_false, reduceIte, true_and, and_true, and_self, true_or, or_true, implies_true, List.not_mem_nil, false_implies, AV.bel, AV.belL, AObj.bel, AV.norm, AV.normL, Bool.and_true, Bool.true_and, decide_true, decide_eq_true_eq, List.length_cons, List.length_nil, Nat.zero_add, Nat.reduceAdd, Nat.lt_add_one, Nat.lt_add_right_iff_pos, Nat.zero_lt_succ, Nat.zero_lt_one, Nat.reduceLT, List.take_succ_cons, List.take_zero, wrap_succ hlt hmax, mapB_bel, map_bel]; omega)
              · have e : putS (sigB m) (putS (sigB l) x) = putS (sigB (l ++ m)) x := htw (fun j hj => hc j (by omega)) x
                rw [e] at q2
                cases l with
                | nil =>
                  have eS : putS (sigB []) x = x := put_nil x
                  rw [eS] at q1 q2
                  rw [List.nil_append] at q2 q3 qs
                  cases m with
                  | nil =>
                    rw [eS] at q2 q3 qs
                    simp only [List.length_nil, List.length_cons] at hlt hl40 hm40
                    simp only [List.nil_append, List.append_nil, List.cons_append, List.map_nil, List.map_cons, List.map_append] at q3
                    have h := True.intro
                    repeat' (first
                     | (with_reducible first | refine goIf_b ?_ ?_ | refine goIf_n ?_ ?_ | refine goIf_d ?_ ?_ | refine goIf_split ?_ ?_ | refine goGb_b ?_ ?_ | refine goGb_n ?_ ?_ | refine goGb_d ?_ ?_ | refine goGb_split ?_ ?_ | refine goDGb_b ?_ ?_ | refine goDGb_n ?_ ?_ | refine goDGb_d ?_ ?_ | refine goDGb_split ?_ ?_) <;> intro h
                     | ((first | refine goCall_norm ?_ | refine goDCall_norm ?_); simp only [AV.norm, AV.normL, W2, W2B, hlt, List.length_map, List.map_nil, List.map_cons, List.nil_append, List.append_nil, List.cons_append, List.length_cons, List.length_append, List.length_nil, AV.normL, normL_app, embB_norm, mapB_norm]; first | refine goCall_p (q1) (.inl rfl) ?_ | refine goCall_p (q2) (.inl rfl) ?_ | refine goCall_p (q3) (.inl rfl) ?_ | refine goCall_p (q4) (.inl rfl) ?_ | refine goCall_p (qs) (.inl rfl) ?_ | refine goCall_p (qs0) (.inl rfl) ?_ | refine goCall_p (wakes11_ok) (.inl rfl) ?_ | refine goDCall_p (q1) (.inl rfl) ?_ | refine goDCall_p (q2) (.inl rfl) ?_ | refine goDCall_p (q3) (.inl rfl) ?_ | refine goDCall_p (q4) (.inl rfl) ?_ | refine goDCall_p (qs) (.inl rfl) ?_ | refine goDCall_p (qs0) (.inl rfl) ?_ | refine goDCall_p (wakes11_ok) (.inl rfl) ?_)
                     | refine go_draw (id := 10) C_ok (fun _ => trivial) mixed 1 Try.f6.ntmps rfl (by kernel_rfl) (by decide) ?_
                     | skip) <;> simp only [h, ↓upd_eq, ↓envL_cons, Go.Ab.W0, Go.Ab.WD, Go.Ab.WE, if_true, if_false, reduceIte, Nat.reduceEqDiff, Nat.reduceAdd, Nat.reduceLT, Nat.reduceLeDiff, reduceCtorEq, Nat.reduceMul, implies_true, forall_eq_or_imp, forall_eq, Nat.reducePow, W1, W1B, hlt, List.length_map, List.map_nil, List.map_cons, List.nil_append, List.append_nil, List.cons_append, List.length_cons, List.length_append, List.length_nil, AV.normL, normL_app, embB_norm, mapB_norm]
                  | cons p m =>
                    generalize (putS (sigB (p :: m)) x).ty = R at *
                    simp only [List.length_nil, List.length_cons] at hlt hl40 hm40
                    simp only [List.nil_append, List.append_nil, List.cons_append, List.map_nil, List.map_cons, List.map_append] at q3
                    have h := True.intro
                    repeat' (first
                     | (with_reducible first | refine goIf_b ?_ ?_ | refine goIf_n ?_ ?_ | refine goIf_d ?_ ?_ | refine goIf_split ?_ ?_ | refine goGb_b ?_ ?_ | refine goGb_n ?_ ?_ | refine goGb_d ?_ ?_ | refine goGb_split ?_ ?_ | refine goDGb_b ?_ ?_ | refine goDGb_n ?_ ?_ | refine goDGb_d ?_ ?_ | refine goDGb_split ?_ ?_) <;> intro h
                     | ((first | refine goCall_norm ?_ | refine goDCall_norm ?_); simp only [AV.norm, AV.normL, W2, W2B, hlt, List.length_map, List.map_nil, List.map_cons, List.nil_append, List.append_nil, List.cons_append, List.length_cons, List.length_append, List.length_nil, AV.normL, normL_app, embB_norm, mapB_norm]; first | refine goCall_p (q1) (.inl rfl) ?_ | refine goCall_p (q2) (.inl rfl) ?_ | refine goCall_p (q3) (.inl rfl) ?_ | refine goCall_p (q4) (.inl rfl) ?_ | refine goCall_p (qs) (.inl rfl) ?_ | refine goCall_p (qs0) (.inl rfl) ?_ | refine goCall_p (wakes11_ok) (.inl rfl) ?_ | refine goDCall_p (q1) (.inl rfl) ?_ | refine goDCall_p (q2) (.inl rfl) ?_ | refine goDCall_p (q3) (.inl rfl) ?_ | refine goDCall_p (q4) (.inl rfl) ?_ | refine goDCall_p (qs) (.inl rfl) ?_ | refine goDCall_p (qs0) (.inl rfl) ?_ | refine goDCall_p (wakes11_ok) (.inl rfl) ?_)
                     | refine go_draw (id := 10) C_ok (fun _ => trivial) mixed 1 Try.f6.ntmps rfl (by kernel_rfl) (by decide) ?_
                     | skip) <;> simp only [h, ↓upd_eq, ↓envL_cons, Go.Ab.W0, Go.Ab.WD, Go.Ab.WE, if_true, if_false, reduceIte, Nat.reduceEqDiff, Nat.reduceAdd, Nat.reduceLT, Nat.reduceLeDiff, reduceCtorEq, Nat.reduceMul, implies_true, forall_eq_or_imp, forall_eq, Nat.reducePow, W1, W1B, hlt, List.length_map, List.map_nil, List.map_cons, List.nil_append, List.append_nil, List.cons_append, List.length_cons, List.length_append, List.length_nil, AV.normL, normL_app, embB_norm, mapB_norm]
                    refine ⟨⟨by omega, by omega, allB4 m⟩, ?_⟩
                    have h := True.intro
                    repeat' (first
                     | (with_reducible first | refine goIf_b ?_ ?_ | refine goIf_n ?_ ?_ | refine goIf_d ?_ ?_ | refine goIf_split ?_ ?_ | refine goGb_b ?_ ?_ | refine goGb_n ?_ ?_ | refine goGb_d ?_ ?_ | refine goGb_split ?_ ?_ | refine goDGb_b ?_ ?_ | refine goDGb_n ?_ ?_ | refine goDGb_d ?_ ?_ | refine goDGb_split ?_ ?_) <;> intro h
                     | ((first | refine goCall_norm ?_ | refine goDCall_norm ?_); simp only [AV.norm, AV.normL, W2, W2B, hlt, List.length_map, List.map_nil, List.map_cons, List.nil_append, List.append_nil, List.cons_append, List.length_cons, List.length_append, List.length_nil, AV.normL, normL_app, embB_norm, mapB_norm]; first | refine goCall_p (q1) (.inl rfl) ?_ | refine goCall_p (q2) (.inl rfl) ?_ | refine goCall_p (q3) (.inl rfl) ?_ | refine goCall_p (q4) (.inl rfl) ?_ | refine goCall_p (qs) (.inl rfl) ?_ | refine goCall_p (qs0) (.inl rfl) ?_ | refine goCall_p (wakes11_ok) (.inl rfl) ?_ | refine goDCall_p (q1) (.inl rfl) ?_ | refine goDCall_p (q2) (.inl rfl) ?_ | refine goDCall_p (q3) (.inl rfl) ?_ | refine goDCall_p (q4) (.inl rfl) ?_ | refine goDCall_p (qs) (.inl rfl) ?_ | refine goDCall_p (qs0) (.inl rfl) ?_ | refine goDCall_p (wakes11_ok) (.inl rfl) ?_)
                     | refine go_draw (id := 10) C_ok (fun _ => trivial) mixed 1 Try.f6.ntmps rfl (by kernel_rfl) (by decide) ?_
                     | skip) <;> simp only [h, ↓upd_eq, ↓envL_cons, Go.Ab.W0, Go.Ab.WD, Go.Ab.WE, if_true, if_false, reduceIte, Nat.reduceEqDiff, Nat.reduceAdd, Nat.reduceLT, Nat.reduceLeDiff, reduceCtorEq, Nat.reduceMul, implies_true, forall_eq_or_imp, forall_eq, Nat.reducePow, W1, W1B, hlt, List.length_map, List.map_nil, List.map_cons, List.nil_append, List.append_nil, List.cons_append, List.length_cons, List.length_append, List.length_nil, AV.normL, normL_app, embB_norm, mapB_norm]
                | cons p l =>
                  cases m with
                  | nil =>
                    rw [List.append_nil] at q2 q3 qs
                    generalize (putS (sigB (p :: l)) x).ty = R at *
                    simp only [List.length_nil, List.length_cons] at hlt hl40 hm40
                    simp only [List.nil_append, List.append_nil, List.cons_append, List.map_nil, List.map_cons, List.map_append] at q3
                    have h := True.intro
                    repeat' (first
                     | (with_reducible first | refine goIf_b ?_ ?_ | refine goIf_n ?_ ?_ | refine goIf_d ?_ ?_ | refine goIf_split ?_ ?_ | refine goGb_b ?_ ?_ | refine goGb_n ?_ ?_ | refine goGb_d ?_ ?_ | refine goGb_split ?_ ?_ | refine goDGb_b ?_ ?_ | refine goDGb_n ?_ ?_ | refine goDGb_d ?_ ?_ | refine goDGb_split ?_ ?_) <;> intro h
                     | ((first | refine goCall_norm ?_ | refine goDCall_norm ?_); simp only [AV.norm, AV.normL, W2, W2B, hlt, List.length_map, List.map_nil, List.map_cons, List.nil_append, List.append_nil, List.cons_append, List.length_cons, List.length_append, List.length_nil, AV.normL, normL_app, embB_norm, mapB_norm]; first | refine goCall_p (q1) (.inl rfl) ?_ | refine goCall_p (q2) (.inl rfl) ?_ | refine goCall_p (q3) (.inl rfl) ?_ | refine goCall_p (q4) (.inl rfl) ?_ | refine goCall_p (qs) (.inl rfl) ?_ | refine goCall_p (qs0) (.inl rfl) ?_ | refine goCall_p (wakes11_ok) (.inl rfl) ?_ | refine goDCall_p (q1) (.inl rfl) ?_ | refine goDCall_p (q2) (.inl rfl) ?_ | refine goDCall_p (q3) (.inl rfl) ?_ | refine goDCall_p (q4) (.inl rfl) ?_ | refine goDCall_p (qs) (.inl rfl) ?_ | refine goDCall_p (qs0) (.inl rfl) ?_ | refine goDCall_p (wakes11_ok) (.inl rfl) ?_)
                     | refine go_draw (id := 10) C_ok (fun _ => trivial) mixed 1 Try.f6.ntmps rfl (by kernel_rfl) (by decide) ?_
                     | skip) <;> simp only [h, ↓upd_eq, ↓envL_cons, Go.Ab.W0, Go.Ab.WD, Go.Ab.WE, if_true, if_false, reduceIte, Nat.reduceEqDiff, Nat.reduceAdd, Nat.reduceLT, Nat.reduceLeDiff, reduceCtorEq, Nat.reduceMul, implies_true, forall_eq_or_imp, forall_eq, Nat.reducePow, W1, W1B, hlt, List.length_map, List.map_nil, List.map_cons, List.nil_append, List.append_nil, List.cons_append, List.length_cons, List.length_append, List.length_nil, AV.normL, normL_app, embB_norm, mapB_norm]
                    refine ⟨⟨by omega, by omega, allB4 l⟩, ⟨by omega, by omega⟩, ?_⟩
                    have h := True.intro
                    repeat' (first
                     | (with_reducible first | refine goIf_b ?_ ?_ | refine goIf_n ?_ ?_ | refine goIf_d ?_ ?_ | refine goIf_split ?_ ?_ | refine goGb_b ?_ ?_ | refine goGb_n ?_ ?_ | refine goGb_d ?_ ?_ | refine goGb_split ?_ ?_ | refine goDGb_b ?_ ?_ | refine goDGb_n ?_ ?_ | refine goDGb_d ?_ ?_ | refine goDGb_split ?_ ?_) <;> intro h
                     | ((first | refine goCall_norm ?_ | refine goDCall_norm ?_); simp only [AV.norm, AV.normL, W2, W2B, hlt, List.length_map, List.map_nil, List.map_cons, List.nil_append, List.append_nil, List.cons_append, List.length_cons, List.length_append, List.length_nil, AV.normL, normL_app, embB_norm, mapB_norm]; first | refine goCall_p (q1) (.inl rfl) ?_ | refine goCall_p (q2) (.inl rfl) ?_ | refine goCall_p (q3) (.inl rfl) ?_ | refine goCall_p (q4) (.inl rfl) ?_ | refine goCall_p (qs) (.inl rfl) ?_ | refine goCall_p (qs0) (.inl rfl) ?_ | refine goCall_p (wakes11_ok) (.inl rfl) ?_ | refine goDCall_p (q1) (.inl rfl) ?_ | refine goDCall_p (q2) (.inl rfl) ?_ | refine goDCall_p (q3) (.inl rfl) ?_ | refine goDCall_p (q4) (.inl rfl) ?_ | refine goDCall_p (qs) (.inl rfl) ?_ | refine goDCall_p (qs0) (.inl rfl) ?_ | refine goDCall_p (wakes11_ok) (.inl rfl) ?_)
                     | refine go_draw (id := 10) C_ok (fun _ => trivial) mixed 1 Try.f6.ntmps rfl (by kernel_rfl) (by decide) ?_
                     | skip) <;> simp only [h, ↓upd_eq, ↓envL_cons, Go.Ab.W0, Go.Ab.WD, Go.Ab.WE, if_true, if_false, reduceIte, Nat.reduceEqDiff, Nat.reduceAdd, Nat.reduceLT, Nat.reduceLeDiff, reduceCtorEq, Nat.reduceMul, implies_true, forall_eq_or_imp, forall_eq, Nat.reducePow, W1, W1B, hlt, List.length_map, List.map_nil, List.map_cons, List.nil_append, List.append_nil, List.cons_append, List.length_cons, List.length_append, List.length_nil, AV.normL, normL_app, embB_norm, mapB_norm]
                  | cons q m =>
                    generalize (putS (sigB (p :: l ++ q :: m)) x).ty = R at *
                    generalize (putS (sigB (p :: l)) x).ty = S at *
                    simp only [List.length_nil, List.length_cons] at hlt hl40 hm40
                    simp only [List.nil_append, List.append_nil, List.cons_append, List.map_nil, List.map_cons, List.map_append] at q3
                    have h := True.intro
                    repeat' (first
                     | (with_reducible first | refine goIf_b ?_ ?_ | refine goIf_n ?_ ?_ | refine goIf_d ?_ ?_ | refine goIf_split ?_ ?_ | refine goGb_b ?_ ?_ | refine goGb_n ?_ ?_ | refine goGb_d ?_ ?_ | refine goGb_split ?_ ?_ | refine goDGb_b ?_ ?_ | refine goDGb_n ?_ ?_ | refine goDGb_d ?_ ?_ | refine goDGb_split ?_ ?_) <;> intro h
                     | ((first | refine goCall_norm ?_ | refine goDCall_norm ?_); simp only [AV.norm, AV.normL, W2, W2B, hlt, List.length_map, List.map_nil, List.map_cons, List.nil_append, List.append_nil, List.cons_append, List.length_cons, List.length_append, List.length_nil, AV.normL, normL_app, embB_norm, mapB_norm]; first | refine goCall_p (q1) (.inl rfl) ?_ | refine goCall_p (q2) (.inl rfl) ?_ | refine goCall_p (q3) (.inl rfl) ?_ | refine goCall_p (q4) (.inl rfl) ?_ | refine goCall_p (qs) (.inl rfl) ?_ | refine goCall_p (qs0) (.inl rfl) ?_ | refine goCall_p (wakes11_ok) (.inl rfl) ?_ | refine goDCall_p (q1) (.inl rfl) ?_ | refine goDCall_p (q2) (.inl rfl) ?_ | refine goDCall_p (q3) (.inl rfl) ?_ | refine goDCall_p (q4) (.inl rfl) ?_ | refine goDCall_p (qs) (.inl rfl) ?_ | refine goDCall_p (qs0) (.inl rfl) ?_ | refine goDCall_p (wakes11_ok) (.inl rfl) ?_)
                     | refine go_draw (id := 10) C_ok (fun _ => trivial) mixed 1 Try.f6.ntmps rfl (by kernel_rfl) (by decide) ?_
                     | skip) <;> simp only [h, ↓upd_eq, ↓envL_cons, Go.Ab.W0, Go.Ab.WD, Go.Ab.WE, if_true, if_false, reduceIte, Nat.reduceEqDiff, Nat.reduceAdd, Nat.reduceLT, Nat.reduceLeDiff, reduceCtorEq, Nat.reduceMul, implies_true, forall_eq_or_imp, forall_eq, Nat.reducePow, W1, W1B, hlt, List.length_map, List.map_nil, List.map_cons, List.nil_append, List.append_nil, List.cons_append, List.length_cons, List.length_append, List.length_nil, AV.normL, normL_app, embB_norm, mapB_norm]
                    refine ⟨⟨by omega, by omega, allB4 l⟩, ⟨by omega, by omega, allB4 m⟩, ?_⟩
                    have h := True.intro
                    repeat' (first
                     | (with_reducible first | refine goIf_b ?_ ?_ | refine goIf_n ?_ ?_ | refine goIf_d ?_ ?_ | refine goIf_split ?_ ?_ | refine goGb_b ?_ ?_ | refine goGb_n ?_ ?_ | refine goGb_d ?_ ?_ | refine goGb_split ?_ ?_ | refine goDGb_b ?_ ?_ | refine goDGb_n ?_ ?_ | refine goDGb_d ?_ ?_ | refine goDGb_split ?_ ?_) <;> intro h
                     | ((first | refine goCall_norm ?_ | refine goDCall_norm ?_); simp only [AV.norm, AV.normL, W2, W2B, hlt, List.length_map, List.map_nil, List.map_cons, List.nil_append, List.append_nil, List.cons_append, List.length_cons, List.length_append, List.length_nil, AV.normL, normL_app, embB_norm, mapB_norm]; first | refine goCall_p (q1) (.inl rfl) ?_ | refine goCall_p (q2) (.inl rfl) ?_ | refine goCall_p (q3) (.inl rfl) ?_ | refine goCall_p (q4) (.inl rfl) ?_ | refine goCall_p (qs) (.inl rfl) ?_ | refine goCall_p (qs0) (.inl rfl) ?_ | refine goCall_p (wakes11_ok) (.inl rfl) ?_ | refine goDCall_p (q1) (.inl rfl) ?_ | refine goDCall_p (q2) (.inl rfl) ?_ | refine goDCall_p (q3) (.inl rfl) ?_ | refine goDCall_p (q4) (.inl rfl) ?_ | refine goDCall_p (qs) (.inl rfl) ?_ | refine goDCall_p (qs0) (.inl rfl) ?_ | refine goDCall_p (wakes11_ok) (.inl rfl) ?_)
                     | refine go_draw (id := 10) C_ok (fun _ => trivial) mixed 1 Try.f6.ntmps rfl (by kernel_rfl) (by decide) ?_
                     | skip) <;> simp only [h, ↓upd_eq, ↓envL_cons, Go.Ab.W0, Go.Ab.WD, Go.Ab.WE, if_true, if_false, reduceIte, Nat.reduceEqDiff, Nat.reduceAdd, Nat.reduceLT, Nat.reduceLeDiff, reduceCtorEq, Nat.reduceMul, implies_true, forall_eq_or_imp, forall_eq, Nat.reducePow, W1, W1B, hlt, List.length_map, List.map_nil, List.map_cons, List.nil_append, List.append_nil, List.cons_append, List.length_cons, List.length_append, List.length_nil, AV.normL, normL_app, embB_norm, mapB_norm]
        ·
          refine pcalls_text C_ok Try.func6 rfl (by decide) (Nat.le_of_ble_eq_true rfl) (by decide) rfl fun ok H => ?_
          rw [Try.results6]
          have h := True.intro
          repeat' (first
           | (with_reducible first | refine goIf_b ?_ ?_ | refine goIf_n ?_ ?_ | refine goIf_d ?_ ?_ | refine goIf_split ?_ ?_ | refine goGb_b ?_ ?_ | refine goGb_n ?_ ?_ | refine goGb_d ?_ ?_ | refine goGb_split ?_ ?_ | refine goDGb_b ?_ ?_ | refine goDGb_n ?_ ?_ | refine goDGb_d ?_ ?_ | refine goDGb_split ?_ ?_) <;> intro h
           | ((first | refine goCall_norm ?_ | refine goDCall_norm ?_); simp only [AV.norm, AV.normL, W2, W2B, hv, h1, h2, h0, List.length_map]; first | refine goCall_p (smallW_ok [t]) (.inl rfl) ?_ | refine goCall_p (heavyB_ok _) (.inl rfl) ?_ | refine goCall_p (rright_ok _) (.inl rfl) ?_ | refine goCall_p (rrightB_ok _) (.inl rfl) ?_ | refine goDCall_p (smallW_ok [t]) (.inl rfl) ?_ | refine goDCall_p (heavyB_ok _) (.inl rfl) ?_ | refine goDCall_p (rright_ok _) (.inl rfl) ?_ | refine goDCall_p (rrightB_ok _) (.inl rfl) ?_)
           | refine go_draw (id := 10) C_ok (fun _ => trivial) mixed 1 Try.f6.ntmps rfl (by kernel_rfl) (by decide) ?_
           | skip) <;> simp only [h, ↓upd_eq, ↓envL_cons, Go.Ab.W0, Go.Ab.WD, Go.Ab.WE, if_true, if_false, reduceIte, Nat.reduceEqDiff, Nat.reduceAdd, Nat.reduceLT, Nat.reduceLeDiff, reduceCtorEq, Nat.reduceMul, implies_true, forall_eq_or_imp, forall_eq, Nat.reducePow, W1, W1B, hv, h1, h2, h0, List.length_map]

end Go.Proofs.Ytpkdbhlpndibkaa
