/- The law CompFits answers true, whatever the input. No condition. -/
import Derived.Test.YtajdipeebpmifaaPKa
import Derived.Test.YtajdipeebpmifaaPCa
set_option linter.unusedSimpArgs false
set_option linter.unusedVariables false
set_option maxHeartbeats 4000000
set_option maxRecDepth 100000
namespace Go.Proofs.Ytajdipeebpmifaa
open Go Go.Ab
attribute [local irreducible] PCalls ACalls CallK GoCall GoDCall GoIf GoGb GoDGb GoO GoD GoX GoDX GoG GoDG GoGv GoDGv Go ALoop

theorem compFits_ok (l : List Ty) (n : Bool) : PCalls Try.prog 18 [.sl (l.map emb) .no, .bool n] (.bool true) := by
  by_cases h0 : l.length = 0
  · have e : ((l.length : Int) == 0) = true := by simp [h0]
    refine pcalls_text C_ok Try.func18 rfl (by decide) (Nat.le_of_ble_eq_true rfl) (by decide) rfl fun ok H => ?_
    rw [Try.results18]
    have h := True.intro
    repeat' (first
     | (with_reducible first | refine goIf_b ?_ ?_ | refine goIf_n ?_ ?_ | refine goIf_d ?_ ?_ | refine goIf_split ?_ ?_ | refine goGb_b ?_ ?_ | refine goGb_n ?_ ?_ | refine goGb_d ?_ ?_ | refine goGb_split ?_ ?_ | refine goDGb_b ?_ ?_ | refine goDGb_n ?_ ?_ | refine goDGb_d ?_ ?_ | refine goDGb_split ?_ ?_) <;> intro h
     | refine go_draw (id := 7) C_ok mixed 1 Try.f18.ntmps rfl (by kernel_rfl) (by decide) ?_
     | refine go_draw (id := 11) C_ok mixed 0 Try.f18.ntmps rfl (by kernel_rfl) (by decide) ?_
     | refine goRound ?_ C_ok Try.f18.ntmps rfl (by decide)
     | skip) <;> simp only [h, ↓upd_eq, ↓envL_cons, Go.Ab.W0, Go.Ab.WD, Go.Ab.WE, if_true, if_false, reduceIte, Nat.reduceEqDiff, Nat.reduceAdd, Nat.reduceLT, Nat.reduceLeDiff, reduceCtorEq, Nat.reduceMul, implies_true, forall_eq_or_imp, forall_eq, Nat.reducePow, W1, W1C, Go.Ab.W3, Int.reduceAdd, Int.reduceLT, Int.reduceToNat, Int.reduceBEq, Int.reduceBNe, Int.reduceLE, e, List.length_map, cutNormal_normal]
  have e0 : ((l.length : Int) == 0) = false := by rw [beq_eq_false_iff_ne]; omega
  by_cases h8 : (l.length : Int) > 8
  · refine pcalls_text C_ok Try.func18 rfl (by decide) (Nat.le_of_ble_eq_true rfl) (by decide) rfl fun ok H => ?_
    rw [Try.results18]
    have h := True.intro
    repeat' (first
     | (with_reducible first | refine goIf_b ?_ ?_ | refine goIf_n ?_ ?_ | refine goIf_d ?_ ?_ | refine goIf_split ?_ ?_ | refine goGb_b ?_ ?_ | refine goGb_n ?_ ?_ | refine goGb_d ?_ ?_ | refine goGb_split ?_ ?_ | refine goDGb_b ?_ ?_ | refine goDGb_n ?_ ?_ | refine goDGb_d ?_ ?_ | refine goDGb_split ?_ ?_) <;> intro h
     | refine go_draw (id := 7) C_ok mixed 1 Try.f18.ntmps rfl (by kernel_rfl) (by decide) ?_
     | refine go_draw (id := 11) C_ok mixed 0 Try.f18.ntmps rfl (by kernel_rfl) (by decide) ?_
     | refine goRound ?_ C_ok Try.f18.ntmps rfl (by decide)
     | skip) <;> simp only [h, ↓upd_eq, ↓envL_cons, Go.Ab.W0, Go.Ab.WD, Go.Ab.WE, if_true, if_false, reduceIte, Nat.reduceEqDiff, Nat.reduceAdd, Nat.reduceLT, Nat.reduceLeDiff, reduceCtorEq, Nat.reduceMul, implies_true, forall_eq_or_imp, forall_eq, Nat.reducePow, W1, W1C, Go.Ab.W3, Int.reduceAdd, Int.reduceLT, Int.reduceToNat, Int.reduceBEq, Int.reduceBNe, Int.reduceLE, e0, h8, List.length_map, cutNormal_normal]
  cases hs : chainT l with
  | false =>
    refine pcalls_text C_ok Try.func18 rfl (by decide) (Nat.le_of_ble_eq_true rfl) (by decide) rfl fun ok H => ?_
    rw [Try.results18]
    have h := True.intro
    repeat' (first
     | (with_reducible first | refine goIf_b ?_ ?_ | refine goIf_n ?_ ?_ | refine goIf_d ?_ ?_ | refine goIf_split ?_ ?_ | refine goGb_b ?_ ?_ | refine goGb_n ?_ ?_ | refine goGb_d ?_ ?_ | refine goGb_split ?_ ?_ | refine goDGb_b ?_ ?_ | refine goDGb_n ?_ ?_ | refine goDGb_d ?_ ?_ | refine goDGb_split ?_ ?_) <;> intro h
     | ((first | refine goCall_norm ?_ | refine goDCall_norm ?_); simp only [AV.norm, AV.normL, W2, W2C, Go.Ab.W3, Int.reduceAdd, Int.reduceLT, Int.reduceToNat, Int.reduceBEq, Int.reduceBNe, Int.reduceLE, e0, h8, hs, List.length_map]; first | refine goCall_p (chain_ok _) (.inl rfl) ?_ | refine goDCall_p (chain_ok _) (.inl rfl) ?_)
     | refine go_draw (id := 7) C_ok mixed 1 Try.f18.ntmps rfl (by kernel_rfl) (by decide) ?_
     | refine go_draw (id := 11) C_ok mixed 0 Try.f18.ntmps rfl (by kernel_rfl) (by decide) ?_
     | refine goRound ?_ C_ok Try.f18.ntmps rfl (by decide)
     | skip) <;> simp only [h, ↓upd_eq, ↓envL_cons, Go.Ab.W0, Go.Ab.WD, Go.Ab.WE, if_true, if_false, reduceIte, Nat.reduceEqDiff, Nat.reduceAdd, Nat.reduceLT, Nat.reduceLeDiff, reduceCtorEq, Nat.reduceMul, implies_true, forall_eq_or_imp, forall_eq, Nat.reducePow, W1, W1C, Go.Ab.W3, Int.reduceAdd, Int.reduceLT, Int.reduceToNat, Int.reduceBEq, Int.reduceBNe, Int.reduceLE, e0, h8, hs, List.length_map, cutNormal_normal]
  | true =>
  have hX : ∀ i, i < l.length → l.getD i default = (tOf (l.getD i default)).ty ∧ (tOf (l.getD i default)).ok = true ∧ (tOf (l.getD i default)).size ≤ 80 := by
    intro i hi
    have hm : l.getD i default ∈ l := by simp [hi]
    obtain ⟨x, e, hx, _, hz⟩ := chain1_iff (chainT_mem hs hm)
    rw [e, tOf_ty]; exact ⟨rfl, hx, hz⟩
  generalize hT : (fun i => tOf (l.getD i default)) = X at hX
  have hX : ∀ i, i < l.length → l.getD i default = (X i).ty ∧ (X i).ok = true ∧ (X i).size ≤ 80 := by rw [← hT]; exact hX
  have g0 : (l.map emb).getD 0 .any = emb (X 0).ty := by rw [mapT_get (by omega), (hX 0 (by omega)).1]
  have h00 : 0 < l.length := by omega
  have hmax : l.length ≤ maxLen := by rw [maxLen_val]; omega
  refine pcalls_text C_ok Try.func18 rfl (by decide) (Nat.le_of_ble_eq_true rfl) (by decide) rfl fun ok H => ?_
  rw [Try.results18]
  have h := True.intro
  repeat' (first
   | (with_reducible first | refine goIf_b ?_ ?_ | refine goIf_n ?_ ?_ | refine goIf_d ?_ ?_ | refine goIf_split ?_ ?_ | refine goGb_b ?_ ?_ | refine goGb_n ?_ ?_ | refine goGb_d ?_ ?_ | refine goGb_split ?_ ?_ | refine goDGb_b ?_ ?_ | refine goDGb_n ?_ ?_ | refine goDGb_d ?_ ?_ | refine goDGb_split ?_ ?_) <;> intro h
   | ((first | refine goCall_norm ?_ | refine goDCall_norm ?_); simp only [AV.norm, AV.normL, W2, W2C, e0, h8, hs, List.length_map]; first | refine goCall_p (chain_ok _) (.inl rfl) ?_ | refine goDCall_p (chain_ok _) (.inl rfl) ?_)
   | refine go_draw (id := 7) C_ok mixed 1 Try.f18.ntmps rfl (by kernel_rfl) (by decide) ?_
   | refine go_draw (id := 11) C_ok mixed 0 Try.f18.ntmps rfl (by kernel_rfl) (by decide) ?_
   | skip) <;> simp only [h, ↓upd_eq, ↓envL_cons, Go.Ab.W0, Go.Ab.WD, Go.Ab.WE, if_true, if_false, reduceIte, Nat.reduceEqDiff, Nat.reduceAdd, Nat.reduceLT, Nat.reduceLeDiff, reduceCtorEq, Nat.reduceMul, implies_true, forall_eq_or_imp, forall_eq, Nat.reducePow, W1, W1C, e0, h8, hs, List.length_map]
  refine aloop_trim [6, 0, 1, 5] ?_
  simp only [List.map_cons, List.map_nil, ↓upd_eq, ↓envL_cons, Go.Ab.W0, Go.Ab.WD, Go.Ab.WE, if_true, if_false, reduceIte, Nat.reduceEqDiff, Nat.reduceAdd, Nat.reduceLT, Nat.reduceLeDiff, reduceCtorEq, Nat.reduceMul, implies_true, forall_eq_or_imp, forall_eq, Nat.reducePow, W1, W1C]
  refine goLoopS 1 (fun x : Nat × K × Tk => [(6, .int .i64 ((x.1 + 1 : Nat) : Int))]) (fun x => [.box [.int .i64 x.2.1.co.kind, .int .i64 x.2.1.co.head, .int .i64 x.2.1.co.label, .bool x.2.1.co.neg, .sl (x.2.1.co.kids.map embC) x.2.2]]) (fun x => x.1 + 1 ≤ l.length ∧ x.2.1.ok = true ∧ fitsK x.2.1 (X 0) (X x.1) = true ∧ x.2.1.size ≤ 320 * x.1 + 1) (fun x => l.length - x.1) C_ok (0, .id, .full) rfl rfl ⟨by simp only; omega, rfl, by simp [fitsK], by simp [K.size]⟩ (by decide) ?_
  rintro ⟨i, k, tk⟩ ⟨hi, hk, hf, hz⟩
  simp only at hi hk hf hz
  simp only [List.drop_succ_cons, List.drop_zero, List.cons_append, List.nil_append]
  simp only [↓upd_eq, ↓envL_cons, Go.Ab.W0, Go.Ab.WD, Go.Ab.WE, if_true, if_false, reduceIte, Nat.reduceEqDiff, Nat.reduceAdd, Nat.reduceLT, Nat.reduceLeDiff, reduceCtorEq, Nat.reduceMul, implies_true, forall_eq_or_imp, forall_eq, Nat.reducePow, W1, W1C]
  have ck := ccheck_ok k.co
  rw [K.right_co, hk, if_pos rfl] at ck
  refine goIf_d (fun hlt => ?_) (fun hlt => ?_)
  · have hlt0 : i < l.length := by omega
    have hlt1 : i + 1 < l.length := by omega
    have z0 : ((0 : Int) < (l.length : Int)) = True := by simp only [eq_iff_iff, iff_true]; omega
    have w1 : IntKind.wrap .i64 (((i + 1 : Nat) : Int) - 1) = (i : Int) := by rw [wrap_i (by omega) (by omega)]; omega
    have w2 : IntKind.wrap .i64 (((i + 1 : Nat) : Int) + 1) = ((i + 1 + 1 : Nat) : Int) := wrap_nat1 (n := i + 1) (by omega)
    have g1 : (l.map emb).getD i .any = emb (X i).ty := by rw [mapT_get (by omega), (hX i (by omega)).1]
    have g2 : (l.map emb).getD (i + 1) .any = emb (X (i + 1)).ty := by rw [mapT_get (by omega), (hX (i + 1) (by omega)).1]
    obtain ⟨_, hx, zx⟩ := hX i hlt0
    obtain ⟨_, hy, zy⟩ := hX (i + 1) hlt1
    obtain ⟨_, h0x, _⟩ := hX 0 h00
    have hl : labelOK ((i + 1 : Nat) : Int) = true := by simp [labelOK]; omega
    have q := tCastC_ok (X i).ty (X (i + 1)).ty ((i + 1 : Nat) : Int) n
    cases hg : agreeT (X i) (X (i + 1)) with
    | false =>
      have e1 : castE (X i).ty (X (i + 1)).ty ((i + 1 : Nat) : Int) = 4 := by rw [castE_co hx hy hl, hg]; rfl
      have e2 : castC (X i).ty (X (i + 1)).ty ((i + 1 : Nat) : Int) n = .mk 0 0 0 false [] := castC_no (by rw [e1]; decide)
      rw [e1, e2] at q
      have h := True.intro
      repeat' (first
       | (with_reducible first | refine goIf_b ?_ ?_ | refine goIf_n ?_ ?_ | refine goIf_d ?_ ?_ | refine goIf_split ?_ ?_ | refine goGb_b ?_ ?_ | refine goGb_n ?_ ?_ | refine goGb_d ?_ ?_ | refine goGb_split ?_ ?_ | refine goDGb_b ?_ ?_ | refine goDGb_n ?_ ?_ | refine goDGb_d ?_ ?_ | refine goDGb_split ?_ ?_) <;> intro h
       | ((first | refine goCall_norm ?_ | refine goDCall_norm ?_); simp only [AV.norm, AV.normL, W2, W2C, Go.Ab.W3, Int.reduceAdd, Int.reduceLT, Int.reduceToNat, Int.reduceBEq, Int.reduceBNe, Int.reduceLE, hlt, hlt0, hlt1, h00, z0, w1, w2, g1, g2, List.length_map]; first | refine goCall_p (q) (.inl rfl) ?_ | refine goCall_p (wakes22_ok) (.inl rfl) ?_ | refine goDCall_p (q) (.inl rfl) ?_ | refine goDCall_p (wakes22_ok) (.inl rfl) ?_)
       | refine go_draw (id := 7) C_ok mixed 1 Try.f18.ntmps rfl (by kernel_rfl) (by decide) ?_
       | refine go_draw (id := 11) C_ok mixed 0 Try.f18.ntmps rfl (by kernel_rfl) (by decide) ?_
       | refine goRound ?_ C_ok Try.f18.ntmps rfl (by decide)
       | skip) <;> simp only [h, ↓upd_eq, ↓envL_cons, Go.Ab.W0, Go.Ab.WD, Go.Ab.WE, if_true, if_false, reduceIte, Nat.reduceEqDiff, Nat.reduceAdd, Nat.reduceLT, Nat.reduceLeDiff, reduceCtorEq, Nat.reduceMul, implies_true, forall_eq_or_imp, forall_eq, Nat.reducePow, W1, W1C, Go.Ab.W3, Int.reduceAdd, Int.reduceLT, Int.reduceToNat, Int.reduceBEq, Int.reduceBNe, Int.reduceLE, hlt, hlt0, hlt1, h00, z0, w1, w2, g1, g2, List.length_map, cutNormal_normal]
    | true =>
      have e1 : castE (X i).ty (X (i + 1)).ty ((i + 1 : Nat) : Int) = 0 := by rw [castE_co hx hy hl, hg]; rfl
      rw [e1, castC_co hx hy hl hg] at q
      have ok := (cast_okk hl (X i) (X (i + 1)) hg n).1
      have ft := (cast_fits (l := ((i + 1 : Nat) : Int)) (X i) (X (i + 1)) hg n).1
      have sz := (cast_s (l := ((i + 1 : Nat) : Int)) (X i) (X (i + 1)) hg n).1
      generalize castT ((i + 1 : Nat) : Int) (X i) (X (i + 1)) n = c at q ok ft sz
      obtain ⟨j, hj, jo, jf⟩ := joinK_fits hk ok hf ft
      have jz := joinK_size hj
      have jh := joinK_height hj
      have q1 := cJoinC_ok k.co c.co
      obtain ⟨g3, g4⟩ := joinE_of hk ok hj jo
      rw [g3, g4] at q1
      have q2 := cFitsC_ok j.co (X 0).ty (X (i + 1)).ty
      rw [fitsC_co jo h0x hy, jf] at q2
      have q3 := cHeight_ok j.co (by rw [K.nodes_co]; omega)
      have q4 := cHeight_ok k.co (by rw [K.nodes_co]; omega)
      have q5 := cHeight_ok c.co (by rw [K.nodes_co]; omega)
      rw [K.right_co, jo, if_pos rfl] at q3
      rw [K.right_co, hk, if_pos rfl] at q4
      rw [K.right_co, ok, if_pos rfl] at q5
      have hle : ((heightC j.co : Int) > ((max (heightC k.co) (heightC c.co) : Nat) : Int)) = False := by
        rw [K.height_co, K.height_co, K.height_co]; simp only [eq_iff_iff, iff_false]; omega
      generalize heightC j.co = a1 at q3 hle
      generalize heightC k.co = a2 at q4 hle
      generalize heightC c.co = a3 at q5 hle
      generalize c.co = cc at q q1 q5
      have h := True.intro
      repeat' (first
       | (with_reducible first | refine goIf_b ?_ ?_ | refine goIf_n ?_ ?_ | refine goIf_d ?_ ?_ | refine goIf_split ?_ ?_ | refine goGb_b ?_ ?_ | refine goGb_n ?_ ?_ | refine goGb_d ?_ ?_ | refine goGb_split ?_ ?_ | refine goDGb_b ?_ ?_ | refine goDGb_n ?_ ?_ | refine goDGb_d ?_ ?_ | refine goDGb_split ?_ ?_) <;> intro h
       | ((first | refine goCall_norm ?_ | refine goDCall_norm ?_); simp only [AV.norm, AV.normL, W2, W2C, Go.Ab.W3, Int.reduceAdd, Int.reduceLT, Int.reduceToNat, Int.reduceBEq, Int.reduceBNe, Int.reduceLE, hlt, hlt0, hlt1, h00, z0, w1, w2, g0, g1, g2, hle, wrap_max, List.length_map]; first | refine goCall_p (q) (.inl rfl) ?_ | refine goCall_p (q1) (.inl rfl) ?_ | refine goCall_p (q2) (.inl rfl) ?_ | refine goCall_p (q3) (.inl rfl) ?_ | refine goCall_p (q4) (.inl rfl) ?_ | refine goCall_p (q5) (.inl rfl) ?_ | refine goDCall_p (q) (.inl rfl) ?_ | refine goDCall_p (q1) (.inl rfl) ?_ | refine goDCall_p (q2) (.inl rfl) ?_ | refine goDCall_p (q3) (.inl rfl) ?_ | refine goDCall_p (q4) (.inl rfl) ?_ | refine goDCall_p (q5) (.inl rfl) ?_)
       | refine go_draw (id := 7) C_ok mixed 1 Try.f18.ntmps rfl (by kernel_rfl) (by decide) ?_
       | refine go_draw (id := 11) C_ok mixed 0 Try.f18.ntmps rfl (by kernel_rfl) (by decide) ?_
       | refine goRound ?_ C_ok Try.f18.ntmps rfl (by decide)
       | skip) <;> simp only [h, ↓upd_eq, ↓envL_cons, Go.Ab.W0, Go.Ab.WD, Go.Ab.WE, if_true, if_false, reduceIte, Nat.reduceEqDiff, Nat.reduceAdd, Nat.reduceLT, Nat.reduceLeDiff, reduceCtorEq, Nat.reduceMul, implies_true, forall_eq_or_imp, forall_eq, Nat.reducePow, W1, W1C, Go.Ab.W3, Int.reduceAdd, Int.reduceLT, Int.reduceToNat, Int.reduceBEq, Int.reduceBNe, Int.reduceLE, hlt, hlt0, hlt1, h00, z0, w1, w2, g0, g1, g2, hle, wrap_max, List.length_map, cutNormal_normal]
      refine ⟨(i + 1, j, .no), ⟨by simp only; omega, jo, jf, by simp only; omega⟩, by simp only; omega, weak_drop rfl rfl rfl rfl ?_ ?_ ?_⟩
      all_goals simp only [List.forall_mem_cons, mem_nil_all, frz_app, ↓upd_eq, ↓envL_cons, Nat.reduceEqDiff, if_true, if_false, reduceIte, true_and, and_true, and_self, true_or, or_true, implies_true, List.not_mem_nil, false_implies, AV.bel, AV.belL, AObj.bel, AV.norm, AV.normL, Bool.and_true, Bool.true_and, decide_true, decide_eq_true_eq, List.length_cons, List.length_nil, Nat.zero_add, Nat.reduceAdd, Nat.lt_add_one, Nat.lt_add_right_iff_pos, Nat.zero_lt_succ, Nat.zero_lt_one, Nat.reduceLT, List.take_succ_cons, List.take_zero, w2, mapC_bel, map_bel, AV.belL, List.length_map]
  · have h := True.intro
    repeat' (first
     | (with_reducible first | refine goIf_b ?_ ?_ | refine goIf_n ?_ ?_ | refine goIf_d ?_ ?_ | refine goIf_split ?_ ?_ | refine goGb_b ?_ ?_ | refine goGb_n ?_ ?_ | refine goGb_d ?_ ?_ | refine goGb_split ?_ ?_ | refine goDGb_b ?_ ?_ | refine goDGb_n ?_ ?_ | refine goDGb_d ?_ ?_ | refine goDGb_split ?_ ?_) <;> intro h
     | ((first | refine goCall_norm ?_ | refine goDCall_norm ?_); simp only [AV.norm, AV.normL, W2, W2C, Go.Ab.W3, Int.reduceAdd, Int.reduceLT, Int.reduceToNat, Int.reduceBEq, Int.reduceBNe, Int.reduceLE, hlt]; first | refine goCall_p (ck) (.inl rfl) ?_ | refine goCall_p (wakes22_ok) (.inl rfl) ?_ | refine goDCall_p (ck) (.inl rfl) ?_ | refine goDCall_p (wakes22_ok) (.inl rfl) ?_)
     | refine go_draw (id := 7) C_ok mixed 1 Try.f18.ntmps rfl (by kernel_rfl) (by decide) ?_
     | refine go_draw (id := 11) C_ok mixed 0 Try.f18.ntmps rfl (by kernel_rfl) (by decide) ?_
     | refine goRound ?_ C_ok Try.f18.ntmps rfl (by decide)
     | skip) <;> simp only [h, ↓upd_eq, ↓envL_cons, Go.Ab.W0, Go.Ab.WD, Go.Ab.WE, if_true, if_false, reduceIte, Nat.reduceEqDiff, Nat.reduceAdd, Nat.reduceLT, Nat.reduceLeDiff, reduceCtorEq, Nat.reduceMul, implies_true, forall_eq_or_imp, forall_eq, Nat.reducePow, W1, W1C, Go.Ab.W3, Int.reduceAdd, Int.reduceLT, Int.reduceToNat, Int.reduceBEq, Int.reduceBNe, Int.reduceLE, hlt, cutNormal_normal]

end Go.Proofs.Ytajdipeebpmifaa
