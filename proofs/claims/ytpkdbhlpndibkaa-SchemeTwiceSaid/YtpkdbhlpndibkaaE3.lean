/- Walks: variables numbered anew. No condition. -/
import Derived.Test.YtpkdbhlpndibkaaE2
set_option linter.unusedSimpArgs false
set_option linter.unusedVariables false
set_option maxHeartbeats 4000000
set_option maxRecDepth 100000
namespace Go.Proofs.Ytpkdbhlpndibkaa
open Go Go.Ab
attribute [local irreducible] PCalls ACalls CallK GoCall GoDCall GoIf GoGb GoDGb GoO GoD GoX GoDX GoG GoDG GoGv GoDGv Go ALoop

def numG (vs : List Int) (i : Nat) : Bd := (vs.getD i 0, .mk 6 i [])
def numB (vs : List Int) : List Bd := (List.range vs.length).map (numG vs)
theorem numB_ok {vs : List Int} (h : ∀ n ∈ vs, 0 ≤ n ∧ n ≤ 1048576) (hl : vs.length ≤ 1048577) : okBs (numB vs) = true := by
  refine List.all_eq_true.2 fun p hp => ?_
  obtain ⟨i, hi, rfl⟩ := List.mem_map.1 hp
  rw [List.mem_range] at hi
  have h1 := h (vs.getD i 0) (by simp [hi])
  have h2 : right (.mk 6 i []) = true := by
    have : (T.var (i : Int)).ok = true := by simp [T.ok]; omega
    rw [← T.right_ty] at this; exact this
  simp only [okBd, numG, h2, Bool.and_true, Bool.and_eq_true]; exact ⟨decide_eq_true h1.1, decide_eq_true h1.2⟩
theorem lookB_num : ∀ (vs : List Int) (n : Int), n ∈ vs → lookB (numB vs) n = some (.mk 6 (idxI vs n) []) := by
  have key : ∀ (vs ws : List Int) (k : Nat) (n : Int), (∀ i, i < vs.length → ws.getD (k + i) 0 = vs.getD i 0) → n ∈ vs → lookB ((List.range' k vs.length).map (numG ws)) n = some (.mk 6 ((k : Int) + idxI vs n) []) := by
    intro vs
    induction vs with
    | nil => intro ws k n _ h; cases h
    | cons v vs ih =>
      intro ws k n hw hn
      have h0 := hw 0 (by simp)
      simp only [Nat.add_zero, List.getD_cons_zero] at h0
      simp only [List.length_cons, List.range'_succ, List.map_cons, lookB, numG]
      rw [h0]
      by_cases e : v = n
      · subst e; simp [idxI]
      · rw [if_neg e]
        have hn' : n ∈ vs := by rcases List.mem_cons.1 hn with h | h; exact absurd h.symm e; exact h
        have := ih ws (k + 1) n (fun i hi => by have := hw (i + 1) (by simpa using hi); rw [show k + 1 + i = k + (i + 1) by omega, this]; simp) hn'
        rw [this]
        have e2 : (v :: vs).idxOf n = vs.idxOf n + 1 := by rw [List.idxOf_cons, beq_eq_false_iff_ne.2 e, cond_false]
        unfold idxI
        rw [e2]
        congr 2
        omega
  intro vs n hn
  have := key vs vs 0 n (fun i _ => by rw [Nat.zero_add]) hn
  rw [numB, List.range_eq_range', this]
  simp
theorem sig_num {x : T} : putS (sigB (numB (x.varsF []))) x = canonT x := by
  refine put_congr x fun n hn => ?_
  rw [sigB, lookB_num _ n (mem_vars0.2 hn)]
  exact tOf_ty (.var (idxI (x.varsF []) n))
theorem varsT_T (x : T) : varsT x.ty = x.varsF [] := by rw [varsT, T.varsF_ty]
theorem has_ok : ∀ {x : T}, x.ok = true → ∀ n, x.has n = true → 0 ≤ n ∧ n ≤ 1048576 := by
  intro x
  induction x with
  | base k => intro _ n h; simp [T.has] at h
  | dyn => intro _ n h; simp [T.has] at h
  | var m => intro h n hn; simp only [T.has, decide_eq_true_eq] at hn; subst hn; simpa [T.ok] using h
  | pair a b ih1 ih2 => intro h n hn; simp only [T.ok, Bool.and_eq_true] at h; simp only [T.has, Bool.or_eq_true] at hn; exact hn.elim (ih1 h.1 n) (ih2 h.2 n)
  | fn a b ih1 ih2 => intro h n hn; simp only [T.ok, Bool.and_eq_true] at h; simp only [T.has, Bool.or_eq_true] at hn; exact hn.elim (ih1 h.1 n) (ih2 h.2 n)
  | list a ih1 => intro h n hn; simp only [T.ok] at h; simp only [T.has] at hn; exact ih1 h n hn
theorem subst_num {x : T} (hx : x.ok = true) (hs : nodes x.ty ≤ 1048576) : PCalls Try.prog 13 [emb x.ty, .sl ((numB (x.varsF [])).map embB) .no] (.tup [emb (canonT x).ty, .int .i64 0]) := by
  have hl := varsT_len x.ty
  rw [varsT_T] at hl
  have hok := numB_ok (vs := x.varsF []) (fun n hn => has_ok hx n (mem_vars0.1 hn)) (by omega)
  have := subst_ok x.ty (numB (x.varsF []))
  rw [substR, if_pos ⟨by rw [T.right_ty]; exact hx, hok⟩, tOf_ty, sig_num] at this
  exact this
/-- A new bind, its empty row still as it was made. -/
def numV (vs : List Int) (i : Nat) : AV := .agg [.int .i64 (vs.getD i 0), .int .i64 6, .int .i64 i, .sl [] .full]
theorem numV_norm (vs : List Int) : ∀ l : List Nat, AV.normL (l.map (numV vs)) = (l.map (numG vs)).map embB
  | [] => rfl
  | i :: l => by simp only [List.map_cons, AV.normL, numV_norm vs l]; rfl
theorem numV_bel (vs : List Int) (m : Nat) : ∀ l : List Nat, AV.belL m (l.map (numV vs)) = true
  | [] => rfl
  | i :: l => by simp only [List.map_cons, AV.belL, numV_bel vs m l, Bool.and_true]; rfl
theorem numV_cells (vs : List Int) (l : List Nat) : (∀ y, y ∈ l.map (numV vs) → (cellsOf y).length = 4) = True := by
  simp only [eq_iff_iff, iff_true]; intro y hy; obtain ⟨i, _, rfl⟩ := List.mem_map.1 hy; rfl
noncomputable def canonR (t : Ty) : AV := if right t = true then .tup [emb (canonT (tOf t)).ty, .int .i64 0] else .tup [emb (.mk 0 0 []), .int .i64 1]
theorem canonR_bel (t : Ty) : (canonR t).bel 0 = true := by
  unfold canonR
  split <;> simp [AV.bel, AV.belL, emb_bel]
theorem canon_ok (t : Ty) (hs : nodes t ≤ 1048576) : PCalls Try.prog 14 [emb t] (canonR t) := by
  have qc := check_ok t
  by_cases hr : right t = true
  · rw [if_pos hr] at qc
    have hv := kVars_ok t hs
    have hvl := varsT_len t
    have hbel := canonR_bel t
    have hR : canonR t = .tup [emb (canonT (tOf t)).ty, .int .i64 0] := by rw [canonR, if_pos hr]
    obtain ⟨x, rfl⟩ := T.of_right t hr
    have hsub := subst_num (by rw [← T.right_ty]; exact hr) hs
    rw [← varsT_T] at hsub
    rw [tOf_ty] at hR
    rw [hR] at hbel ⊢
    generalize (canonT x).ty = X at *
    generalize varsT x.ty = vs at *
    have hroom : ∀ i, i < vs.length → ((i + 1) * 48 ≤ 140737488355328) = True := fun i h => by simp only [eq_iff_iff, iff_true]; omega
    have hroom2 : ∀ i, i < vs.length → (i + 1 ≤ 9223372036854775807) = True := fun i h => by simp only [eq_iff_iff, iff_true]; omega
    have hmax : vs.length ≤ maxLen := by rw [maxLen_val]; omega
    refine pcalls_text C_ok Try.func14 rfl (by decide) (Nat.le_of_ble_eq_true rfl) (by decide) hbel fun ok H => ?_
    rw [Try.results14]
    have h := True.intro
    repeat' (first
     | (with_reducible first | refine goIf_b ?_ ?_ | refine goIf_n ?_ ?_ | refine goIf_d ?_ ?_ | refine goIf_split ?_ ?_ | refine goGb_b ?_ ?_ | refine goGb_n ?_ ?_ | refine goGb_d ?_ ?_ | refine goGb_split ?_ ?_ | refine goDGb_b ?_ ?_ | refine goDGb_n ?_ ?_ | refine goDGb_d ?_ ?_ | refine goDGb_split ?_ ?_) <;> intro h
     | ((first | refine goCall_norm ?_ | refine goDCall_norm ?_); simp only [AV.norm, AV.normL, W2, W2B, i64_eq, bne_self_eq_false]; first | refine goCall_p (qc) (.inl rfl) ?_ | refine goCall_p (hv) (.inl rfl) ?_ | refine goDCall_p (qc) (.inl rfl) ?_ | refine goDCall_p (hv) (.inl rfl) ?_)
     | skip) <;> simp only [h, ↓upd_eq, ↓envL_cons, Go.Ab.W0, Go.Ab.WD, Go.Ab.WE, if_true, if_false, reduceIte, Nat.reduceEqDiff, Nat.reduceAdd, Nat.reduceLT, Nat.reduceLeDiff, reduceCtorEq, Nat.reduceMul, implies_true, forall_eq_or_imp, forall_eq, Nat.reducePow, W1, W1B, i64_eq, bne_self_eq_false]
    refine aloop_trim [4, 14, 1, 2, 12, 13] ?_
    simp only [List.map_cons, List.map_nil, ↓upd_eq, ↓envL_cons, Go.Ab.W0, Go.Ab.WD, Go.Ab.WE, if_true, if_false, reduceIte, Nat.reduceEqDiff, Nat.reduceAdd, Nat.reduceLT, Nat.reduceLeDiff, reduceCtorEq, Nat.reduceMul, implies_true, forall_eq_or_imp, forall_eq, Nat.reducePow, W1, W1B]
    refine goLoopP 2 2 (fun i : Nat => [(4, match i with
      | 0 => .sl [] .full
      | i + 1 => .sl ((List.range (i + 1)).map (numV vs)) (.own (H.length + 2))), (14, .int .i64 i)]) (fun i => match i with
      | 0 => []
      | i + 1 => [.tok (i + 1) 4]) (fun i => i ≤ vs.length) (fun i => vs.length - i) C_ok 0 rfl rfl (Nat.zero_le _) (by decide) ?_
    rintro (_ | i) hi
    · simp only [List.drop_succ_cons, List.drop_zero, List.cons_append, List.nil_append, List.take_succ_cons, List.take_zero]
      simp only [↓upd_eq, ↓envL_cons, Go.Ab.W0, Go.Ab.WD, Go.Ab.WE, if_true, if_false, reduceIte, Nat.reduceEqDiff, Nat.reduceAdd, Nat.reduceLT, Nat.reduceLeDiff, reduceCtorEq, Nat.reduceMul, implies_true, forall_eq_or_imp, forall_eq, Nat.reducePow, W1, W1B]
      refine goIf_d (fun hlt => ?_) (fun hlt => ?_)
      · have h := True.intro
        repeat' (first
         | (with_reducible first | refine goIf_b ?_ ?_ | refine goIf_n ?_ ?_ | refine goIf_d ?_ ?_ | refine goIf_split ?_ ?_ | refine goGb_b ?_ ?_ | refine goGb_n ?_ ?_ | refine goGb_d ?_ ?_ | refine goGb_split ?_ ?_ | refine goDGb_b ?_ ?_ | refine goDGb_n ?_ ?_ | refine goDGb_d ?_ ?_ | refine goDGb_split ?_ ?_) <;> intro h
         | skip) <;> simp only [h, ↓upd_eq, ↓envL_cons, Go.Ab.W0, Go.Ab.WD, Go.Ab.WE, if_true, if_false, reduceIte, Nat.reduceEqDiff, Nat.reduceAdd, Nat.reduceLT, Nat.reduceLeDiff, reduceCtorEq, Nat.reduceMul, implies_true, forall_eq_or_imp, forall_eq, Nat.reducePow, W1, W1B, hlt, map_int_get hlt, i64_eq, hroom 0 hlt, hroom2 0 hlt, List.length_map, numV_cells]
        refine ⟨0 + 1, hlt, by omega, weak_drop rfl rfl rfl ?_ ?_ ?_ ?_⟩ <;> (try simp only [List.forall_mem_cons, mem_nil_all, frz_app, ↓upd_eq, ↓envL_cons, Nat.reduceEqDiff, if_true, if_false, reduceIte, true_and, and_true, and_self, true_or, or_true, implies_true, List.not_mem_nil, false_implies, AV.bel, AV.belL, AObj.bel, AV.norm, AV.normL, Bool.and_true, Bool.true_and, decide_true, decide_eq_true_eq, List.length_cons, List.length_nil, Nat.zero_add, Nat.reduceAdd, Nat.lt_add_one, Nat.lt_add_right_iff_pos, Nat.zero_lt_succ, Nat.zero_lt_one, Nat.reduceLT, List.take_succ_cons, List.take_zero, wrap_succ hlt hmax, map_bel, numV_bel, ints_bel, AV.belL, List.length_map]) <;> (try simp [List.range_succ, numV, emb_cells]) <;> (try omega) <;> (try rfl)
      · have h0 : vs.length = 0 := by omega
        simp only [numB, h0, List.range_zero, List.map_nil] at hsub
        have h := True.intro
        repeat' (first
         | (with_reducible first | refine goIf_b ?_ ?_ | refine goIf_n ?_ ?_ | refine goIf_d ?_ ?_ | refine goIf_split ?_ ?_ | refine goGb_b ?_ ?_ | refine goGb_n ?_ ?_ | refine goGb_d ?_ ?_ | refine goGb_split ?_ ?_ | refine goDGb_b ?_ ?_ | refine goDGb_n ?_ ?_ | refine goDGb_d ?_ ?_ | refine goDGb_split ?_ ?_) <;> intro h
         | ((first | refine goCall_norm ?_ | refine goDCall_norm ?_); simp only [AV.norm, AV.normL, W2, W2B, List.length_map, numV_norm]; first | refine goCall_p (hsub) (.inl rfl) ?_ | refine goDCall_p (hsub) (.inl rfl) ?_)
         | skip) <;> simp only [h, ↓upd_eq, ↓envL_cons, Go.Ab.W0, Go.Ab.WD, Go.Ab.WE, if_true, if_false, reduceIte, Nat.reduceEqDiff, Nat.reduceAdd, Nat.reduceLT, Nat.reduceLeDiff, reduceCtorEq, Nat.reduceMul, implies_true, forall_eq_or_imp, forall_eq, Nat.reducePow, W1, W1B, List.length_map, numV_norm]
    · simp only [List.drop_succ_cons, List.drop_zero, List.cons_append, List.nil_append, List.take_succ_cons, List.take_zero]
      simp only [↓upd_eq, ↓envL_cons, Go.Ab.W0, Go.Ab.WD, Go.Ab.WE, if_true, if_false, reduceIte, Nat.reduceEqDiff, Nat.reduceAdd, Nat.reduceLT, Nat.reduceLeDiff, reduceCtorEq, Nat.reduceMul, implies_true, forall_eq_or_imp, forall_eq, Nat.reducePow, W1, W1B]
      refine goIf_d (fun hlt => ?_) (fun hlt => ?_)
      · have h := True.intro
        repeat' (first
         | (with_reducible first | refine goIf_b ?_ ?_ | refine goIf_n ?_ ?_ | refine goIf_d ?_ ?_ | refine goIf_split ?_ ?_ | refine goGb_b ?_ ?_ | refine goGb_n ?_ ?_ | refine goGb_d ?_ ?_ | refine goGb_split ?_ ?_ | refine goDGb_b ?_ ?_ | refine goDGb_n ?_ ?_ | refine goDGb_d ?_ ?_ | refine goDGb_split ?_ ?_) <;> intro h
         | skip) <;> simp only [h, ↓upd_eq, ↓envL_cons, Go.Ab.W0, Go.Ab.WD, Go.Ab.WE, if_true, if_false, reduceIte, Nat.reduceEqDiff, Nat.reduceAdd, Nat.reduceLT, Nat.reduceLeDiff, reduceCtorEq, Nat.reduceMul, implies_true, forall_eq_or_imp, forall_eq, Nat.reducePow, W1, W1B, hlt, map_int_get hlt, i64_eq, hroom (i + 1) hlt, hroom2 (i + 1) hlt, List.length_map, List.length_range, numV_cells]
        refine ⟨i + 1 + 1, hlt, by omega, weak_drop rfl rfl rfl ?_ ?_ ?_ ?_⟩ <;> (try simp only [List.forall_mem_cons, mem_nil_all, frz_app, ↓upd_eq, ↓envL_cons, Nat.reduceEqDiff, if_true, if_false, reduceIte, true_and, and_true, and_self, true_or, or_true, implies_true, List.not_mem_nil, false_implies, AV.bel, AV.belL, AObj.bel, AV.norm, AV.normL, Bool.and_true, Bool.true_and, decide_true, decide_eq_true_eq, List.length_cons, List.length_nil, Nat.zero_add, Nat.reduceAdd, Nat.lt_add_one, Nat.lt_add_right_iff_pos, Nat.zero_lt_succ, Nat.zero_lt_one, Nat.reduceLT, List.take_succ_cons, List.take_zero, wrap_succ hlt hmax, map_bel, numV_bel, ints_bel, AV.belL, List.length_map]) <;> (try simp [List.range_succ, numV, emb_cells]) <;> (try omega) <;> (try rfl)
      · have h0 : i + 1 = vs.length := by omega
        rw [numB, ← h0] at hsub
        have h := True.intro
        repeat' (first
         | (with_reducible first | refine goIf_b ?_ ?_ | refine goIf_n ?_ ?_ | refine goIf_d ?_ ?_ | refine goIf_split ?_ ?_ | refine goGb_b ?_ ?_ | refine goGb_n ?_ ?_ | refine goGb_d ?_ ?_ | refine goGb_split ?_ ?_ | refine goDGb_b ?_ ?_ | refine goDGb_n ?_ ?_ | refine goDGb_d ?_ ?_ | refine goDGb_split ?_ ?_) <;> intro h
         | ((first | refine goCall_norm ?_ | refine goDCall_norm ?_); simp only [AV.norm, AV.normL, W2, W2B, List.length_map, numV_norm]; first | refine goCall_p (hsub) (.inl rfl) ?_ | refine goDCall_p (hsub) (.inl rfl) ?_)
         | skip) <;> simp only [h, ↓upd_eq, ↓envL_cons, Go.Ab.W0, Go.Ab.WD, Go.Ab.WE, if_true, if_false, reduceIte, Nat.reduceEqDiff, Nat.reduceAdd, Nat.reduceLT, Nat.reduceLeDiff, reduceCtorEq, Nat.reduceMul, implies_true, forall_eq_or_imp, forall_eq, Nat.reducePow, W1, W1B, List.length_map, numV_norm]
  · rw [if_neg hr] at qc
    have e : canonR t = .tup [emb (.mk 0 0 []), .int .i64 1] := by rw [canonR, if_neg hr]
    have hbel := canonR_bel t
    rw [e] at hbel ⊢
    have hb : ((1 : Int) != 0) = true := by decide
    refine pcalls_text C_ok Try.func14 rfl (by decide) (Nat.le_of_ble_eq_true rfl) (by decide) hbel fun ok H => ?_
    rw [Try.results14]
    have h := True.intro
    repeat' (first
     | (with_reducible first | refine goIf_b ?_ ?_ | refine goIf_n ?_ ?_ | refine goIf_d ?_ ?_ | refine goIf_split ?_ ?_ | refine goGb_b ?_ ?_ | refine goGb_n ?_ ?_ | refine goGb_d ?_ ?_ | refine goGb_split ?_ ?_ | refine goDGb_b ?_ ?_ | refine goDGb_n ?_ ?_ | refine goDGb_d ?_ ?_ | refine goDGb_split ?_ ?_) <;> intro h
     | ((first | refine goCall_norm ?_ | refine goDCall_norm ?_); simp only [AV.norm, AV.normL, W2, W2B, hb]; first | refine goCall_p (qc) (.inl rfl) ?_ | refine goDCall_p (qc) (.inl rfl) ?_)
     | skip) <;> simp only [h, ↓upd_eq, ↓envL_cons, Go.Ab.W0, Go.Ab.WD, Go.Ab.WE, if_true, if_false, reduceIte, Nat.reduceEqDiff, Nat.reduceAdd, Nat.reduceLT, Nat.reduceLeDiff, reduceCtorEq, Nat.reduceMul, implies_true, forall_eq_or_imp, forall_eq, Nat.reducePow, W1, W1B, hb]

end Go.Proofs.Ytpkdbhlpndibkaa
