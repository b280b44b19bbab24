/- Binds: static types for all variables of a type. No condition. -/
import Derived.Test.YtdngjamjccjlmaaPPa
import Derived.Test.YtdngjamjccjlmaaPHa
set_option linter.unusedSimpArgs false
set_option linter.unusedVariables false
set_option maxHeartbeats 4000000
set_option maxRecDepth 100000
namespace Go.Proofs.Ytdngjamjccjlmaa
open Go Go.Ab
open Nat renaming reduceEqDiff → yA, reduceAdd → yB, reduceLT → yC, reduceLeDiff → yD, reduceMul → yE, reducePow → yF, reduceBEq → yG
open Int renaming reduceAdd → yH, reduceLT → yI, reduceToNat → yJ, reduceBEq → yK, reduceBNe → yL, reduceLE → yM
attribute [local irreducible] PCalls ACalls CallK GoCall GoDCall GoIf GoGb GoDGb GoO GoD GoX GoDX GoG GoDG GoGv GoDGv Go ALoop

noncomputable def statG (vs : List Int) (l : List Ty) (c : Bool) (i : Nat) : Bd := (vs.getD i 0, if l.length = 0 then leafT 1 else (plainS c (tOf (l.getD (i % l.length) default))).ty)
noncomputable def statB (vs : List Int) (l : List Ty) (c : Bool) : List Bd := (List.range vs.length).map (statG vs l c)
theorem statG_right {vs : List Int} {l : List Ty} {c : Bool} (hl : ∀ x ∈ l, right x = true) (i : Nat) : right (statG vs l c i).2 = true := by
  simp only [statG]
  split
  · rfl
  · rename_i h
    have hm : l.getD (i % l.length) default ∈ l := by
      have : i % l.length < l.length := Nat.mod_lt _ (by omega)
      simp [this]
    obtain ⟨x, e, hx⟩ := T.of_right' (hl _ hm)
    rw [e, tOf_ty, T.right_ty]; exact plainS_ok c x hx
theorem lookB_mem : ∀ (l : List Bd) (n : Int) (t : Ty), lookB l n = some t → ∃ p ∈ l, p.1 = n ∧ p.2 = t
  | p :: l, n, t, h => by
    rw [lookB] at h
    split at h
    · rename_i e; cases h; exact ⟨p, List.mem_cons_self, e, rfl⟩
    · obtain ⟨q, hq, h2⟩ := lookB_mem l n t h; exact ⟨q, List.mem_cons_of_mem _ hq, h2⟩
theorem statB_right {vs : List Int} {l : List Ty} {c : Bool} (hl : ∀ x ∈ l, right x = true) (n : Int) (t : Ty) (h : lookB (statB vs l c) n = some t) : right t = true := by
  obtain ⟨p, hp, _, rfl⟩ := lookB_mem _ _ _ h
  obtain ⟨i, _, rfl⟩ := List.mem_map.1 hp
  exact statG_right hl i
theorem statB_ok (t : Ty) (l : List Ty) (c : Bool) (ht : nodes t ≤ 1048576) (hl : l.length ≤ 1000000) (hr : ∀ x ∈ l, right x = true) : PCalls Try.prog 121 [emb t, .sl (l.map emb) .no, .bool c] (.sl ((statB (varsT t) l c).map embB) .no) := by
  have hv := rVars_ok t ht
  have hvl := varsT_len t
  generalize varsT t = vs at *
  have hroom : ∀ i, i < vs.length → ((i + 1) * 48 ≤ 140737488355328) = True := fun i h => by simp only [eq_iff_iff, iff_true]; omega
  have hroom2 : ∀ i, i < vs.length → (i + 1 ≤ 9223372036854775807) = True := fun i h => by simp only [eq_iff_iff, iff_true]; omega
  have hmax : vs.length ≤ maxLen := by rw [maxLen_val]; omega
  by_cases h0 : l.length = 0
  · have hl0 : ((l.length : Int) > 0) = False := by simp only [eq_iff_iff, iff_false]; omega
    have hg : ∀ i, (statG vs l c i).2 = leafT 1 := fun i => by rw [statG]; simp only [h0, if_true]
    have hlf : ∀ i, PCalls Try.prog 87 [.int .i64 1] (emb (statG vs l c i).2) := fun i => by rw [hg]; exact leaf_ok 1
    have hend : ∀ m, ¬ m < vs.length → m ≤ vs.length → ((List.range m).map (statG vs l c)).map embB = (statB vs l c).map embB := fun m h1 h2 => by rw [show m = vs.length by omega]; rfl
    refine pcalls_text C_ok Try.func121 rfl (by decide) (Nat.le_of_ble_eq_true rfl) (by decide) (by simp only [AV.bel, mapB_bel, Bool.and_self]) fun ok H => ?_
    rw [Try.results121]
    have h := True.intro
    repeat' (first
     | (with_reducible first | apply bA | apply bB | apply bC | apply bD | apply bE | apply bF) <;> intro h
     | ((first | apply bG | apply bH); simp only [AV.norm, AV.normL, W2, W2B, i64_eq]; first | refine goCall_p (hv) (.inl rfl) ?_ | refine goDCall_p (hv) (.inl rfl) ?_)
     | refine go_draw (id := 9) C_ok (fun _ => trivial) mixed 0 Try.f121.ntmps rfl (by kernel_rfl) (by decide) ?_
     | skip) <;> simp only [h, ↓upd_eq, ↓envL_cons, WZ, reduceIte, yA, yB, yC, yD, reduceCtorEq, yE, yF, W1, W1B, i64_eq]
    refine aloop_trim [7, 9, 1, 2, 8] ?_
    simp only [List.map_cons, List.map_nil, ↓upd_eq, ↓envL_cons, WZ, reduceIte, yA, yB, yC, yD, reduceCtorEq, yE, yF, W1, W1B]
    refine goLoopP 2 1 (fun i : Nat => [(7, match i with
      | 0 => .sl [] .full
      | i + 1 => .sl (((List.range (i + 1)).map (statG vs l c)).map embB) (.own (H.length + 2))), (9, .int .i64 i)]) (fun i => match i with
      | 0 => []
      | i + 1 => [.box [.int .i64 (statG vs l c 0).2.kind, .int .i64 (statG vs l c 0).2.num, .sl ((statG vs l c 0).2.kids.map emb) .no], .tok (i + 1) 4]) (fun i => i ≤ vs.length) (fun i => vs.length - i) C_ok 0 rfl rfl (Nat.zero_le _) (by decide) ?_
    rintro (_ | i) hi
    · simp only [List.drop_succ_cons, List.drop_zero, List.cons_append, List.nil_append, List.take_succ_cons, List.take_zero]
      simp only [↓upd_eq, ↓envL_cons, WZ, reduceIte, yA, yB, yC, yD, reduceCtorEq, yE, yF, W1, W1B]
      refine goIf_d (fun hlt => ?_) (fun hlt => ?_)
      · have h := True.intro
        repeat' (first
         | (with_reducible first | apply bA | apply bB | apply bC | apply bD | apply bE | apply bF) <;> intro h
         | ((first | apply bG | apply bH); simp only [AV.norm, AV.normL, W2, W2B, hlt, map_int_get hlt, i64_eq, hl0, if_false, hroom 0 hlt, hroom2 0 hlt, List.length_map]; first | refine goCall_p (hlf 0) (.inl rfl) ?_ | refine goDCall_p (hlf 0) (.inl rfl) ?_)
         | refine go_draw (id := 9) C_ok (fun _ => trivial) mixed 0 Try.f121.ntmps rfl (by kernel_rfl) (by decide) ?_
         | skip) <;> simp only [h, ↓upd_eq, ↓envL_cons, WZ, reduceIte, yA, yB, yC, yD, reduceCtorEq, yE, yF, W1, W1B, hlt, map_int_get hlt, i64_eq, hl0, if_false, hroom 0 hlt, hroom2 0 hlt, List.length_map]
        refine ⟨0 + 1, hlt, by omega, weak_drop rfl rfl rfl ?_ ?_ ?_ ?_⟩ <;> (try simp only [WK, ↓upd_eq, ↓envL_cons, yA, reduceIte, AV.bel, AV.belL, AObj.bel, AV.norm, AV.normL, yB, yC, wrap_succ hlt hmax, map_bel, mapB_bel, ints_bel, mapB_norm, AV.belL, List.length_map]) <;> (try simp [List.range_succ, emb_cells]) <;> (try omega) <;> (try rfl)
      · simp only [↓upd_eq, ↓envL_cons, WZ, reduceIte, yA, yB, yC, yD, reduceCtorEq, yE, yF, W1, W1B]
        exact hend 0 hlt hi
    · simp only [List.drop_succ_cons, List.drop_zero, List.cons_append, List.nil_append, List.take_succ_cons, List.take_zero]
      simp only [↓upd_eq, ↓envL_cons, WZ, reduceIte, yA, yB, yC, yD, reduceCtorEq, yE, yF, W1, W1B]
      refine goIf_d (fun hlt => ?_) (fun hlt => ?_)
      · have h := True.intro
        repeat' (first
         | (with_reducible first | apply bA | apply bB | apply bC | apply bD | apply bE | apply bF) <;> intro h
         | ((first | apply bG | apply bH); simp only [AV.norm, AV.normL, W2, W2B, hlt, map_int_get hlt, i64_eq, hl0, if_false, hroom (i + 1) hlt, hroom2 (i + 1) hlt, List.length_map]; first | refine goCall_p (hlf (i + 1)) (.inl rfl) ?_ | refine goDCall_p (hlf (i + 1)) (.inl rfl) ?_)
         | refine go_draw (id := 9) C_ok (fun _ => trivial) mixed 0 Try.f121.ntmps rfl (by kernel_rfl) (by decide) ?_
         | skip) <;> simp only [h, ↓upd_eq, ↓envL_cons, WZ, reduceIte, yA, yB, yC, yD, reduceCtorEq, yE, yF, W1, W1B, hlt, map_int_get hlt, i64_eq, hl0, if_false, hroom (i + 1) hlt, hroom2 (i + 1) hlt, List.length_map]
        refine ⟨i + 1 + 1, hlt, by omega, weak_drop rfl rfl rfl ?_ ?_ ?_ ?_⟩ <;> (try simp only [WK, ↓upd_eq, ↓envL_cons, yA, reduceIte, AV.bel, AV.belL, AObj.bel, AV.norm, AV.normL, yB, yC, wrap_succ hlt hmax, map_bel, mapB_bel, ints_bel, mapB_norm, AV.belL, List.length_map]) <;> (try simp [List.range_succ, emb_cells]) <;> (try omega) <;> (try rfl)
      · simp only [↓upd_eq, ↓envL_cons, WZ, reduceIte, yA, yB, yC, yD, reduceCtorEq, yE, yF, W1, W1B]
        exact hend (i + 1) hlt hi
  · have hl0 : ((l.length : Int) > 0) = True := by simp only [eq_iff_iff, iff_true]; omega
    have hnz : ((l.length : Int) ≠ 0) = True := by simp only [eq_iff_iff, iff_true]; omega
    have hwm : ∀ i, i < vs.length → (i : Int).tmod (l.length : Int) = ((i % l.length : Nat) : Int) := fun i h => by
      rw [Int.tmod_eq_emod_of_nonneg (by omega), ← Int.natCast_emod]
    have hgen : ∀ i, i < vs.length → (l.map emb).getD (i % l.length) .any = emb (tOf (l.getD (i % l.length) default)).ty := fun i h => by
      have h1 := Nat.mod_lt i (show l.length > 0 by omega)
      have hm : l.getD (i % l.length) default ∈ l := by simp [h1]
      obtain ⟨x, e, hx⟩ := T.of_right' (hr _ hm)
      rw [mapT_get h1, e, tOf_ty]
    have hge : ∀ i, i < vs.length → (i % l.length < l.length) = True := fun i h => by simp only [eq_iff_iff, iff_true]; exact Nat.mod_lt i (show l.length > 0 by omega)
    have hpl : ∀ i, i < vs.length → PCalls Try.prog 147 [emb (tOf (l.getD (i % l.length) default)).ty, .bool c] (emb (statG vs l c i).2) := fun i h => by
      have := plain_ok c (tOf (l.getD (i % l.length) default))
      rw [statG]; simp only [h0, if_false]; exact this
    have hend : ∀ m, ¬ m < vs.length → m ≤ vs.length → ((List.range m).map (statG vs l c)).map embB = (statB vs l c).map embB := fun m h1 h2 => by rw [show m = vs.length by omega]; rfl
    refine pcalls_text C_ok Try.func121 rfl (by decide) (Nat.le_of_ble_eq_true rfl) (by decide) (by simp only [AV.bel, mapB_bel, Bool.and_self]) fun ok H => ?_
    rw [Try.results121]
    have h := True.intro
    repeat' (first
     | (with_reducible first | apply bA | apply bB | apply bC | apply bD | apply bE | apply bF) <;> intro h
     | ((first | apply bG | apply bH); simp only [AV.norm, AV.normL, W2, W2B, i64_eq]; first | refine goCall_p (hv) (.inl rfl) ?_ | refine goDCall_p (hv) (.inl rfl) ?_)
     | refine go_draw (id := 9) C_ok (fun _ => trivial) mixed 0 Try.f121.ntmps rfl (by kernel_rfl) (by decide) ?_
     | skip) <;> simp only [h, ↓upd_eq, ↓envL_cons, WZ, reduceIte, yA, yB, yC, yD, reduceCtorEq, yE, yF, W1, W1B, i64_eq]
    refine aloop_trim [7, 9, 1, 2, 8] ?_
    simp only [List.map_cons, List.map_nil, ↓upd_eq, ↓envL_cons, WZ, reduceIte, yA, yB, yC, yD, reduceCtorEq, yE, yF, W1, W1B]
    refine goLoopP 2 1 (fun i : Nat => [(7, match i with
      | 0 => .sl [] .full
      | i + 1 => .sl (((List.range (i + 1)).map (statG vs l c)).map embB) (.own (H.length + 2))), (9, .int .i64 i)]) (fun i => match i with
      | 0 => []
      | i + 1 => [.box [.int .i64 (statG vs l c 0).2.kind, .int .i64 (statG vs l c 0).2.num, .sl ((statG vs l c 0).2.kids.map emb) .no], .tok (i + 1) 4]) (fun i => i ≤ vs.length) (fun i => vs.length - i) C_ok 0 rfl rfl (Nat.zero_le _) (by decide) ?_
    rintro (_ | i) hi
    · simp only [List.drop_succ_cons, List.drop_zero, List.cons_append, List.nil_append, List.take_succ_cons, List.take_zero]
      simp only [↓upd_eq, ↓envL_cons, WZ, reduceIte, yA, yB, yC, yD, reduceCtorEq, yE, yF, W1, W1B]
      refine goIf_d (fun hlt => ?_) (fun hlt => ?_)
      · have h := True.intro
        repeat' (first
         | (with_reducible first | apply bA | apply bB | apply bC | apply bD | apply bE | apply bF) <;> intro h
         | ((first | apply bG | apply bH); simp only [AV.norm, AV.normL, W2, W2B, hlt, map_int_get hlt, i64_eq, hl0, hnz, hwm 0 hlt, hge 0 hlt, hgen 0 hlt, hroom 0 hlt, hroom2 0 hlt, List.length_map]; first | refine goCall_p (leaf_ok _) (.inl rfl) ?_ | refine goCall_p (hpl 0 hlt) (.inl rfl) ?_ | refine goDCall_p (leaf_ok _) (.inl rfl) ?_ | refine goDCall_p (hpl 0 hlt) (.inl rfl) ?_)
         | refine go_draw (id := 9) C_ok (fun _ => trivial) mixed 0 Try.f121.ntmps rfl (by kernel_rfl) (by decide) ?_
         | skip) <;> simp only [h, ↓upd_eq, ↓envL_cons, WZ, reduceIte, yA, yB, yC, yD, reduceCtorEq, yE, yF, W1, W1B, hlt, map_int_get hlt, i64_eq, hl0, hnz, hwm 0 hlt, hge 0 hlt, hgen 0 hlt, hroom 0 hlt, hroom2 0 hlt, List.length_map]
        refine ⟨0 + 1, hlt, by omega, weak_drop rfl rfl rfl ?_ ?_ ?_ ?_⟩ <;> (try simp only [WK, ↓upd_eq, ↓envL_cons, yA, reduceIte, AV.bel, AV.belL, AObj.bel, AV.norm, AV.normL, yB, yC, wrap_succ hlt hmax, map_bel, mapB_bel, ints_bel, mapB_norm, AV.belL, List.length_map]) <;> (try simp [List.range_succ, emb_cells]) <;> (try omega) <;> (try rfl)
      · simp only [↓upd_eq, ↓envL_cons, WZ, reduceIte, yA, yB, yC, yD, reduceCtorEq, yE, yF, W1, W1B]
        exact hend 0 hlt hi
    · simp only [List.drop_succ_cons, List.drop_zero, List.cons_append, List.nil_append, List.take_succ_cons, List.take_zero]
      simp only [↓upd_eq, ↓envL_cons, WZ, reduceIte, yA, yB, yC, yD, reduceCtorEq, yE, yF, W1, W1B]
      refine goIf_d (fun hlt => ?_) (fun hlt => ?_)
      · have h := True.intro
        repeat' (first
         | (with_reducible first | apply bA | apply bB | apply bC | apply bD | apply bE | apply bF) <;> intro h
         | ((first | apply bG | apply bH); simp only [AV.norm, AV.normL, W2, W2B, hlt, map_int_get hlt, i64_eq, hl0, hnz, hwm (i + 1) hlt, hge (i + 1) hlt, hgen (i + 1) hlt, hroom (i + 1) hlt, hroom2 (i + 1) hlt, List.length_map]; first | refine goCall_p (leaf_ok _) (.inl rfl) ?_ | refine goCall_p (hpl (i + 1) hlt) (.inl rfl) ?_ | refine goDCall_p (leaf_ok _) (.inl rfl) ?_ | refine goDCall_p (hpl (i + 1) hlt) (.inl rfl) ?_)
         | refine go_draw (id := 9) C_ok (fun _ => trivial) mixed 0 Try.f121.ntmps rfl (by kernel_rfl) (by decide) ?_
         | skip) <;> simp only [h, ↓upd_eq, ↓envL_cons, WZ, reduceIte, yA, yB, yC, yD, reduceCtorEq, yE, yF, W1, W1B, hlt, map_int_get hlt, i64_eq, hl0, hnz, hwm (i + 1) hlt, hge (i + 1) hlt, hgen (i + 1) hlt, hroom (i + 1) hlt, hroom2 (i + 1) hlt, List.length_map]
        refine ⟨i + 1 + 1, hlt, by omega, weak_drop rfl rfl rfl ?_ ?_ ?_ ?_⟩ <;> (try simp only [WK, ↓upd_eq, ↓envL_cons, yA, reduceIte, AV.bel, AV.belL, AObj.bel, AV.norm, AV.normL, yB, yC, wrap_succ hlt hmax, map_bel, mapB_bel, ints_bel, mapB_norm, AV.belL, List.length_map]) <;> (try simp [List.range_succ, emb_cells]) <;> (try omega) <;> (try rfl)
      · simp only [↓upd_eq, ↓envL_cons, WZ, reduceIte, yA, yB, yC, yD, reduceCtorEq, yE, yF, W1, W1B]
        exact hend (i + 1) hlt hi

theorem closing_ok (t : Ty) (l : List Ty) (ht : nodes t ≤ 1048576) (hl : l.length ≤ 1000000) (hr : ∀ x ∈ l, right x = true) : PCalls Try.prog 59 [emb t, .sl (l.map emb) .no] (.sl ((statB (varsT t) l true).map embB) .no) := by
  refine pcalls_text C_ok Try.func59 rfl (by decide) (Nat.le_of_ble_eq_true rfl) (by decide) (by simp only [AV.bel, mapB_bel, Bool.and_self]) fun ok H => ?_
  rw [Try.results59]
  have h := True.intro
  repeat' (first
   | (with_reducible first | apply bA | apply bB | apply bC | apply bD | apply bE | apply bF) <;> intro h
   | ((first | apply bG | apply bH); simp only [AV.norm, AV.normL, W2, W2B, map_norm, mapB_norm]; first | refine goCall_p (statB_ok t l true ht hl hr) (.inl rfl) ?_ | refine goDCall_p (statB_ok t l true ht hl hr) (.inl rfl) ?_)
   | skip) <;> simp only [h, ↓upd_eq, ↓envL_cons, WZ, reduceIte, yA, yB, yC, yD, reduceCtorEq, yE, yF, W1, W1B, map_norm, mapB_norm]

end Go.Proofs.Ytdngjamjccjlmaa
