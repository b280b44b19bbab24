/- Layer 13: where types make all pairs agree, they are made to. No condition. -/
import Derived.Test.YtdngjamjccjlmaaNI
import Derived.Test.YtdngjamjccjlmaaBC
set_option linter.unusedSimpArgs false
set_option linter.unusedVariables false
set_option maxHeartbeats 4000000
set_option maxRecDepth 100000
namespace Go.Proofs.Ytdngjamjccjlmaa
open Go Go.Ab
open Nat renaming reduceEqDiff → yA, reduceAdd → yB, reduceLT → yC, reduceLeDiff → yD, reduceMul → yE, reducePow → yF, reduceBEq → yG
open Int renaming reduceAdd → yH, reduceLT → yI, reduceToNat → yJ, reduceBEq → yK, reduceBNe → yL, reduceLE → yM
attribute [local irreducible] PCalls ACalls CallK GoCall GoDCall GoIf GoGb GoDGb GoO GoD GoX GoDX GoG GoDG GoGv GoDGv Go ALoop

def bxP (f : Nat → AObj) (i : Nat) : List AObj := (List.range i).map fun j => f (j + 1)
theorem bxP_len (f : Nat → AObj) (i : Nat) : (bxP f i).length = i := by simp [bxP]
theorem bxP_succ (f : Nat → AObj) (i : Nat) : bxP f (i + 1) = bxP f i ++ [f (i + 1)] := by
  unfold bxP; rw [List.range_succ, List.map_append]; rfl
def rwB (Lu : List (T × T)) (i : Nat) : AObj := .box [.int .i64 (rowOf (Lu.drop i)).ty.kind, .int .i64 (rowOf (Lu.drop i)).ty.num, .sl ((rowOf (Lu.drop i)).ty.kids.map emb) .no]
theorem last_ops {α : Type} {P : List α} {i : Nat} (h : P.length = i) : (∀ x, (P ++ [x])[i]? = some x) ∧ (∀ x y, (P ++ [x]).set i y = P ++ [y]) ∧ (∀ x z, (P ++ [x, z])[i]? = some x) ∧ (∀ x z, (P ++ [x, z])[i + 1]? = some z) ∧ (∀ x z y, (P ++ [x, z]).set (i + 1) y = P ++ [x, y]) ∧ (∀ x z y, (P ++ [x, z]).set i y = P ++ [y, z]) := by
  subst h
  refine ⟨fun x => by simp, fun x y => by simp, fun x z => by simp, fun x z => ?_, fun x z y => ?_, fun x z y => by simp⟩
  · rw [List.getElem?_append_right (by omega)]; simp
  · rw [List.set_append_right _ _ (by omega)]; simp
theorem solveComplete_ok (l : List Pr) (m : List Ty) : PCalls Try.prog 14 [.sl (l.map embQ) .no, .sl (m.map emb) .no] (.bool true) := by
  cases h1 : small13 l with
  | false =>
    refine pcalls_text C_ok Try.func14 rfl (by decide) (Nat.le_of_ble_eq_true rfl) (by decide) rfl fun ok H => ?_
    rw [Try.results14]
    have h := True.intro
    repeat' (first
     | (with_reducible first | apply bA | apply bB | apply bC | apply bD | apply bE | apply bF) <;> intro h
     | ((first | apply bG | apply bH); simp only [AV.norm, AV.normL, W2, W2Q, W2B, h1, List.length_map]; first | refine goCall_p (small13_ok _) (.inl rfl) ?_ | refine goCall_p (smallW_ok _) (.inl rfl) ?_ | refine goCall_p (fineW_ok _) (.inl rfl) ?_ | refine goDCall_p (small13_ok _) (.inl rfl) ?_ | refine goDCall_p (smallW_ok _) (.inl rfl) ?_ | refine goDCall_p (fineW_ok _) (.inl rfl) ?_)
     | refine go_draw (id := 4) C_ok (fun _ => trivial) mixed 1 Try.f14.ntmps rfl (by kernel_rfl) (by decide) ?_
     | refine go_draw (id := 8) C_ok (fun _ => trivial) mixed 1 Try.f14.ntmps rfl (by kernel_rfl) (by decide) ?_
     | refine go_draw (id := 13) C_ok (fun _ => trivial) mixed 0 Try.f14.ntmps rfl (by kernel_rfl) (by decide) ?_
     | skip) <;> simp only [h, ↓upd_eq, ↓envL_cons, WZ, reduceIte, yA, yB, yC, yD, reduceCtorEq, yE, yF, W1, W1Q, W1B, h1, List.length_map]
  | true =>
  cases h2 : small m with
  | false =>
    refine pcalls_text C_ok Try.func14 rfl (by decide) (Nat.le_of_ble_eq_true rfl) (by decide) rfl fun ok H => ?_
    rw [Try.results14]
    have h := True.intro
    repeat' (first
     | (with_reducible first | apply bA | apply bB | apply bC | apply bD | apply bE | apply bF) <;> intro h
     | ((first | apply bG | apply bH); simp only [AV.norm, AV.normL, W2, W2Q, W2B, h1, h2, List.length_map]; first | refine goCall_p (small13_ok _) (.inl rfl) ?_ | refine goCall_p (smallW_ok _) (.inl rfl) ?_ | refine goCall_p (fineW_ok _) (.inl rfl) ?_ | refine goDCall_p (small13_ok _) (.inl rfl) ?_ | refine goDCall_p (smallW_ok _) (.inl rfl) ?_ | refine goDCall_p (fineW_ok _) (.inl rfl) ?_)
     | refine go_draw (id := 4) C_ok (fun _ => trivial) mixed 1 Try.f14.ntmps rfl (by kernel_rfl) (by decide) ?_
     | refine go_draw (id := 8) C_ok (fun _ => trivial) mixed 1 Try.f14.ntmps rfl (by kernel_rfl) (by decide) ?_
     | refine go_draw (id := 13) C_ok (fun _ => trivial) mixed 0 Try.f14.ntmps rfl (by kernel_rfl) (by decide) ?_
     | skip) <;> simp only [h, ↓upd_eq, ↓envL_cons, WZ, reduceIte, yA, yB, yC, yD, reduceCtorEq, yE, yF, W1, W1Q, W1B, h1, h2, List.length_map]
  | true =>
  by_cases h3 : (m.length : Int) > 10
  · have c3 : ((m.length : Int) > 10) = True := by simp [h3]
    refine pcalls_text C_ok Try.func14 rfl (by decide) (Nat.le_of_ble_eq_true rfl) (by decide) rfl fun ok H => ?_
    rw [Try.results14]
    have h := True.intro
    repeat' (first
     | (with_reducible first | apply bA | apply bB | apply bC | apply bD | apply bE | apply bF) <;> intro h
     | ((first | apply bG | apply bH); simp only [AV.norm, AV.normL, W2, W2Q, W2B, h1, h2, c3, List.length_map]; first | refine goCall_p (small13_ok _) (.inl rfl) ?_ | refine goCall_p (smallW_ok _) (.inl rfl) ?_ | refine goCall_p (fineW_ok _) (.inl rfl) ?_ | refine goDCall_p (small13_ok _) (.inl rfl) ?_ | refine goDCall_p (smallW_ok _) (.inl rfl) ?_ | refine goDCall_p (fineW_ok _) (.inl rfl) ?_)
     | refine go_draw (id := 4) C_ok (fun _ => trivial) mixed 1 Try.f14.ntmps rfl (by kernel_rfl) (by decide) ?_
     | refine go_draw (id := 8) C_ok (fun _ => trivial) mixed 1 Try.f14.ntmps rfl (by kernel_rfl) (by decide) ?_
     | refine go_draw (id := 13) C_ok (fun _ => trivial) mixed 0 Try.f14.ntmps rfl (by kernel_rfl) (by decide) ?_
     | skip) <;> simp only [h, ↓upd_eq, ↓envL_cons, WZ, reduceIte, yA, yB, yC, yD, reduceCtorEq, yE, yF, W1, W1Q, W1B, h1, h2, c3, List.length_map]
  have c3 : ((m.length : Int) > 10) = False := by simp only [eq_iff_iff, iff_false]; exact h3
  have hm10 : m.length ≤ 10 := by omega
  cases h4 : fineW m with
  | false =>
    refine pcalls_text C_ok Try.func14 rfl (by decide) (Nat.le_of_ble_eq_true rfl) (by decide) rfl fun ok H => ?_
    rw [Try.results14]
    have h := True.intro
    repeat' (first
     | (with_reducible first | apply bA | apply bB | apply bC | apply bD | apply bE | apply bF) <;> intro h
     | ((first | apply bG | apply bH); simp only [AV.norm, AV.normL, W2, W2Q, W2B, h1, h2, c3, h4, List.length_map]; first | refine goCall_p (small13_ok _) (.inl rfl) ?_ | refine goCall_p (smallW_ok _) (.inl rfl) ?_ | refine goCall_p (fineW_ok _) (.inl rfl) ?_ | refine goDCall_p (small13_ok _) (.inl rfl) ?_ | refine goDCall_p (smallW_ok _) (.inl rfl) ?_ | refine goDCall_p (fineW_ok _) (.inl rfl) ?_)
     | refine go_draw (id := 4) C_ok (fun _ => trivial) mixed 1 Try.f14.ntmps rfl (by kernel_rfl) (by decide) ?_
     | refine go_draw (id := 8) C_ok (fun _ => trivial) mixed 1 Try.f14.ntmps rfl (by kernel_rfl) (by decide) ?_
     | refine go_draw (id := 13) C_ok (fun _ => trivial) mixed 0 Try.f14.ntmps rfl (by kernel_rfl) (by decide) ?_
     | skip) <;> simp only [h, ↓upd_eq, ↓envL_cons, WZ, reduceIte, yA, yB, yC, yD, reduceCtorEq, yE, yF, W1, W1Q, W1B, h1, h2, c3, h4, List.length_map]
  | true =>
  obtain ⟨l, rfl, hsm⟩ := small13_T h1
  have hmr : ∀ y ∈ m, right y = true := fun y hy => by
    have h4' := h4
    simp only [fineW, Bool.and_eq_true] at h4'
    exact rightL_mem h4'.2 hy
  have hl12 := hsm.len
  have hsz := hsm.size
  have r1 := row_ok (l.map tyQ) (by rw [List.length_map]; omega)
  rw [rowQ_ty] at r1
  have hxo := hsm.ok
  have hxr : right (rowOf l).ty = true := by rw [T.right_ty]; exact hxo
  have qc := closing_ok (rowOf l).ty m (by rw [nodes_size]; omega) (by omega) hmr
  rw [varsT_T] at qc
  have hB := statB_okBs hxo hmr true
  have qs := subst_ok (rowOf l).ty (statB ((rowOf l).varsF []) m true)
  rw [substR, if_pos ⟨hxr, hB⟩, tOf_ty] at qs
  have hso := closing_okT hxo hmr
  have hcl := fun k hk => closing_closed m (x := rowOf l) (k := k) hk
  have hst := fun k hk => closing_static m (x := rowOf l) (k := k) hk
  generalize sigB (statB ((rowOf l).varsF []) m true) = τ at *
  generalize statB ((rowOf l).varsF []) m true = bs at *
  obtain ⟨Lu, hLu⟩ : ∃ Lu, Lu = l.map fun p => (putS τ p.1, putS τ p.2) := ⟨_, rfl⟩
  have hu : putS τ (rowOf l) = rowOf Lu := by rw [rowOf_put, hLu]
  have hll : Lu.length = l.length := by rw [hLu, List.length_map]
  rw [hu] at qs hso
  have hqa : ∀ i, i < l.length → PCalls Try.prog 52 [emb (Lu.getD i default).1.ty, emb (Lu.getD i default).2.ty] (.bool (agreeT (Lu.getD i default).1 (Lu.getD i default).2)) := fun i hi => by
    have hm : Lu.getD i default ∈ Lu := by rw [List.getD_eq_getElem?_getD, List.getElem?_eq_getElem (by omega)]; exact List.getElem_mem _
    obtain ⟨o1, o2⟩ := rowOf_ok hso hm
    have := pagree_ok (Lu.getD i default).1.ty (Lu.getD i default).2.ty
    rw [T.right_ty, T.right_ty, o1, o2, T.agree_ty] at this
    exact this
  have hdr := fun i (hi : i < l.length) => rowOf_ty_drop (l := Lu) (i := i) (by omega)
  obtain ⟨fA, hfA⟩ : ∃ fA : Nat → Bool, fA = fun i => agreeT (Lu.getD i default).1 (Lu.getD i default).2 := ⟨_, rfl⟩
  refine pcalls_text C_ok Try.func14 rfl (by decide) (Nat.le_of_ble_eq_true rfl) (by decide) rfl fun ok H => ?_
  rw [Try.results14]
  rw [initS_fs]
  have h := True.intro
  repeat' (first
   | (with_reducible first | apply bA | apply bB | apply bC | apply bD | apply bE | apply bF) <;> intro h
   | ((first | apply bG | apply bH); simp only [AV.norm, AV.normL, W2, W2Q, W2B, h1, h2, c3, h4, List.length_map, emb_bel, emb_solid, implies_true, mapB_norm, emb_norm, bne_self_eq_false]; first | refine goCall_p (small13_ok _) (.inl rfl) ?_ | refine goCall_p (smallW_ok _) (.inl rfl) ?_ | refine goCall_p (fineW_ok _) (.inl rfl) ?_ | refine goCall_p (r1) (.inl rfl) ?_ | refine goCall_p (qc) (.inl rfl) ?_ | refine goCall_p (qs) (.inl rfl) ?_ | refine goDCall_p (small13_ok _) (.inl rfl) ?_ | refine goDCall_p (smallW_ok _) (.inl rfl) ?_ | refine goDCall_p (fineW_ok _) (.inl rfl) ?_ | refine goDCall_p (r1) (.inl rfl) ?_ | refine goDCall_p (qc) (.inl rfl) ?_ | refine goDCall_p (qs) (.inl rfl) ?_)
   | refine go_drawF (id := 4) C_ok (fun _ => trivial) mixed 1 Try.f14.ntmps (by first | (simp; done) | (simp; omega)) rfl (by kernel_rfl) (by decide) ?_
   | refine go_drawF (id := 8) C_ok (fun _ => trivial) mixed 1 Try.f14.ntmps (by first | (simp; done) | (simp; omega)) rfl (by kernel_rfl) (by decide) ?_
   | refine go_drawF (id := 13) C_ok (fun _ => trivial) mixed 0 Try.f14.ntmps (by first | (simp; done) | (simp; omega)) rfl (by kernel_rfl) (by decide) ?_
   | skip) <;> simp only [h, ↓upd_eq, ↓envL_cons, WY, reduceIte, yA, yB, yC, yD, reduceCtorEq, yE, yF, W1, W1Q, W1B, WS, h1, h2, c3, h4, List.length_map, emb_bel, emb_solid, implies_true, mapB_norm, emb_norm, bne_self_eq_false]
  refine aloop_trimF [8, 9, 10, 0, 6] ?_
  simp only [List.map_cons, List.map_nil, ↓upd_eq, ↓envL_cons, WY, reduceIte, yA, yB, yC, yD, reduceCtorEq, yE, yF, W1, W1Q, W1B, WS]
  refine goLoopF 3 (fun i : Nat => [(8, .bool (allN i fA)), (9, .int .i64 i), (10, .bptr (H.length + (i + 1 + 1)) 0)]) (fun i => H ++ (.box [.int .i64 (rowOf l).ty.kind, .int .i64 (rowOf l).ty.num, .sl ((rowOf l).ty.kids.map emb) .no] :: .box [.int .i64 (rowOf Lu).ty.kind, .int .i64 (rowOf Lu).ty.num, .sl ((rowOf Lu).ty.kids.map emb) .no] ::
    (bxP (rwB Lu) i ++ [rwB Lu i]))) (fun i => i ≤ l.length) (fun i => l.length - i) C_ok 0 rfl (by simp only [bxP, List.range_zero, List.map_nil, List.nil_append, List.drop_zero, rwB]) (Nat.zero_le _) (by decide) ?_
  intro i hi
  simp only [List.drop_succ_cons, List.drop_zero, List.cons_append, List.nil_append]
  have hmax : l.length ≤ maxLen := by rw [maxLen_val]; omega
  have hP := bxP_len (rwB Lu) i
  have hops := last_ops hP
  by_cases hlt : i < l.length
  · have qa := hqa i hlt
    have e := hdr i hlt
    have hPs := bxP_succ (rwB Lu) i
    have hAs : allN (i + 1) fA = (allN i fA && agreeT (Lu.getD i default).1 (Lu.getD i default).2) := by simp [allN, List.range_succ, hfA]
    obtain ⟨t2, ht2⟩ : ∃ t2, t2 = (rowOf (Lu.drop (i + 1))).ty := ⟨_, rfl⟩
    have hb1 : rwB Lu i = .box [.int .i64 7, .int .i64 0, .sl [emb (.mk 7 0 [(Lu.getD i default).1.ty, (Lu.getD i default).2.ty]), emb t2] .no] := by rw [rwB, e, ← ht2]; rfl
    have hb2 : rwB Lu (i + 1) = .box [.int .i64 t2.kind, .int .i64 t2.num, .sl (t2.kids.map emb) .no] := by rw [rwB, ← ht2]
    rw [hb2] at hPs
    rw [hb1]
    generalize agreeT (Lu.getD i default).1 (Lu.getD i default).2 = ag at *
    generalize (Lu.getD i default).1.ty = ta at *
    generalize (Lu.getD i default).2.ty = tb at *
    generalize bxP (rwB Lu) i = P at *
    cases hA : allN i fA with
    | true =>
      have h := True.intro
      repeat' (first
       | (with_reducible first | apply bA | apply bB | apply bC | apply bD | apply bE | apply bF) <;> intro h
       | ((first | apply bG | apply bH); simp only [AV.norm, AV.normL, W2, W2Q, W2B, W3, yH, yI, yJ, yK, yL, yM, hlt, hP, hops, emb_cells, emb_bel, emb_solid, implies_true, List.length_map, List.map_cons, List.map_nil, bne_self_eq_false, beq_self_eq_true]; first | refine goCall_p (qa) (.inl rfl) ?_ | refine goDCall_p (qa) (.inl rfl) ?_)
       | refine go_drawF (id := 4) C_ok (fun _ => trivial) mixed 1 Try.f14.ntmps (by first | (simp; done) | (simp; omega)) rfl (by kernel_rfl) (by decide) ?_
       | refine go_drawF (id := 8) C_ok (fun _ => trivial) mixed 1 Try.f14.ntmps (by first | (simp; done) | (simp; omega)) rfl (by kernel_rfl) (by decide) ?_
       | refine go_drawF (id := 13) C_ok (fun _ => trivial) mixed 0 Try.f14.ntmps (by first | (simp; done) | (simp; omega)) rfl (by kernel_rfl) (by decide) ?_
       | refine goRound ?_ C_ok Try.f14.ntmps rfl (by decide)
       | skip) <;> simp only [h, ↓upd_eq, ↓envL_cons, WY, reduceIte, yA, yB, yC, yD, reduceCtorEq, yE, yF, W1, W1Q, W1B, WS, W3, yH, yI, yJ, yK, yL, yM, hlt, hP, hops, emb_cells, emb_bel, emb_solid, implies_true, List.length_map, List.map_cons, List.map_nil, bne_self_eq_false, beq_self_eq_true, cutNormal_normal]
      refine ⟨i + 1, hlt, by omega, weakF ?_ ?_⟩
      · rw [hPs, hb2]; simp
      · simp only [WK, ↓upd_eq, ↓envL_cons, yA, reduceIte, AV.bel, AV.belL, AObj.bel, AV.norm, AV.normL, yB, yC, wrap_succ hlt hmax, hAs, hA, Bool.false_and]
    | false =>
      have h := True.intro
      repeat' (first
       | (with_reducible first | apply bA | apply bB | apply bC | apply bD | apply bE | apply bF) <;> intro h
       | ((first | apply bG | apply bH); simp only [AV.norm, AV.normL, W2, W2Q, W2B, W3, yH, yI, yJ, yK, yL, yM, hlt, hP, hops, emb_cells, emb_bel, emb_solid, implies_true, List.length_map, List.map_cons, List.map_nil, bne_self_eq_false, beq_self_eq_true]; first | refine goCall_p (qa) (.inl rfl) ?_ | refine goDCall_p (qa) (.inl rfl) ?_)
       | refine go_drawF (id := 4) C_ok (fun _ => trivial) mixed 1 Try.f14.ntmps (by first | (simp; done) | (simp; omega)) rfl (by kernel_rfl) (by decide) ?_
       | refine go_drawF (id := 8) C_ok (fun _ => trivial) mixed 1 Try.f14.ntmps (by first | (simp; done) | (simp; omega)) rfl (by kernel_rfl) (by decide) ?_
       | refine go_drawF (id := 13) C_ok (fun _ => trivial) mixed 0 Try.f14.ntmps (by first | (simp; done) | (simp; omega)) rfl (by kernel_rfl) (by decide) ?_
       | refine goRound ?_ C_ok Try.f14.ntmps rfl (by decide)
       | skip) <;> simp only [h, ↓upd_eq, ↓envL_cons, WY, reduceIte, yA, yB, yC, yD, reduceCtorEq, yE, yF, W1, W1Q, W1B, WS, W3, yH, yI, yJ, yK, yL, yM, hlt, hP, hops, emb_cells, emb_bel, emb_solid, implies_true, List.length_map, List.map_cons, List.map_nil, bne_self_eq_false, beq_self_eq_true, cutNormal_normal]
      refine ⟨i + 1, hlt, by omega, weakF ?_ ?_⟩
      · rw [hPs, hb2]; simp
      · simp only [WK, ↓upd_eq, ↓envL_cons, yA, reduceIte, AV.bel, AV.belL, AObj.bel, AV.norm, AV.normL, yB, yC, wrap_succ hlt hmax, hAs, hA, Bool.false_and]
  · have he : i = l.length := by omega
    subst he
    have hlt' : (l.length < l.length) = False := by simp
    have hA2 : allN l.length fA = true → ∀ p ∈ l, agO (putS τ p.1) (putS τ p.2) = true := fun hA p hp => by
      rw [allN_iff] at hA
      obtain ⟨i, hi, rfl⟩ := List.getElem_of_mem hp
      have h := hA i hi
      rw [hfA] at h
      simp only at h
      have e : Lu.getD i default = (putS τ l[i].1, putS τ l[i].2) := by rw [hLu]; simp [hi]
      rw [e] at h
      rw [← agO_closed _ _ (closed_put _ fun k hk => hcl k (rowOf_has hp (.inl hk))) (closed_put _ fun k hk => hcl k (rowOf_has hp (.inr hk)))]
      exact h
    generalize bxP (rwB Lu) l.length = P at *
    generalize rwB Lu l.length = bx0 at *
    obtain ⟨F1, hF1⟩ : ∃ F1, F1 = H ++ (AObj.box [.int .i64 (rowOf l).ty.kind, .int .i64 (rowOf l).ty.num, .sl ((rowOf l).ty.kids.map emb) .no] :: AObj.box [.int .i64 (rowOf Lu).ty.kind, .int .i64 (rowOf Lu).ty.num, .sl ((rowOf Lu).ty.kids.map emb) .no] :: (P ++ [bx0])) := ⟨_, rfl⟩
    obtain ⟨G, s, r, n, Z, σ0, ps, e, σ, hs, hr, hne, hl, ht, hbs, hbr, hsol, hF⟩ := solved_st F1 l hsm
    have hU := st_old (q := H.length + 1) (F := F1) (x := AObj.box [.int .i64 (rowOf Lu).ty.kind, .int .i64 (rowOf Lu).ty.num, .sl ((rowOf Lu).ty.kids.map emb) .no]) (by rw [hF1, app_getkc rfl]; rfl) ht hbs hbr
    have hFl : H.length ≤ F1.length := by rw [hF1]; simp
    have hl0 : H.length ≤ G.length := by omega
    have hle : ∀ k, (H.length ≤ G.length + k) = True := fun k => by simp only [eq_iff_iff, iff_true]; omega
    have hHt : G.take H.length = H := take_low ht hFl (by rw [hF1]; exact List.take_left' rfl)
    have hbs' : H.length ≤ s := by omega
    have hbr' : H.length ≤ r := by omega
    have qr := fun (F : List AObj) (hs : s < F.length) (hr : r < F.length) => sound_read hs hr hne hF
    unfold Sto.heap at hsol qr
    subst hF1
    cases hA : allN l.length fA with
    | false =>
      have h := True.intro
      repeat' (first
       | (with_reducible first | apply bA | apply bB | apply bC | apply bD | apply bE | apply bF) <;> intro h
       | ((first | apply bG | apply bH); simp only [AV.norm, AV.normL, W2, W2Q, W2B, hpS, bxS, arS, stP hs hr hne, retD_ret, retD_normal, AV.bel, mapN_len, hlt', hl0, hle, hFl, List.length_map, beq_self_eq_true, implies_true, AV.belL]; first | refine goCall_p (wakes13_ok) (.inl rfl) ?_ | refine goDCall_p (wakes13_ok) (.inl rfl) ?_ | refine fsCallD (hsol) (.inl rfl) (fun hb => new_bel (by simp) hbs hbr ht hb) ?_)
       | refine go_drawF (id := 4) C_ok (fun _ => trivial) mixed 1 Try.f14.ntmps (by first | (simp; done) | (simp; omega)) rfl (by kernel_rfl) (by decide) ?_
       | refine go_drawF (id := 8) C_ok (fun _ => trivial) mixed 1 Try.f14.ntmps (by first | (simp; done) | (simp; omega)) rfl (by kernel_rfl) (by decide) ?_
       | refine go_drawF (id := 13) C_ok (fun _ => trivial) mixed 0 Try.f14.ntmps (by first | (simp; done) | (simp; omega)) rfl (by kernel_rfl) (by decide) ?_
       | skip) <;> simp only [h, ↓upd_eq, ↓envL_cons, WY, reduceIte, yA, yB, yC, yD, reduceCtorEq, yE, yF, W1, W1Q, W1B, WS, hpS, bxS, arS, stP hs hr hne, retD_ret, retD_normal, AV.bel, mapN_len, hlt', hl0, hle, hFl, List.length_map, beq_self_eq_true, implies_true, AV.belL]
      all_goals exact st_take hbs' hbr' hHt
    | true =>
      have hcomp := hF.complete τ hst (hA2 hA)
      have hmt := hF.matches τ hst (hA2 hA)
      obtain ⟨rfl, _⟩ := hcomp
      have hl2 := hF.len
      have hn : n < σ.L.st.length := Nat.lt_of_lt_of_le (by rw [Mem.st_len]; exact hF.hn) hF.ext.len
      have hyo := hF.good.si.wf.tT_ok (by rw [Mem.st_len]; omega) hn
      have hc1 := hF.cnt1
      have hc2 := hF.cnt2
      by_cases hfit : ((σ.L.st.tT n).size : Int) ≤ 65536 - σ.cnt
      · simp only [if_pos hfit] at qr
        have qm := match_ok (σ.L.st.tT n).ty (rowOf Lu).ty (by rw [nodes_size]; omega)
        obtain ⟨L2, hL2⟩ := Option.isSome_iff_exists.1 hmt
        rw [hu] at hL2
        rw [matchV, if_pos ⟨by rw [T.right_ty]; exact hyo, by rw [T.right_ty]; exact hso⟩, tOf_ty, tOf_ty, hL2] at qm
        simp only at qm
        generalize (σ.L.st.tT n).size = N at *
        generalize (σ.L.st.tT n).ty = t at *
        have h := True.intro
        repeat' (first
         | (with_reducible first | apply bA | apply bB | apply bC | apply bD | apply bE | apply bF) <;> intro h
         | ((first | apply bG | apply bH); simp only [AV.norm, AV.normL, W2, W2Q, W2B, hpS, bxS, arS, stP hs hr hne, retD_ret, retD_normal, AV.bel, mapN_len, hlt', hl0, hle, hFl, hU, List.length_map, emb_bel, emb_solid, beq_self_eq_true, bne_self_eq_false, implies_true, AV.belL]; first | refine goCall_p (qm) (.inl rfl) ?_ | refine goCall_p (wakes13_ok) (.inl rfl) ?_ | refine goDCall_p (qm) (.inl rfl) ?_ | refine goDCall_p (wakes13_ok) (.inl rfl) ?_ | refine fsCallD (hsol) (.inl rfl) (fun hb => new_bel (by simp) hbs hbr ht hb) ?_ | refine fsCallD (qr _ (by first|exact hs|simp<;>omega) (by first|exact hr|simp<;>omega)) (.inl rfl) (fun hb => hpS_bel (by first|exact hs|simp<;>omega) (by first|exact hr|simp<;>omega) hne hb) ?_)
         | refine go_drawF (id := 4) C_ok (fun _ => trivial) mixed 1 Try.f14.ntmps (by first | (simp; done) | (simp; omega)) rfl (by kernel_rfl) (by decide) ?_
         | refine go_drawF (id := 8) C_ok (fun _ => trivial) mixed 1 Try.f14.ntmps (by first | (simp; done) | (simp; omega)) rfl (by kernel_rfl) (by decide) ?_
         | refine go_drawF (id := 13) C_ok (fun _ => trivial) mixed 0 Try.f14.ntmps (by first | (simp; done) | (simp; omega)) rfl (by kernel_rfl) (by decide) ?_
         | skip) <;> simp only [h, ↓upd_eq, ↓envL_cons, WY, reduceIte, yA, yB, yC, yD, reduceCtorEq, yE, yF, W1, W1Q, W1B, WS, hpS, bxS, arS, stP hs hr hne, retD_ret, retD_normal, AV.bel, mapN_len, hlt', hl0, hle, hFl, hU, List.length_map, emb_bel, emb_solid, beq_self_eq_true, bne_self_eq_false, implies_true, AV.belL]
        all_goals exact stJ_take hbs' hbr' hl0 hHt
      · simp only [if_neg hfit] at qr
        have b7 : ((7 : Int) != 0) = true := rfl
        have h := True.intro
        repeat' (first
         | (with_reducible first | apply bA | apply bB | apply bC | apply bD | apply bE | apply bF) <;> intro h
         | ((first | apply bG | apply bH); simp only [AV.norm, AV.normL, W2, W2Q, W2B, hpS, bxS, arS, stP hs hr hne, retD_ret, retD_normal, AV.bel, mapN_len, hlt', hl0, hle, hFl, b7, List.length_map, emb_bel, emb_solid, beq_self_eq_true, bne_self_eq_false, implies_true, AV.belL]; first | refine goCall_p (wakes13_ok) (.inl rfl) ?_ | refine goDCall_p (wakes13_ok) (.inl rfl) ?_ | refine fsCallD (hsol) (.inl rfl) (fun hb => new_bel (by simp) hbs hbr ht hb) ?_ | refine fsCallD (qr _ (by first|exact hs|simp<;>omega) (by first|exact hr|simp<;>omega)) (.inl rfl) (fun hb => hpS_bel (by first|exact hs|simp<;>omega) (by first|exact hr|simp<;>omega) hne hb) ?_)
         | refine go_drawF (id := 4) C_ok (fun _ => trivial) mixed 1 Try.f14.ntmps (by first | (simp; done) | (simp; omega)) rfl (by kernel_rfl) (by decide) ?_
         | refine go_drawF (id := 8) C_ok (fun _ => trivial) mixed 1 Try.f14.ntmps (by first | (simp; done) | (simp; omega)) rfl (by kernel_rfl) (by decide) ?_
         | refine go_drawF (id := 13) C_ok (fun _ => trivial) mixed 0 Try.f14.ntmps (by first | (simp; done) | (simp; omega)) rfl (by kernel_rfl) (by decide) ?_
         | skip) <;> simp only [h, ↓upd_eq, ↓envL_cons, WY, reduceIte, yA, yB, yC, yD, reduceCtorEq, yE, yF, W1, W1Q, W1B, WS, hpS, bxS, arS, stP hs hr hne, retD_ret, retD_normal, AV.bel, mapN_len, hlt', hl0, hle, hFl, b7, List.length_map, emb_bel, emb_solid, beq_self_eq_true, bne_self_eq_false, implies_true, AV.belL]
        all_goals exact stJ_take hbs' hbr' hl0 hHt

end Go.Proofs.Ytdngjamjccjlmaa
