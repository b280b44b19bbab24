/- Walks: whether a pattern is right. No condition. -/
import Derived.Test.YtofogicgnldfhaaPYb
set_option linter.unusedSimpArgs false
set_option linter.unusedVariables false
set_option maxHeartbeats 4000000
set_option maxRecDepth 100000
namespace Go.Proofs.Ytofogicgnldfhaa
open Go Go.Ab
open Nat (reduceEqDiff reduceAdd reduceLT reduceLeDiff reduceMul reducePow)
attribute [local irreducible] PCalls ACalls CallK GoCall GoDCall GoIf GoGb GoDGb GoO GoD GoX GoDX GoG GoDG GoGv GoDGv Go ALoop

theorem pats1_ok {E : Bool × List ByteArray → List AObj} {y B : Nat} (hI : Iter E y B) (p : Pt) (l : List ByteArray) {c : Nat} (hc : (E (true, l))[c]? = some (.box (cellsOf (embP p)))) (hcB : c < B) :
    DCalls Try.prog 103 [.yld y, .bptr c 0] (E (true, l)) (.tup []) (E (chkR p l)) := by
  have hE := hI.hE
  have q1 := goPats_ok p hI l
  have tk : ∀ r, List.take B (E r) = E r := fun r => List.take_of_length_le (by rw [hE]; exact Nat.le_refl _)
  rw [embP_cells] at hc
  unfold DCalls
  refine acallsD_text C_ok Try.func103 rfl (by decide) (Nat.le_of_ble_eq_true rfl) (by decide) fun ok => ?_
  rw [Try.results103]
  rw [hE]
  have h := True.intro
  repeat' (first
   | (with_reducible first | apply bA | apply bB | apply bC | apply bD | apply bE | apply bF) <;> intro h
   | skip) <;> simp only [h, ↓upd_eq, ↓envL_cons, WY, reduceIte, reduceEqDiff, reduceAdd, reduceLT, reduceLeDiff, reduceCtorEq, reduceMul, reducePow, W1, W1P, fs_frz, fs_frz0, fs_env, fs_b, fs_n, fs_put, fs_put0, fs_tmp, fs_const, fs_func, fs_obj, fs_setObj, fs_new, fs_next, fs_mk, fs_H, le_app, le_set, app_get, app_set, app_get0c, app_getkc, app_set0c, app_setkc, List.append_assoc, not_false_eq_true, not_true_eq_false, retE_ret, retP_ret, List.length_append, List.length_set, Nat.le_succ, hE, hc]
  refine fsCallD q1 (.inl rfl) (fun hb => by rw [tk] at hb ⊢; exact hI.hbel l B hb _) ?_
  have h := True.intro
  repeat' (first
   | (with_reducible first | apply bA | apply bB | apply bC | apply bD | apply bE | apply bF) <;> intro h
   | skip) <;> simp only [h, ↓upd_eq, ↓envL_cons, WY, reduceIte, reduceEqDiff, reduceAdd, reduceLT, reduceLeDiff, reduceCtorEq, reduceMul, reducePow, W1, W1P, fs_frz, fs_frz0, fs_env, fs_b, fs_n, fs_put, fs_put0, fs_tmp, fs_const, fs_func, fs_obj, fs_setObj, fs_new, fs_next, fs_mk, fs_H, le_app, le_set, app_get, app_set, app_get0c, app_getkc, app_set0c, app_setkc, List.append_assoc, not_false_eq_true, not_true_eq_false, retE_ret, retP_ret, List.length_append, List.length_set, Nat.le_succ, hE, hc, tk, retD_normal, retD_ret, AV.bel, AV.belL]
  exact ⟨rfl, rfl⟩

/-- The names that were met, as the map has them. -/
def embNa (l : List ByteArray) : List (AV × AV) := l.map fun s => (.str s, .int .i64 1)
def fndN : List ByteArray → ByteArray → Nat → Option (Nat × AV)
  | [], _, _ => none
  | s :: l, k, i => if (k == s) = true then some (i, .int .i64 1) else fndN l k (i + 1)
theorem findN : ∀ (l : List ByteArray) (k : ByteArray) (i : Nat), findA .str (.str k) (embNa l) i = some (fndN l k i)
  | [], k, i => rfl
  | s :: l, k, i => by
    simp only [embNa, List.map_cons, findA, keyEq, fndN]
    cases h : (k == s) with
    | true => simp
    | false => simp; exact findN l k (i + 1)
theorem fndN_spec : ∀ (l : List ByteArray) (k : ByteArray) (i : Nat), (l.any (k == ·) = true → ∃ j, fndN l k i = some (j, .int .i64 1)) ∧ (l.any (k == ·) = false → fndN l k i = none)
  | [], k, i => by simp [fndN]
  | s :: l, k, i => by
    have ih := fndN_spec l k (i + 1)
    rw [fndN, List.any_cons]
    cases h : (k == s) with
    | true => simp
    | false => simpa using ih

theorem fs_withH {e : Nat → AV} {F F' L : List AObj} {b n : Nat} (h : F.length = b) (h' : F'.length = b) : (⟨(FS e (F ++ L) b n).env, (FS e (F ++ L) b n).b, F', (FS e (F ++ L) b n).L, (FS e (F ++ L) b n).n⟩ : AState) = FS e (F' ++ L) b n := by
  unfold FS
  simp only [List.take_left' h', List.drop_left' h', List.drop_left' h]
theorem fs_Happ {e : Nat → AV} {F L : List AObj} {b n : Nat} (h : F.length = b) : (FS e (F ++ L) b n).H = F := by unfold FS; exact List.take_left' h
theorem embN_app (l : List ByteArray) (s : ByteArray) : embNa l ++ [(.str s, .int .i64 1)] = embNa (l ++ [s]) := by simp [embNa]
theorem set_same {F : List AObj} {m : Nat} {x : AObj} (h : F[m]? = some x) : F.set m x = F := by
  obtain ⟨h1, h2⟩ := List.getElem?_eq_some_iff.1 h
  rw [← h2]; exact List.set_getElem_self h1

theorem embNa_bel (l : List ByteArray) (m : Nat) : (AObj.map (embNa l)).bel m = true := by
  simp only [AObj.bel, Bool.and_eq_true, belL_iff, embNa, List.map_map, List.mem_map]
  exact ⟨fun x ⟨s, _, h⟩ => by subst h; rfl, fun x ⟨s, _, h⟩ => by subst h; rfl⟩

def hpP (H : List AObj) (p : Pt) (d : LpD) (env : List AV) (r : Bool × List ByteArray) : List AObj :=
  H ++ [.box (cellsOf (embP p)), .box [.int .i64 (if r.1 then 0 else 1)], .map (embNa r.2), .box [.mp (H.length + 2)], .box (cellsOf (embP p)), .raw (.deferred (some [])), .lp d env (if r.1 then .ready else .done) (if r.1 then none else some .ret)]

theorem hpP_set (H : List AObj) (p : Pt) (d : LpD) (env : List AV) (r : Bool × List ByteArray) (x : AObj) : (hpP H p d env r).set (H.length + 5 + 1) x = H ++ [.box (cellsOf (embP p)), .box [.int .i64 (if r.1 then 0 else 1)], .map (embNa r.2), .box [.mp (H.length + 2)], .box (cellsOf (embP p)), .raw (.deferred (some [])), x] := by
  unfold hpP
  rw [Nat.add_assoc, List.set_append_right _ _ (by omega)]
  simp
theorem hpP_get (H : List AObj) (p : Pt) (d : LpD) (env : List AV) (r : Bool × List ByteArray) : (hpP H p d env r)[H.length + 5 + 1]? = some (.lp d env (if r.1 then .ready else .done) (if r.1 then none else some .ret)) := by
  unfold hpP
  rw [Nat.add_assoc, List.getElem?_append_right (by omega)]
  simp
theorem leaveP {H : List AObj} {cs ds mm : List AV} {es : List (AV × AV)} {v : Int} {x : AObj} {e : Nat → AV} {n : Nat} {R : AV → List AObj → Prop} (h2 : e 2 = .bptr (H.length + 1) 0) (hR : R (.int .i64 v) H) (hb : ∀ x ∈ H, x.bel H.length = true) :
    LeaveK C [.cell 2 33] (H.length + 5) H.length R .ret (FS e (H ++ [.box cs, .box [.int .i64 v], .map es, .box mm, .box ds, .raw (.deferred (some [])), x]) (H.length + 7) n) := by
  have hl : (H ++ [.box cs, .box [.int .i64 v], .map es, .box mm, .box ds, .raw (.deferred (some [])), x]).length = H.length + 7 := by simp
  have hH : (FS e (H ++ [.box cs, .box [.int .i64 v], .map es, .box mm, .box ds, .raw (.deferred (some [])), x]) (H.length + 7) n).H = H ++ [.box cs, .box [.int .i64 v], .map es, .box mm, .box ds, .raw (.deferred (some [])), x] := List.take_of_length_le (by rw [hl]; exact Nat.le_refl _)
  unfold LeaveK
  rw [hH]
  refine ⟨trivial, by simp, ?_⟩
  have hF : (⟨(FS e (H ++ [.box cs, .box [.int .i64 v], .map es, .box mm, .box ds, .raw (.deferred (some [])), x]) (H.length + 7) n).env, (FS e (H ++ [.box cs, .box [.int .i64 v], .map es, .box mm, .box ds, .raw (.deferred (some [])), x]) (H.length + 7) n).b, (H ++ [.box cs, .box [.int .i64 v], .map es, .box mm, .box ds, .raw (.deferred (some [])), x]).set (H.length + 5) (.raw (.deferred none)), (FS e (H ++ [.box cs, .box [.int .i64 v], .map es, .box mm, .box ds, .raw (.deferred (some [])), x]) (H.length + 7) n).L, (FS e (H ++ [.box cs, .box [.int .i64 v], .map es, .box mm, .box ds, .raw (.deferred (some [])), x]) (H.length + 7) n).n⟩ : AState) =
      FS e (H ++ [.box cs, .box [.int .i64 v], .map es, .box mm, .box ds, .raw (.deferred none), x]) (H.length + 7) n := by
    have e1 : (H ++ [AObj.box cs, .box [.int .i64 v], .map es, .box mm, .box ds, .raw (.deferred (some [])), x]).set (H.length + 5) (.raw (.deferred none)) = H ++ [.box cs, .box [.int .i64 v], .map es, .box mm, .box ds, .raw (.deferred none), x] := by
      rw [List.set_append_right _ _ (by omega)]; simp
    rw [e1, ← fs_all (b := H.length + 7) (F := H ++ [.box cs, .box [.int .i64 v], .map es, .box mm, .box ds, .raw (.deferred none), x]) (by simp)]
    unfold FS
    simp only [AState.mk.injEq, true_and, and_true]
    exact List.drop_of_length_le (by rw [hl]; exact Nat.le_refl _)
  rw [hF]
  have ht : (H ++ [AObj.box cs, .box [.int .i64 v], .map es, .box mm, .box ds, .raw (.deferred (some [])), x]).take H.length = H := List.take_left' rfl
  rw [ht]
  simp only [↓upd_eq, ↓envL_cons, WY, reduceIte, reduceEqDiff, reduceAdd, reduceLT, reduceLeDiff, reduceCtorEq, reduceMul, reducePow, W1, W1P, fs_frz, fs_frz0, fs_env, fs_b, fs_n, fs_put, fs_put0, fs_tmp, fs_const, fs_func, fs_obj, fs_setObj, fs_new, fs_next, fs_mk, fs_H, le_app, le_set, app_get, app_set, app_get0c, app_getkc, app_set0c, app_setkc, List.append_assoc, not_false_eq_true, not_true_eq_false, retE_ret, retP_ret, List.length_append, List.length_set, Nat.le_succ, aresL, ares1, h2, tupOf, AV.bel, ty_33]
  exact ⟨hb, hR⟩

def chkP (p : Pt) : Bool := (chkR p []).1

theorem checkPat_in (p : Pt) (H : List AObj) : ACalls Try.prog 59 [embP p] H fun r' H' => r' = .int .i64 (if chkP p then 0 else 1) ∧ H' = H := by
  refine acalls_range C_ok Try.func59 rfl (by decide) (Nat.le_of_ble_eq_true rfl) (by decide) fun ok hbH => ?_
  rw [initS_FS, X_go, Try.results59]
  have h := True.intro
  repeat' (first
   | (with_reducible first | apply bA | apply bB | apply bC | apply bD | apply bE | apply bF) <;> intro h
   | skip) <;> simp only [h, ↓upd_eq, ↓envL_cons, WY, reduceIte, reduceEqDiff, reduceAdd, reduceLT, reduceLeDiff, reduceCtorEq, reduceMul, reducePow, W1, W1P, fs_frz, fs_frz0, fs_env, fs_b, fs_n, fs_put, fs_put0, fs_tmp, fs_const, fs_func, fs_obj, fs_setObj, fs_new, fs_next, fs_mk, fs_H, le_app, le_set, app_get, app_set, app_get0c, app_getkc, app_set0c, app_setkc, List.append_assoc, not_false_eq_true, not_true_eq_false, retE_ret, retP_ret, List.length_append, List.length_set, Nat.le_succ]
  refine ⟨rfl, ?_⟩
  show X _ _ _ _ _
  rw [X_go]
  have h := True.intro
  repeat' (first
   | (with_reducible first | apply bA | apply bB | apply bC | apply bD | apply bE | apply bF) <;> intro h
   | skip) <;> simp only [h, ↓upd_eq, ↓envL_cons, WY, reduceIte, reduceEqDiff, reduceAdd, reduceLT, reduceLeDiff, reduceCtorEq, reduceMul, reducePow, W1, W1P, fs_frz, fs_frz0, fs_env, fs_b, fs_n, fs_put, fs_put0, fs_tmp, fs_const, fs_func, fs_obj, fs_setObj, fs_new, fs_next, fs_mk, fs_H, le_app, le_set, app_get, app_set, app_get0c, app_getkc, app_set0c, app_setkc, List.append_assoc, not_false_eq_true, not_true_eq_false, retE_ret, retP_ret, List.length_append, List.length_set, Nat.le_succ]
  refine ⟨rfl, ?_⟩
  show X _ _ _ _ _
  rw [X_go]
  have h := True.intro
  repeat' (first
   | (with_reducible first | apply bA | apply bB | apply bC | apply bD | apply bE | apply bF) <;> intro h
   | skip) <;> simp only [h, ↓upd_eq, ↓envL_cons, WY, reduceIte, reduceEqDiff, reduceAdd, reduceLT, reduceLeDiff, reduceCtorEq, reduceMul, reducePow, W1, W1P, fs_frz, fs_frz0, fs_env, fs_b, fs_n, fs_put, fs_put0, fs_tmp, fs_const, fs_func, fs_obj, fs_setObj, fs_new, fs_next, fs_mk, fs_H, le_app, le_set, app_get, app_set, app_get0c, app_getkc, app_set0c, app_setkc, List.append_assoc, not_false_eq_true, not_true_eq_false, retE_ret, retP_ret, List.length_append, List.length_set, Nat.le_succ]
  refine fsCallD (pats_ok p _) (.inl rfl) (fun hb => by rw [List.take_append_of_le_length (by simp)]; exact hb) ?_
  have h := True.intro
  repeat' (first
   | (with_reducible first | apply bA | apply bB | apply bC | apply bD | apply bE | apply bF) <;> intro h
   | skip) <;> simp only [h, ↓upd_eq, ↓envL_cons, WY, reduceIte, reduceEqDiff, reduceAdd, reduceLT, reduceLeDiff, reduceCtorEq, reduceMul, reducePow, W1, W1P, fs_frz, fs_frz0, fs_env, fs_b, fs_n, fs_put, fs_put0, fs_tmp, fs_const, fs_func, fs_obj, fs_setObj, fs_new, fs_next, fs_mk, fs_H, le_app, le_set, app_get, app_set, app_get0c, app_getkc, app_set0c, app_setkc, List.append_assoc, not_false_eq_true, not_true_eq_false, retE_ret, retP_ret, List.length_append, List.length_set, Nat.le_succ]
  refine ⟨rfl, rangeHyp_fs (fun d env r' H' => r' = .tup [] ∧ H' = hpP H p d env (chkR p [])) (gf := 103) (caps := [.bptr (H.length + 4) 0]) (by simp only [↓upd_eq, ↓envL_cons, WY, reduceIte, reduceEqDiff, reduceAdd, reduceLT, reduceLeDiff, reduceCtorEq, reduceMul, reducePow, W1, W1P, fs_frz, fs_frz0, fs_env, fs_b, fs_n, fs_put, fs_put0, fs_tmp, fs_const, fs_func, fs_obj, fs_setObj, fs_new, fs_next, fs_mk, fs_H, le_app, le_set, app_get, app_set, app_get0c, app_getkc, app_set0c, app_setkc, List.append_assoc, not_false_eq_true, not_true_eq_false, retE_ret, retP_ret, List.length_append, List.length_set, Nat.le_succ]) (fun fn d env hd hn he => ?_) (fun d env r' H'' hr => ?_)⟩
  · have hround : ∀ (q : Pt) (l : List ByteArray) (F : List AObj) (m1 m2 m3 y : Nat) (R : AV → List AObj → Prop) (e : Nat → AV), F[m1]? = some (.box [.int .i64 0]) → F[m2]? = some (.map (embNa l)) → F[m3]? = some (.box [.mp m2]) → F[y]? = some (.lp d env .ready none) →
        y ≠ m1 → y ≠ m2 → y ≠ m3 → m1 ≠ m2 → m1 ≠ m3 → m2 ≠ m3 → e 2 = .bptr m1 0 → e 3 = .bptr m3 0 → e 8 = embP q →
        (stepP l q = none → R (.bool false) (((F.set y (.lp d env .busy none)).set m1 (.box [.int .i64 1])).set y (.lp d env .done (some .ret)))) →
        (∀ l', stepP l q = some l' → R (.bool true) (((F.set y (.lp d env .busy none)).set m2 (.map (embNa l'))).set y (.lp d env .ready none))) →
        Go Try.prog C (assignK Try.prog C y d env R) [.code d.assign] (FS e F F.length env.length) := by
      intro q l F m1 m2 m3 y R e h1 h2 h3 hy d1 d2 d3 d4 d5 d6 e2 e3 e8 hRf hRt
      have l1 := get_lt h1
      have l2 := get_lt h2
      have l3 := get_lt h3
      have ly := get_lt hy
      obtain ⟨b, hb⟩ : ∃ b, b = F.length := ⟨_, rfl⟩
      rw [← hb, hn]
      have hb' := hb.symm
      rw [hb'] at l1 l2 l3 ly
      conv => arg 4; rw [hd]
      simp only []
      have h := True.intro
      repeat' (first
       | (with_reducible first | apply bA | apply bB | apply bC | apply bD | apply bE | apply bF) <;> intro h
       | skip) <;> simp only [h, ↓upd_eq, ↓envL_cons, WY, reduceIte, reduceEqDiff, reduceAdd, reduceLT, reduceLeDiff, reduceCtorEq, reduceMul, reducePow, W1, W1P, fs_frz, fs_frz0, fs_env, fs_b, fs_n, fs_put, fs_put0, fs_tmp, fs_const, fs_func, fs_obj, fs_setObj, fs_new, fs_next, fs_mk, fs_H, le_app, le_set, app_get, app_set, app_get0c, app_getkc, app_set0c, app_setkc, List.append_assoc, not_false_eq_true, not_true_eq_false, retE_ret, retP_ret, List.length_append, List.length_set, Nat.le_succ, hb', e8, embP_cells]
      refine ⟨rfl, ?_, ?_⟩
      · rw [fs_Happ hb']; exact hy
      rw [fs_Happ hb', fs_withH hb' (by simp [hb'])]
      have g1 : (F.set y (.lp d env .busy none))[m1]? = some (.box [.int .i64 0]) := by rw [List.getElem?_set_ne d1]; exact h1
      have g2 : (F.set y (.lp d env .busy none))[m2]? = some (.map (embNa l)) := by rw [List.getElem?_set_ne d2]; exact h2
      have g3 : (F.set y (.lp d env .busy none))[m3]? = some (.box [.mp m2]) := by rw [List.getElem?_set_ne d3]; exact h3
      have gy : (F.set y (.lp d env .busy none))[y]? = some (.lp d env .busy none) := List.getElem?_set_self (by rw [hb']; exact ly)
      have hl : (F.set y (.lp d env .busy none)).length = b := by rw [List.length_set]; exact hb'
      generalize F.set y (.lp d env .busy none) = F1 at *
      rw [X_go]
      conv => arg 4; rw [hd]
      simp only []
      have lN : ∀ s' : ByteArray, (AV.bel b (.str s')) = true := fun _ => rfl
      by_cases k1 : okP q = true
      · by_cases k2 : (q.kind == 2) = true
        · by_cases k3 : l.any (q.name == ·) = true
          · obtain ⟨j, hj⟩ := (fndN_spec l q.name 0).1 k3
            have hst : stepP l q = none := by
              have : q.kind = 2 := by simpa using k2
              simp [stepP, k1, this]; simpa using k3
            have w1 : ((1 : Int) > 0) = True := by simp
            have h := True.intro
            repeat' (first
             | (with_reducible first | apply bA | apply bB | apply bC | apply bD | apply bE | apply bF) <;> intro h
             | ((first | refine goCall_norm ?_ | refine goDCall_norm ?_); simp only [AV.norm, AV.normL, W2, W2P, hl, g1, g2, g3, l1, l2, l3, e2, e3, k1, k2, findN, hj, foundOr, keyOK, w1]; first | refine goCall_p (onePat_ok _) (.inl rfl) ?_ | refine goDCall_p (onePat_ok _) (.inl rfl) ?_)
             | skip) <;> simp only [h, ↓upd_eq, ↓envL_cons, WY, reduceIte, reduceEqDiff, reduceAdd, reduceLT, reduceLeDiff, reduceCtorEq, reduceMul, reducePow, W1, W1P, fs_frz, fs_frz0, fs_env, fs_b, fs_n, fs_put, fs_put0, fs_tmp, fs_const, fs_func, fs_obj, fs_setObj, fs_new, fs_next, fs_mk, fs_H, le_app, le_set, app_get, app_set, app_get0c, app_getkc, app_set0c, app_setkc, List.append_assoc, not_false_eq_true, not_true_eq_false, retE_ret, retP_ret, List.length_append, List.length_set, Nat.le_succ, hl, g1, g2, g3, l1, l2, l3, e2, e3, k1, k2, findN, hj, foundOr, keyOK, w1]
            refine ⟨fun _ => rfl, ?_⟩
            unfold roundK
            rw [fs_Happ (by simp [hl])]
            exact ⟨by rw [List.getElem?_set_ne d1.symm]; exact gy, hRf hst⟩
          · have k3' : l.any (q.name == ·) = false := by simpa using k3
            have hj := (fndN_spec l q.name 0).2 k3'
            have hst : stepP l q = some (l ++ [q.name]) := by
              have : q.kind = 2 := by simpa using k2
              simp only [stepP, k1, this, k3']; simp
            have w1 : ((0 : Int) > 0) = False := by simp
            have w2 : IntKind.wrap .i64 (0 + 1) = 1 := by decide
            have h := True.intro
            repeat' (first
             | (with_reducible first | apply bA | apply bB | apply bC | apply bD | apply bE | apply bF) <;> intro h
             | ((first | refine goCall_norm ?_ | refine goDCall_norm ?_); simp only [AV.norm, AV.normL, W2, W2P, hl, g1, g2, g3, l1, l2, l3, e2, e3, k1, k2, findN, hj, foundOr, keyOK, w1, w2, mapPut, embN_app, AV.bel, implies_true, AV.norm]; first | refine goCall_p (onePat_ok _) (.inl rfl) ?_ | refine goDCall_p (onePat_ok _) (.inl rfl) ?_)
             | skip) <;> simp only [h, ↓upd_eq, ↓envL_cons, WY, reduceIte, reduceEqDiff, reduceAdd, reduceLT, reduceLeDiff, reduceCtorEq, reduceMul, reducePow, W1, W1P, fs_frz, fs_frz0, fs_env, fs_b, fs_n, fs_put, fs_put0, fs_tmp, fs_const, fs_func, fs_obj, fs_setObj, fs_new, fs_next, fs_mk, fs_H, le_app, le_set, app_get, app_set, app_get0c, app_getkc, app_set0c, app_setkc, List.append_assoc, not_false_eq_true, not_true_eq_false, retE_ret, retP_ret, List.length_append, List.length_set, Nat.le_succ, hl, g1, g2, g3, l1, l2, l3, e2, e3, k1, k2, findN, hj, foundOr, keyOK, w1, w2, mapPut, embN_app, AV.bel, implies_true, AV.norm]
            all_goals (unfold roundK; rw [fs_Happ (by simp [hl])]; exact ⟨by rw [List.getElem?_set_ne d2.symm]; exact gy, hRt _ hst⟩)
        · have k2' : (q.kind == 2) = false := by simpa using k2
          have hst : stepP l q = some l := by
            have : q.kind ≠ 2 := by simpa using k2
            simp [stepP, k1, this]
          have h := True.intro
          repeat' (first
           | (with_reducible first | apply bA | apply bB | apply bC | apply bD | apply bE | apply bF) <;> intro h
           | ((first | refine goCall_norm ?_ | refine goDCall_norm ?_); simp only [AV.norm, AV.normL, W2, W2P, hl, g1, g2, g3, l1, l2, l3, e2, e3, k1, k2']; first | refine goCall_p (onePat_ok _) (.inl rfl) ?_ | refine goDCall_p (onePat_ok _) (.inl rfl) ?_)
           | skip) <;> simp only [h, ↓upd_eq, ↓envL_cons, WY, reduceIte, reduceEqDiff, reduceAdd, reduceLT, reduceLeDiff, reduceCtorEq, reduceMul, reducePow, W1, W1P, fs_frz, fs_frz0, fs_env, fs_b, fs_n, fs_put, fs_put0, fs_tmp, fs_const, fs_func, fs_obj, fs_setObj, fs_new, fs_next, fs_mk, fs_H, le_app, le_set, app_get, app_set, app_get0c, app_getkc, app_set0c, app_setkc, List.append_assoc, not_false_eq_true, not_true_eq_false, retE_ret, retP_ret, List.length_append, List.length_set, Nat.le_succ, hl, g1, g2, g3, l1, l2, l3, e2, e3, k1, k2']
          have := hRt l hst
          rw [set_same g2] at this
          unfold roundK
          rw [fs_Happ hl]
          exact ⟨gy, this⟩
      · have k1' : okP q = false := by simpa using k1
        have hst : stepP l q = none := by simp [stepP, k1']
        have h := True.intro
        repeat' (first
         | (with_reducible first | apply bA | apply bB | apply bC | apply bD | apply bE | apply bF) <;> intro h
         | ((first | refine goCall_norm ?_ | refine goDCall_norm ?_); simp only [AV.norm, AV.normL, W2, W2P, hl, g1, g2, g3, l1, l2, l3, e2, e3, k1']; first | refine goCall_p (onePat_ok _) (.inl rfl) ?_ | refine goDCall_p (onePat_ok _) (.inl rfl) ?_)
         | skip) <;> simp only [h, ↓upd_eq, ↓envL_cons, WY, reduceIte, reduceEqDiff, reduceAdd, reduceLT, reduceLeDiff, reduceCtorEq, reduceMul, reducePow, W1, W1P, fs_frz, fs_frz0, fs_env, fs_b, fs_n, fs_put, fs_put0, fs_tmp, fs_const, fs_func, fs_obj, fs_setObj, fs_new, fs_next, fs_mk, fs_H, le_app, le_set, app_get, app_set, app_get0c, app_getkc, app_set0c, app_setkc, List.append_assoc, not_false_eq_true, not_true_eq_false, retE_ret, retP_ret, List.length_append, List.length_set, Nat.le_succ, hl, g1, g2, g3, l1, l2, l3, e2, e3, k1']
        refine ⟨fun _ => rfl, ?_⟩
        unfold roundK
        rw [fs_Happ (by simp [hl])]
        exact ⟨by rw [List.getElem?_set_ne d1.symm]; exact gy, hRf hst⟩
    have hI : Iter (hpP H p d env) (H.length + 6) (H.length + 7) := by
      refine ⟨fun r => by simp [hpP], by omega, fun l m hm r => ?_, fun l q Z => ?_⟩
      · intro x hx
        simp only [hpP, List.mem_append, List.mem_cons, List.not_mem_nil, or_false] at hx hm
        rcases hx with hx | rfl | rfl | rfl | rfl | rfl | rfl | rfl
        · exact hm x (.inl hx)
        · exact hm _ (.inr (.inl rfl))
        · rfl
        · exact embNa_bel _ _
        · exact hm _ (.inr (.inr (.inr (.inr (.inl rfl)))))
        · exact hm _ (.inr (.inl rfl))
        · rfl
        · have := hm _ (.inr (.inr (.inr (.inr (.inr (.inr (.inr rfl)))))))
          exact this
      · refine ycalls_fs (p := 8) (d := d) (env := env) C_ok (by simp [hpP]) (by rw [hd]) (by rw [hn]; decide) (by rw [hn, hd]; dsimp only; decide) fun e he1 he2 => ?_
        have f2 : e 2 = .bptr (H.length + 1) 0 := by rw [he1 2 (by decide), he 2 (by decide)]; simp [frz, upd]
        have f3 : e 3 = .bptr (H.length + 3) 0 := by rw [he1 3 (by decide), he 3 (by decide)]; simp [frz, upd]
        refine hround q l (hpP H p d env (true, l) ++ Z) (H.length + 1) (H.length + 2) (H.length + 3) (H.length + 6) _ e (by simp [hpP]) (by simp [hpP]) (by simp [hpP]) (by simp [hpP]) (by omega) (by omega) (by omega) (by omega) (by omega) (by omega) f2 f3 he2 (fun hs => ?_) (fun l' hs => ?_)
        · rw [hs]
          refine ⟨rfl, ?_⟩
          simp [hpP]
          trace_state
        · rw [hs]
          refine ⟨rfl, ?_⟩
          simp [hpP]
          trace_state
    have q1 := pats1_ok hI p [] (c := H.length + 4) (by simp [hpP]) (by omega)
    have e1 : hpP H p d env (true, []) = H ++ [.box (cellsOf (embP p)), .box [.int .i64 0], .map [], .box [.mp (H.length + 2)], .box (cellsOf (embP p))] ++ [.raw (.deferred (some [])), .lp d env .ready none] := by simp [hpP, embNa]
    rw [e1, embP_cells] at q1
    have e2 : (H ++ [AObj.box (cellsOf (embP p)), .box [.int .i64 0], .map [], .box [.mp (H.length + 2)], .box (cellsOf (embP p))]).length + 1 = H.length + 6 := by simp
    rw [embP_cells] at e2
    rw [e2]
    exact q1
  · obtain ⟨rfl, rfl⟩ := hr
    have e2 : (H ++ [AObj.box (cellsOf (embP p)), .box [.int .i64 0], .map [], .box [.mp (H.length + 2)], .box (cellsOf (embP p))]).length = H.length + 5 := by simp
    rw [embP_cells] at e2
    rw [e2]
    rcases hc : chkR p [] with ⟨okk, l⟩
    have hp : chkP p = okk := by rw [chkP, hc]
    rw [hp]
    cases okk
    · refine ⟨.done, some .ret, by simp, hpP_get _ _ _ _ _, ?_⟩
      dsimp only
      have e3 : (hpP H p d env (false, l)).length = H.length + 7 := by simp [hpP]
      rw [e3, hpP_set]
      exact leaveP (by simp [frz, upd]) ⟨rfl, rfl⟩ hbH
    · refine ⟨.ready, none, by simp, hpP_get _ _ _ _ _, ?_⟩
      dsimp only
      have e3 : (hpP H p d env (true, l)).length = H.length + 7 := by simp [hpP]
      rw [e3, X_go, hpP_set]
      have h := True.intro
      repeat' (first
       | (with_reducible first | apply bA | apply bB | apply bC | apply bD | apply bE | apply bF) <;> intro h
       | skip) <;> simp only [h, ↓upd_eq, ↓envL_cons, WY, reduceIte, reduceEqDiff, reduceAdd, reduceLT, reduceLeDiff, reduceCtorEq, reduceMul, reducePow, W1, W1P, fs_frz, fs_frz0, fs_env, fs_b, fs_n, fs_put, fs_put0, fs_tmp, fs_const, fs_func, fs_obj, fs_setObj, fs_new, fs_next, fs_mk, fs_H, le_app, le_set, app_get, app_set, app_get0c, app_getkc, app_set0c, app_setkc, List.append_assoc, not_false_eq_true, not_true_eq_false, retE_ret, retP_ret, List.length_append, List.length_set, Nat.le_succ]
      exact ⟨fun _ => rfl, leaveP (by simp [frz, upd]) ⟨rfl, rfl⟩ hbH⟩

theorem checkPat_ok (p : Pt) : PCalls Try.prog 59 [embP p] (.int .i64 (if chkP p then 0 else 1)) := pcalls rfl fun H => checkPat_in p H

end Go.Proofs.Ytofogicgnldfhaa
