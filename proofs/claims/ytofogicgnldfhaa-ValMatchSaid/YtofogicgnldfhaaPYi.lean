/- Lemmas: matching, and what wakes. No condition. -/
import Derived.Test.YtofogicgnldfhaaPYh
import Derived.Test.YtofogicgnldfhaaPYf

section
/- Walks: Fits, Match. No condition. -/
set_option linter.unusedSimpArgs false
set_option linter.unusedVariables false
set_option maxHeartbeats 4000000
set_option maxRecDepth 100000
namespace Go.Proofs.Ytofogicgnldfhaa
open Go Go.Ab
open Nat (reduceEqDiff reduceAdd reduceLT reduceLeDiff reduceMul reducePow)
attribute [local irreducible] PCalls ACalls CallK GoCall GoDCall GoIf GoGb GoDGb GoO GoD GoX GoDX GoG GoDG GoGv GoDGv Go ALoop

/-- One array of its own, a call's first result, and more. -/
theorem frz_R {f : Nat} {args : List AV} {F J : List AObj} {q v size n : Nat} {es xs ys : List AV} (hq : F.length ≤ q) (hJ : (F ++ J)[q]? = some (.arr v size es)) (hb : AV.belL F.length es = true) (hn : n = es.length)
    (hx : AV.normL ys = xs) (hxb : AV.belL F.length xs = true) (hxm : ∀ x ∈ xs, ∀ r v n, x ≠ .ms r v n)
    (h : ACalls Try.prog f args F fun x G => x = .tup (.ms q v n :: ys) ∧ G = F ++ J) : DCalls Try.prog f args F (.tup (.sl es .no :: xs)) F := by
  refine acalls_frz h fun x G hF _ hx' => ?_
  obtain ⟨rfl, rfl⟩ := hx'
  have hv : frzV [(q, v, es)] (AV.tup (.ms q v n :: ys)).norm = .tup (.sl es .no :: xs) := by
    simp only [AV.norm, AV.normL, hx, frzV, List.map_cons, frzA, true_and, hn, Nat.le_refl, if_true, List.take_length]
    congr 2
    conv => rhs; rw [← List.map_id xs]
    exact List.map_congr_left fun y hy => frzA_other (hxm y hy)
  refine ⟨[(q, v, es)], fun p hp => ?_, by simp, fun y hy => ?_, ?_, ?_, ?_⟩
  · simp only [List.mem_singleton] at hp; subst hp; exact ⟨hq, ⟨size, hJ⟩, hb⟩
  · rw [List.take_left' rfl] at hy; exact hF y hy
  · rw [hv]; simp only [AV.bel, AV.belL, hb, hxb, Bool.and_self, Bool.and_true]
  · exact hv
  · exact List.take_left' rfl
abbrev rc0 : RC := (true, 0, 0, false, 0)
def mtK (F : List AObj) (pt : Pt) (w : Vl) (v : Nat) (L : List Cl) (r : RC) : List AObj := F ++ [.box [.int .i64 pt.kind, .int .i64 pt.fr, .int .i64 pt.to_, .str pt.name, .int .i64 pt.num, .str pt.str, .sl (pt.kids.map embP) .no],
  .box [.int .i64 w.kind, .int .i64 w.num, .str w.str, .int .i64 w.co.kind, .int .i64 w.co.head, .int .i64 w.co.label, .bool w.co.neg, .sl (w.co.kids.map embC) .no, .sl (w.kids.map embV) .no],
  .box [.int .i64 0, .int .i64 0, .int .i64 0, .str ByteArray.empty, .int .i64 0, .int .i64 0, .int .i64 0, .bool false, .sl [] .full, .sl [] .full, .int .i64 0, .bool false, .int .i64 0, .int .i64 0, .int .i64 0],
  mbV (F.length + 4) v L r, marV v L]
theorem mtK_eq (F : List AObj) (pt : Pt) (w : Vl) (v v' : Nat) (L L' : List Cl) (r r' : RC) : hpM (mtK F pt w v L r) (F.length + 3) (F.length + 4) v' L' r' = mtK F pt w v' L' r' := by
  unfold hpM stF mtK
  rw [app_setkc rfl, app_setkc rfl]
  rfl
theorem pat_call (F : List AObj) (pt : Pt) (w : Vl) (hk : okA pt = true) (hr : rightV w = true) (hs : sizeP pt ≤ 1000000) :
    ACalls Try.prog 92 [.bptr (F.length + 3) 0, embP pt, embV w] (F ++ [.box [.int .i64 pt.kind, .int .i64 pt.fr, .int .i64 pt.to_, .str pt.name, .int .i64 pt.num, .str pt.str, .sl (pt.kids.map embP) .no],
  .box [.int .i64 w.kind, .int .i64 w.num, .str w.str, .int .i64 w.co.kind, .int .i64 w.co.head, .int .i64 w.co.label, .bool w.co.neg, .sl (w.co.kids.map embC) .no, .sl (w.kids.map embV) .no],
  .box [.int .i64 0, .int .i64 0, .int .i64 0, .str ByteArray.empty, .int .i64 0, .int .i64 0, .int .i64 0, .bool false, .sl [] .full, .sl [] .full, .int .i64 0, .bool false, .int .i64 0, .int .i64 0, .int .i64 0],
  .box [.sl [] .full, .int .i64 0, .int .i64 0, .int .i64 0, .str ByteArray.empty, .int .i64 0, .int .i64 0, .int .i64 0, .bool false, .sl [] .full, .sl [] .full, .int .i64 0, .bool false, .int .i64 0, .int .i64 0, .int .i64 0, .int .i64 0]])
      fun x G => x = .bool (matP pt w []).b ∧ G = mtK F pt w (matP pt w []).L.length (matP pt w []).L (rcOf (matP pt w []).r rc0) := by
  have h := pat_ok (p := F.length + 3) (q := F.length + 4) pt hk w hr [] 0 rc0 (by simpa using hs) (mtK F pt w 0 [] rc0) (by simp [mtK]) (by simp [mtK]) (by omega)
  rw [mtK_eq, mtK_eq] at h
  simp only [List.length_nil, Nat.sub_zero, Nat.zero_add] at h
  refine acalls_nil (p := F.length + 3) (off := 0) (size := 10) (cs := _) (app_getkc rfl) rfl ?_
  rw [app_setkc rfl, List.append_assoc]
  simp only [List.length_append, List.length_cons, List.length_nil]
  exact h
noncomputable def fitV (pt : Pt) (w : Vl) : AV :=
  if (matP pt w []).b then .tup [.sl ((matP pt w []).L.map embL2) .no, .bool true, embR 0 0 false, .int .i64 0]
  else .tup [.sl [] .no, .bool false, embR (rcOf (matP pt w []).r rc0).2.1 (rcOf (matP pt w []).r rc0).2.2.1 (rcOf (matP pt w []).r rc0).2.2.2.1, .int .i64 (rcOf (matP pt w []).r rc0).2.2.2.2]
theorem fitV_bel (pt : Pt) (w : Vl) : (fitV pt w).bel 0 = true := by
  unfold fitV embR
  split
  · simp only [AV.bel, AV.belL, mapL_bel, Bool.and_self]
  · rfl
theorem fits_no {pt : Pt} {w : Vl} (hk : okA pt = true) (hr : rightV w = true) (hs : sizeP pt ≤ 1000000) (hm : (matP pt w []).b = false) : ∀ F : List AObj,
    DCalls Try.prog 60 [embP pt, embV w] F (.tup [.sl [] .no, .bool false, embR (rcOf (matP pt w []).r rc0).2.1 (rcOf (matP pt w []).r rc0).2.2.1 (rcOf (matP pt w []).r rc0).2.2.2.1, .int .i64 (rcOf (matP pt w []).r rc0).2.2.2.2]) F := by
  intro F
  unfold DCalls
  have qf := pat_call F pt w hk hr hs
  rw [hm] at qf
  generalize (matP pt w []).L = L at *
  generalize rcOf (matP pt w []).r rc0 = r at *
  refine acallsD_text C_ok Try.func60 rfl (by decide) (Nat.le_of_ble_eq_true rfl) (by decide) fun ok => ?_
  rw [Try.results60]
  have h := True.intro
  repeat' (first
   | (with_reducible first | apply bA | apply bB | apply bC | apply bD | apply bE | apply bF) <;> intro h
   | refine go_drawFX (id := 3) C_ok (fun _ => trivial) mixed [(22, 6)] 0 Try.f60.ntmps (by first | (simp; done) | (simp; omega)) rfl (by kernel_rfl) (by decide) ?_
   | skip) <;> simp only [h, ↓upd_eq, ↓envL_cons, WY, reduceIte, reduceEqDiff, reduceAdd, reduceLT, reduceLeDiff, reduceCtorEq, reduceMul, reducePow, W1, W1C, W1P, W1V, W1L, fs_frz, fs_frz0, fs_env, fs_b, fs_n, fs_put, fs_put0, fs_tmp, fs_const, fs_func, fs_obj, fs_setObj, fs_new, fs_next, fs_mk, fs_H, le_app, le_set, app_get, app_set, app_get0c, app_getkc, app_set0c, app_setkc, List.append_assoc, not_false_eq_true, not_true_eq_false, retE_ret, retP_ret, List.length_append, List.length_set, Nat.le_succ, AV.belL, AV.bel, retD_ret, retD_normal]
  refine fsCall qf (.inl rfl) fun x G hG hlen => ?_
  obtain ⟨rfl, rfl⟩ := hG
  refine ⟨fun hbel => ?_, ?_⟩
  · rw [List.take_left' rfl] at hbel
    rw [mtK, List.take_left' rfl]; exact hbel
  · simp only [mtK, mbV, marV]
    have h := True.intro
    repeat' (first
     | (with_reducible first | apply bA | apply bB | apply bC | apply bD | apply bE | apply bF) <;> intro h
     | refine go_drawFX (id := 3) C_ok (fun _ => trivial) mixed [(22, 6)] 0 Try.f60.ntmps (by first | (simp; done) | (simp; omega)) rfl (by kernel_rfl) (by decide) ?_
     | skip) <;> simp only [h, ↓upd_eq, ↓envL_cons, WY, reduceIte, reduceEqDiff, reduceAdd, reduceLT, reduceLeDiff, reduceCtorEq, reduceMul, reducePow, W1, W1C, W1P, W1V, W1L, fs_frz, fs_frz0, fs_env, fs_b, fs_n, fs_put, fs_put0, fs_tmp, fs_const, fs_func, fs_obj, fs_setObj, fs_new, fs_next, fs_mk, fs_H, le_app, le_set, app_get, app_set, app_get0c, app_getkc, app_set0c, app_setkc, List.append_assoc, not_false_eq_true, not_true_eq_false, retE_ret, retP_ret, List.length_append, List.length_set, Nat.le_succ, embR, AV.belL, AV.bel, retD_ret, retD_normal]
    all_goals first | exact ⟨rfl, List.take_left' rfl⟩ | exact List.take_left' rfl
theorem fits_yes {pt : Pt} {w : Vl} (hk : okA pt = true) (hr : rightV w = true) (hs : sizeP pt ≤ 1000000) (hm : (matP pt w []).b = true) : ∀ F : List AObj,
    DCalls Try.prog 60 [embP pt, embV w] F (.tup [.sl ((matP pt w []).L.map embL2) .no, .bool true, embR 0 0 false, .int .i64 0]) F := by
  intro F
  have qf := pat_call F pt w hk hr hs
  rw [hm, matP_none pt hk w [] hm] at qf
  simp only [rcOf] at qf
  generalize (matP pt w []).L = L at *
  refine frz_R (q := F.length + 4) (v := L.length) (size := 10) (es := L.map embL2) (n := L.length) (ys := [.bool true, .agg [.int .i64 0, .int .i64 0, .int .i64 0, .str ByteArray.empty, .int .i64 0, .int .i64 0, .int .i64 0, .bool false, .sl [] .full, .sl [] .full, .int .i64 0, .bool false, .int .i64 0, .int .i64 0, .int .i64 0], .int .i64 0]) (J := [.box [.int .i64 pt.kind, .int .i64 pt.fr, .int .i64 pt.to_, .str pt.name, .int .i64 pt.num, .str pt.str, .sl (pt.kids.map embP) .no],
  .box [.int .i64 w.kind, .int .i64 w.num, .str w.str, .int .i64 w.co.kind, .int .i64 w.co.head, .int .i64 w.co.label, .bool w.co.neg, .sl (w.co.kids.map embC) .no, .sl (w.kids.map embV) .no],
  .box [.int .i64 0, .int .i64 0, .int .i64 0, .str ByteArray.empty, .int .i64 0, .int .i64 0, .int .i64 0, .bool false, .sl [] .full, .sl [] .full, .int .i64 0, .bool false, .int .i64 0, .int .i64 0, .int .i64 0],
  mbV (F.length + 4) L.length L rc0, marV L.length L]) (by omega) (app_getkc rfl) (mapL_bel _ _) (by simp) rfl rfl (by simp [embR]) ?_
  refine acalls_text C_ok Try.func60 rfl (by decide) (Nat.le_of_ble_eq_true rfl) (by decide) fun ok => ?_
  rw [Try.results60]
  have h := True.intro
  repeat' (first
   | (with_reducible first | apply bA | apply bB | apply bC | apply bD | apply bE | apply bF) <;> intro h
   | refine go_drawFX (id := 3) C_ok (fun _ => trivial) mixed [(22, 6)] 0 Try.f60.ntmps (by first | (simp; done) | (simp; omega)) rfl (by kernel_rfl) (by decide) ?_
   | skip) <;> simp only [h, ↓upd_eq, ↓envL_cons, WY, reduceIte, reduceEqDiff, reduceAdd, reduceLT, reduceLeDiff, reduceCtorEq, reduceMul, reducePow, W1, W1C, W1P, W1V, W1L, fs_frz, fs_frz0, fs_env, fs_b, fs_n, fs_put, fs_put0, fs_tmp, fs_const, fs_func, fs_obj, fs_setObj, fs_new, fs_next, fs_mk, fs_H, le_app, le_set, app_get, app_set, app_get0c, app_getkc, app_set0c, app_setkc, List.append_assoc, not_false_eq_true, not_true_eq_false, retE_ret, retP_ret, List.length_append, List.length_set, Nat.le_succ, AV.belL, AV.bel]
  refine fsCall qf (.inl rfl) fun x G hG hlen => ?_
  obtain ⟨rfl, rfl⟩ := hG
  refine ⟨fun hbel => ?_, ?_⟩
  · rw [List.take_left' rfl] at hbel
    rw [mtK, List.take_left' rfl]; exact hbel
  · simp only [mtK, mbV, marV]
    have h := True.intro
    repeat' (first
     | (with_reducible first | apply bA | apply bB | apply bC | apply bD | apply bE | apply bF) <;> intro h
     | refine go_drawFX (id := 3) C_ok (fun _ => trivial) mixed [(22, 6)] 0 Try.f60.ntmps (by first | (simp; done) | (simp; omega)) rfl (by kernel_rfl) (by decide) ?_
     | skip) <;> simp only [h, ↓upd_eq, ↓envL_cons, WY, reduceIte, reduceEqDiff, reduceAdd, reduceLT, reduceLeDiff, reduceCtorEq, reduceMul, reducePow, W1, W1C, W1P, W1V, W1L, fs_frz, fs_frz0, fs_env, fs_b, fs_n, fs_put, fs_put0, fs_tmp, fs_const, fs_func, fs_obj, fs_setObj, fs_new, fs_next, fs_mk, fs_H, le_app, le_set, app_get, app_set, app_get0c, app_getkc, app_set0c, app_setkc, List.append_assoc, not_false_eq_true, not_true_eq_false, retE_ret, retP_ret, List.length_append, List.length_set, Nat.le_succ, embR, AV.belL, AV.bel]
    all_goals rfl
theorem fits_ok (pt : Pt) (w : Vl) (hk : okA pt = true) (hr : rightV w = true) (hs : sizeP pt ≤ 1000000) : PCalls Try.prog 60 [embP pt, embV w] (fitV pt w) := by
  refine pcalls_of (fitV_bel pt w) ?_
  unfold fitV
  cases hm : (matP pt w []).b with
  | true => exact fits_yes hk hr hs hm
  | false => exact fits_no hk hr hs hm

end Go.Proofs.Ytofogicgnldfhaa
end

section
/- Walks: Match. No condition. -/
set_option linter.unusedSimpArgs false
set_option linter.unusedVariables false
set_option maxHeartbeats 4000000
set_option maxRecDepth 100000
namespace Go.Proofs.Ytofogicgnldfhaa
open Go Go.Ab
open Nat (reduceEqDiff reduceAdd reduceLT reduceLeDiff reduceMul reducePow)
attribute [local irreducible] PCalls ACalls CallK GoCall GoDCall GoIf GoGb GoDGb GoO GoD GoX GoDX GoG GoDG GoGv GoDGv Go ALoop

theorem okP_step {l l' : List ByteArray} {p : Pt} (h : stepP l p = some l') : okP p = true := by
  unfold stepP at h
  by_cases ho : okP p = false
  · rw [if_pos ho] at h; cases h
  · simpa using ho
mutual
theorem okA_chk : ∀ (p : Pt) (l : List ByteArray), (chkR p l).1 = true → okA p = true
  | .mk k f t m n s ks, l, h => by
    rw [chkR] at h
    cases hs : stepP l (.mk k f t m n s ks) with
    | none => rw [hs] at h; cases h
    | some l' =>
      rw [hs] at h
      rw [okA, Bool.and_eq_true]
      exact ⟨okP_step hs, okAL_chk ks l' h⟩
theorem okAL_chk : ∀ (ks : List Pt) (l : List ByteArray), (chkRL ks l).1 = true → okAL ks = true
  | [], _, _ => rfl
  | x :: xs, l, h => by
    rw [chkRL] at h
    by_cases hx : (chkR x l).1 = true
    · rw [if_pos hx] at h
      rw [okAL, Bool.and_eq_true]
      exact ⟨okA_chk x l hx, okAL_chk xs _ h⟩
    · rw [if_neg hx] at h; exact absurd h hx
end
theorem okA_of {p : Pt} (h : chkP p = true) : okA p = true := okA_chk p [] h
noncomputable def matchA (pt : Pt) (w : Vl) : AV := if chkP pt = true ∧ rightV w = true then fitV pt w else .tup [.sl [] .no, .bool false, embR 0 0 false, .int .i64 1]
theorem vMatch_ok (pt : Pt) (w : Vl) (hs : sizeP pt ≤ 1000000) : PCalls Try.prog 23 [embP pt, embV w] (matchA pt w) := by
  have q1 := checkPat_ok pt
  have q2 := vright_ok w
  have n1 : ((1 : Int) != 0) = true := rfl
  have n0 : ((0 : Int) != 0) = false := rfl
  by_cases h1 : chkP pt = true
  · rw [if_pos h1] at q1
    cases h2 : rightV w with
    | true =>
      rw [h2] at q2
      have e : matchA pt w = fitV pt w := by unfold matchA; rw [if_pos ⟨h1, h2⟩]
      rw [e]
      have q3 := fits_ok pt w (okA_of h1) h2 hs
      unfold fitV embR at q3 ⊢
      have hb := fitV_bel pt w
      unfold fitV embR at hb
      split at q3
      · next hm =>
        rw [if_pos hm] at hb ⊢
        refine pcalls_text C_ok Try.func23 rfl (by decide) (Nat.le_of_ble_eq_true rfl) (by decide) hb fun ok H => ?_
        rw [Try.results23]
        have h := True.intro
        repeat' (first
         | (with_reducible first | apply bA | apply bB | apply bC | apply bD | apply bE | apply bF) <;> intro h
         | ((first | refine goCall_norm ?_ | refine goDCall_norm ?_); simp only [AV.norm, AV.normL, W2, W2C, W2P, W2V, W2L, n0, AV.belL, AV.bel]; first | refine goCall_p (q1) (.inl rfl) ?_ | refine goCall_p (q2) (.inl rfl) ?_ | refine goCall_p (q3) (.inl rfl) ?_ | refine goDCall_p (q1) (.inl rfl) ?_ | refine goDCall_p (q2) (.inl rfl) ?_ | refine goDCall_p (q3) (.inl rfl) ?_)
         | skip) <;> simp only [h, ↓upd_eq, ↓envL_cons, WZ, reduceIte, reduceEqDiff, reduceAdd, reduceLT, reduceLeDiff, reduceCtorEq, reduceMul, reducePow, W1, W1C, W1P, W1V, W1L, n0, AV.belL, AV.bel]
      · next hm =>
        rw [if_neg hm] at hb ⊢
        refine pcalls_text C_ok Try.func23 rfl (by decide) (Nat.le_of_ble_eq_true rfl) (by decide) hb fun ok H => ?_
        rw [Try.results23]
        have h := True.intro
        repeat' (first
         | (with_reducible first | apply bA | apply bB | apply bC | apply bD | apply bE | apply bF) <;> intro h
         | ((first | refine goCall_norm ?_ | refine goDCall_norm ?_); simp only [AV.norm, AV.normL, W2, W2C, W2P, W2V, W2L, n0, AV.belL, AV.bel]; first | refine goCall_p (q1) (.inl rfl) ?_ | refine goCall_p (q2) (.inl rfl) ?_ | refine goCall_p (q3) (.inl rfl) ?_ | refine goDCall_p (q1) (.inl rfl) ?_ | refine goDCall_p (q2) (.inl rfl) ?_ | refine goDCall_p (q3) (.inl rfl) ?_)
         | skip) <;> simp only [h, ↓upd_eq, ↓envL_cons, WZ, reduceIte, reduceEqDiff, reduceAdd, reduceLT, reduceLeDiff, reduceCtorEq, reduceMul, reducePow, W1, W1C, W1P, W1V, W1L, n0, AV.belL, AV.bel]
    | false =>
      rw [h2] at q2
      have e : matchA pt w = .tup [.sl [] .no, .bool false, embR 0 0 false, .int .i64 1] := by unfold matchA; rw [if_neg (fun h => by rw [h2] at h; cases h.2)]
      rw [e]
      unfold embR
      refine pcalls_text C_ok Try.func23 rfl (by decide) (Nat.le_of_ble_eq_true rfl) (by decide) rfl fun ok H => ?_
      rw [Try.results23]
      have h := True.intro
      repeat' (first
       | (with_reducible first | apply bA | apply bB | apply bC | apply bD | apply bE | apply bF) <;> intro h
       | ((first | refine goCall_norm ?_ | refine goDCall_norm ?_); simp only [AV.norm, AV.normL, W2, W2C, W2P, W2V, W2L, n0, AV.belL, AV.bel]; first | refine goCall_p (q1) (.inl rfl) ?_ | refine goCall_p (q2) (.inl rfl) ?_ | refine goDCall_p (q1) (.inl rfl) ?_ | refine goDCall_p (q2) (.inl rfl) ?_)
       | skip) <;> simp only [h, ↓upd_eq, ↓envL_cons, WZ, reduceIte, reduceEqDiff, reduceAdd, reduceLT, reduceLeDiff, reduceCtorEq, reduceMul, reducePow, W1, W1C, W1P, W1V, W1L, n0, AV.belL, AV.bel]
  · rw [if_neg h1] at q1
    have e : matchA pt w = .tup [.sl [] .no, .bool false, embR 0 0 false, .int .i64 1] := by unfold matchA; rw [if_neg (fun h => h1 h.1)]
    rw [e]
    unfold embR
    refine pcalls_text C_ok Try.func23 rfl (by decide) (Nat.le_of_ble_eq_true rfl) (by decide) rfl fun ok H => ?_
    rw [Try.results23]
    have h := True.intro
    repeat' (first
     | (with_reducible first | apply bA | apply bB | apply bC | apply bD | apply bE | apply bF) <;> intro h
     | ((first | refine goCall_norm ?_ | refine goDCall_norm ?_); simp only [AV.norm, AV.normL, W2, W2C, W2P, W2V, W2L, n1, AV.belL, AV.bel]; first | refine goCall_p (q1) (.inl rfl) ?_ | refine goCall_p (q2) (.inl rfl) ?_ | refine goDCall_p (q1) (.inl rfl) ?_ | refine goDCall_p (q2) (.inl rfl) ?_)
     | skip) <;> simp only [h, ↓upd_eq, ↓envL_cons, WZ, reduceIte, reduceEqDiff, reduceAdd, reduceLT, reduceLeDiff, reduceCtorEq, reduceMul, reducePow, W1, W1C, W1P, W1V, W1L, n1, AV.belL, AV.bel]

end Go.Proofs.Ytofogicgnldfhaa
end

section
/- Walks: the little values, wakes. No condition. -/
set_option linter.unusedSimpArgs false
set_option linter.unusedVariables false
set_option maxHeartbeats 4000000
set_option maxRecDepth 100000
namespace Go.Proofs.Ytofogicgnldfhaa
open Go Go.Ab
open Nat (reduceEqDiff reduceAdd reduceLT reduceLeDiff reduceMul reducePow)
attribute [local irreducible] PCalls ACalls CallK GoCall GoDCall GoIf GoGb GoDGb GoO GoD GoX GoDX GoG GoDG GoGv GoDGv Go ALoop

theorem joinC_co {c d j : K} (hc : c.ok = true) (hd : d.ok = true) (h : joinR c d = some j) : joinC c.co d.co = j.co ∧ joinE c.co d.co = 0 := by
  have e := joinO_co hc hd
  rw [h] at e
  refine ⟨by unfold joinC; rw [e], ?_⟩
  unfold joinE
  rw [e, if_pos (by rw [K.right_co, K.right_co, hc, hd]; rfl)]; rfl
abbrev fiveV : Vl := .mk 1 5 ByteArray.empty noneC []
abbrev injV (h : Int) : Co := .mk 5 h 0 false [idCo]
abbrev projV (h l : Int) (n : Bool) : Co := .mk 6 h l n [idCo]
theorem injV_co (h : Int) : injV h = (K.inj h .id).co := rfl
theorem projV_co (h l : Int) (n : Bool) : projV h l n = (K.proj h l n .id).co := rfl
theorem inj_ok (h : Int) : PCalls Try.prog 32 [.int .i64 h] (embC (injV h)) := by
  refine pcalls_text C_ok Try.func32 rfl (by decide) (Nat.le_of_ble_eq_true rfl) (by decide) (embC_bel _ _) fun ok H => ?_
  rw [Try.results32]
  have h := True.intro
  repeat' (first
   | (with_reducible first | apply bA | apply bB | apply bC | apply bD | apply bE | apply bF) <;> intro h
   | skip) <;> simp only [h, ↓upd_eq, ↓envL_cons, WZ, reduceIte, reduceEqDiff, reduceAdd, reduceLT, reduceLeDiff, reduceCtorEq, reduceMul, reducePow, W1, W1C, W1V, AV.bel, AV.belL]
  all_goals rfl
theorem proj_ok (h l : Int) : PCalls Try.prog 33 [.int .i64 h, .int .i64 l] (embC (projV h l false)) := by
  refine pcalls_text C_ok Try.func33 rfl (by decide) (Nat.le_of_ble_eq_true rfl) (by decide) (embC_bel _ _) fun ok H => ?_
  rw [Try.results33]
  have h := True.intro
  repeat' (first
   | (with_reducible first | apply bA | apply bB | apply bC | apply bD | apply bE | apply bF) <;> intro h
   | skip) <;> simp only [h, ↓upd_eq, ↓envL_cons, WZ, reduceIte, reduceEqDiff, reduceAdd, reduceLT, reduceLeDiff, reduceCtorEq, reduceMul, reducePow, W1, W1C, W1V, AV.bel, AV.belL]
  all_goals rfl
theorem five_ok : PCalls Try.prog 57 [] (embV fiveV) := by
  refine pcalls_text C_ok Try.func57 rfl (by decide) (Nat.le_of_ble_eq_true rfl) (by decide) (embV_bel _ _) fun ok H => ?_
  rw [Try.results57]
  have h := True.intro
  repeat' (first
   | (with_reducible first | apply bA | apply bB | apply bC | apply bD | apply bE | apply bF) <;> intro h
   | skip) <;> simp only [h, ↓upd_eq, ↓envL_cons, WZ, reduceIte, reduceEqDiff, reduceAdd, reduceLT, reduceLeDiff, reduceCtorEq, reduceMul, reducePow, W1, W1C, W1V, AV.bel, AV.belL]
  all_goals rfl
abbrev vI : Vl := .mk 1 5 ByteArray.empty (injV 1) []
theorem wk1 : wrapA fiveV (injV 1) = .ok vI := by
  obtain ⟨h1, h2⟩ := joinC_co (c := .id) (d := .inj 1 .id) (j := .inj 1 .id) rfl rfl (by rw [joinR_some]; exact ⟨joinK_id _, rfl⟩)
  have e : dOf fiveV = K.id.co := rfl
  unfold wrapA
  rw [e, injV_co, h1, h2, if_neg (by decide), if_neg (by decide), if_neg (by decide), if_pos (by decide)]
  rfl
theorem wk2 : wrapA vI (projV 1 2 false) = .ok fiveV := by
  obtain ⟨h1, h2⟩ := joinC_co (c := .inj 1 .id) (d := .proj 1 2 false .id) (j := .id) rfl rfl (by rw [joinR_some]; exact ⟨by rw [joinK_inj_proj, if_pos rfl]; exact joinK_id _, rfl⟩)
  have e : dOf vI = (K.inj 1 .id).co := rfl
  unfold wrapA
  rw [e, projV_co, h1, h2, if_neg (by decide), if_neg (by decide), if_pos (by decide)]
  rfl
theorem wk3 : wrapA vI (projV 2 2 false) = .blame 2 false := by
  obtain ⟨h1, h2⟩ := joinC_co (c := .inj 1 .id) (d := .proj 2 2 false .id) (j := .fail 2 false) rfl rfl (by rw [joinR_some]; exact ⟨by rw [joinK_inj_proj, if_neg (by decide)], rfl⟩)
  have e : dOf vI = (K.inj 1 .id).co := rfl
  unfold wrapA
  rw [e, projV_co, h1, h2, if_neg (by decide), if_pos (by decide)]
  rfl
abbrev xS : ByteArray := ⟨#[120]⟩
abbrev patX : Pt := .mk 2 0 0 xS 0 ByteArray.empty []
theorem wk4 : matchA patX vI = .tup [.sl [embL2 (xS, vI)] .no, .bool true, embR 0 0 false, .int .i64 0] := by
  have hm : matP patX vI [] = ⟨[(xS, vI)], true, .none⟩ := by rw [matP_eq _ _ _ (by decide), if_neg (by decide), if_pos (by decide)]; rfl
  unfold matchA fitV
  rw [if_pos ⟨by decide, by decide⟩, hm]
  rfl
theorem wk5 : toldV vI = false := by decide
theorem wk6 : hasT fiveV (leafT 1) = true := by decide
theorem wk7 : hasT fiveV (leafT 2) = false := by decide
theorem wk8 : sameV fiveV fiveV = true := by decide
theorem wk9 : rightV vI = true := by decide

end Go.Proofs.Ytofogicgnldfhaa
end

section
/- Walks: wakes. No condition. -/
set_option linter.unusedSimpArgs false
set_option linter.unusedVariables false
set_option maxHeartbeats 4000000
set_option maxRecDepth 100000
namespace Go.Proofs.Ytofogicgnldfhaa
open Go Go.Ab
open Nat (reduceEqDiff reduceAdd reduceLT reduceLeDiff reduceMul reducePow)
attribute [local irreducible] PCalls ACalls CallK GoCall GoDCall GoIf GoGb GoDGb GoO GoD GoX GoDX GoG GoDG GoGv GoDGv Go ALoop

theorem wakes_ok : PCalls Try.prog 21 [] (.bool true) := by
  have c1 := five_ok
  have c2 := inj_ok 1
  have c3 := proj_ok 1 2
  have c4 := proj_ok 2 2
  have l1 := leaf_ok 1
  have l2 := leaf_ok 2
  have q1 := vWrap_ok fiveV (injV 1)
  rw [wrapR, if_pos (by decide), wk1, resW] at q1
  have q2 := vWrap_ok vI (projV 1 2 false)
  rw [wrapR, if_pos (by decide), wk2, resW] at q2
  have q3 := vWrap_ok vI (projV 2 2 false)
  rw [wrapR, if_pos (by decide), wk3, resW] at q3
  have q4 := vMatch_ok patX vI (by decide)
  rw [wk4] at q4
  have q7 := vsame_ok fiveV fiveV
  rw [wk8] at q7
  have q8 := vcheck_ok vI
  rw [wk9] at q8
  have q9 := vtold_ok vI
  rw [wk5] at q9
  have qa := vHas_ok fiveV (leafT 1)
  rw [wk6] at qa
  have qb := vHas_ok fiveV (leafT 2)
  rw [wk7] at qb
  have k5 : (vI.co.kind == 5) = true := by decide
  generalize fiveV = x at *
  generalize vI = y at *
  generalize injV 1 = d1 at *
  generalize projV 1 2 false = d2 at *
  generalize projV 2 2 false = d3 at *
  generalize noneV = z at *
  generalize hl1 : leafT 1 = t1 at *
  generalize hl2 : leafT 2 = t2 at *
  simp only [embR, if_true] at *
  have n0 : ((0 : Int) == 0) = true := rfl
  have n2 : ((2 : Int) == 2) = true := rfl
  refine pcalls_text C_ok Try.func21 rfl (by decide) (Nat.le_of_ble_eq_true rfl) (by decide) rfl fun ok H => ?_
  rw [Try.results21]
  repeat' first
   | (apply goGb_op (fun _ _ => rfl); (· intro hb; (try simp only [Bool.and_eq_true, Bool.not_eq_true', Bool.or_eq_false_iff, Bool.not_eq_false'] at hb); simp only [hb, ↓upd_eq, ↓envL_cons, WZ, reduceIte, reduceEqDiff, reduceAdd, reduceLT, reduceLeDiff, reduceCtorEq, reduceMul, reducePow, W1, W1C, W1P, W1V, W1L, W5, n0, n2, k5, AV.belL, AV.bel, List.length_cons, List.length_nil]; exact ⟨rfl, trivial⟩))
   | (apply goGb_call (c1); (· intro hb; (try simp only [Bool.and_eq_true, Bool.not_eq_true', Bool.or_eq_false_iff, Bool.not_eq_false'] at hb); simp only [hb, AV.norm, AV.normL, W2, W2C, W2P, W2V, W2L, ↓upd_eq, ↓envL_cons, WZ, reduceIte, reduceEqDiff, reduceAdd, reduceLT, reduceLeDiff, reduceCtorEq, reduceMul, reducePow, W1, W1C, W1P, W1V, W1L, W5, n0, n2, k5, AV.belL, AV.bel, List.length_cons, List.length_nil]; rfl))
   | (apply goGb_call (c2); (· intro hb; (try simp only [Bool.and_eq_true, Bool.not_eq_true', Bool.or_eq_false_iff, Bool.not_eq_false'] at hb); simp only [hb, AV.norm, AV.normL, W2, W2C, W2P, W2V, W2L, ↓upd_eq, ↓envL_cons, WZ, reduceIte, reduceEqDiff, reduceAdd, reduceLT, reduceLeDiff, reduceCtorEq, reduceMul, reducePow, W1, W1C, W1P, W1V, W1L, W5, n0, n2, k5, AV.belL, AV.bel, List.length_cons, List.length_nil]; rfl))
   | (apply goGb_call (c3); (· intro hb; (try simp only [Bool.and_eq_true, Bool.not_eq_true', Bool.or_eq_false_iff, Bool.not_eq_false'] at hb); simp only [hb, AV.norm, AV.normL, W2, W2C, W2P, W2V, W2L, ↓upd_eq, ↓envL_cons, WZ, reduceIte, reduceEqDiff, reduceAdd, reduceLT, reduceLeDiff, reduceCtorEq, reduceMul, reducePow, W1, W1C, W1P, W1V, W1L, W5, n0, n2, k5, AV.belL, AV.bel, List.length_cons, List.length_nil]; rfl))
   | (apply goGb_call (c4); (· intro hb; (try simp only [Bool.and_eq_true, Bool.not_eq_true', Bool.or_eq_false_iff, Bool.not_eq_false'] at hb); simp only [hb, AV.norm, AV.normL, W2, W2C, W2P, W2V, W2L, ↓upd_eq, ↓envL_cons, WZ, reduceIte, reduceEqDiff, reduceAdd, reduceLT, reduceLeDiff, reduceCtorEq, reduceMul, reducePow, W1, W1C, W1P, W1V, W1L, W5, n0, n2, k5, AV.belL, AV.bel, List.length_cons, List.length_nil]; rfl))
   | (apply goGb_call (l1); (· intro hb; (try simp only [Bool.and_eq_true, Bool.not_eq_true', Bool.or_eq_false_iff, Bool.not_eq_false'] at hb); simp only [hb, AV.norm, AV.normL, W2, W2C, W2P, W2V, W2L, ↓upd_eq, ↓envL_cons, WZ, reduceIte, reduceEqDiff, reduceAdd, reduceLT, reduceLeDiff, reduceCtorEq, reduceMul, reducePow, W1, W1C, W1P, W1V, W1L, W5, n0, n2, k5, AV.belL, AV.bel, List.length_cons, List.length_nil]; rfl))
   | (apply goGb_call (l2); (· intro hb; (try simp only [Bool.and_eq_true, Bool.not_eq_true', Bool.or_eq_false_iff, Bool.not_eq_false'] at hb); simp only [hb, AV.norm, AV.normL, W2, W2C, W2P, W2V, W2L, ↓upd_eq, ↓envL_cons, WZ, reduceIte, reduceEqDiff, reduceAdd, reduceLT, reduceLeDiff, reduceCtorEq, reduceMul, reducePow, W1, W1C, W1P, W1V, W1L, W5, n0, n2, k5, AV.belL, AV.bel, List.length_cons, List.length_nil]; rfl))
   | (apply goGb_call (q1); (· intro hb; (try simp only [Bool.and_eq_true, Bool.not_eq_true', Bool.or_eq_false_iff, Bool.not_eq_false'] at hb); simp only [hb, AV.norm, AV.normL, W2, W2C, W2P, W2V, W2L, ↓upd_eq, ↓envL_cons, WZ, reduceIte, reduceEqDiff, reduceAdd, reduceLT, reduceLeDiff, reduceCtorEq, reduceMul, reducePow, W1, W1C, W1P, W1V, W1L, W5, n0, n2, k5, AV.belL, AV.bel, List.length_cons, List.length_nil]; rfl))
   | (apply goGb_call (q2); (· intro hb; (try simp only [Bool.and_eq_true, Bool.not_eq_true', Bool.or_eq_false_iff, Bool.not_eq_false'] at hb); simp only [hb, AV.norm, AV.normL, W2, W2C, W2P, W2V, W2L, ↓upd_eq, ↓envL_cons, WZ, reduceIte, reduceEqDiff, reduceAdd, reduceLT, reduceLeDiff, reduceCtorEq, reduceMul, reducePow, W1, W1C, W1P, W1V, W1L, W5, n0, n2, k5, AV.belL, AV.bel, List.length_cons, List.length_nil]; rfl))
   | (apply goGb_call (q3); (· intro hb; (try simp only [Bool.and_eq_true, Bool.not_eq_true', Bool.or_eq_false_iff, Bool.not_eq_false'] at hb); simp only [hb, AV.norm, AV.normL, W2, W2C, W2P, W2V, W2L, ↓upd_eq, ↓envL_cons, WZ, reduceIte, reduceEqDiff, reduceAdd, reduceLT, reduceLeDiff, reduceCtorEq, reduceMul, reducePow, W1, W1C, W1P, W1V, W1L, W5, n0, n2, k5, AV.belL, AV.bel, List.length_cons, List.length_nil]; rfl))
   | (apply goGb_call (q4); (· intro hb; (try simp only [Bool.and_eq_true, Bool.not_eq_true', Bool.or_eq_false_iff, Bool.not_eq_false'] at hb); simp only [hb, AV.norm, AV.normL, W2, W2C, W2P, W2V, W2L, ↓upd_eq, ↓envL_cons, WZ, reduceIte, reduceEqDiff, reduceAdd, reduceLT, reduceLeDiff, reduceCtorEq, reduceMul, reducePow, W1, W1C, W1P, W1V, W1L, W5, n0, n2, k5, AV.belL, AV.bel, List.length_cons, List.length_nil]; rfl))
   | (apply goGb_call (q7); (· intro hb; (try simp only [Bool.and_eq_true, Bool.not_eq_true', Bool.or_eq_false_iff, Bool.not_eq_false'] at hb); simp only [hb, AV.norm, AV.normL, W2, W2C, W2P, W2V, W2L, ↓upd_eq, ↓envL_cons, WZ, reduceIte, reduceEqDiff, reduceAdd, reduceLT, reduceLeDiff, reduceCtorEq, reduceMul, reducePow, W1, W1C, W1P, W1V, W1L, W5, n0, n2, k5, AV.belL, AV.bel, List.length_cons, List.length_nil]; rfl))
   | (apply goGb_call (q8); (· intro hb; (try simp only [Bool.and_eq_true, Bool.not_eq_true', Bool.or_eq_false_iff, Bool.not_eq_false'] at hb); simp only [hb, AV.norm, AV.normL, W2, W2C, W2P, W2V, W2L, ↓upd_eq, ↓envL_cons, WZ, reduceIte, reduceEqDiff, reduceAdd, reduceLT, reduceLeDiff, reduceCtorEq, reduceMul, reducePow, W1, W1C, W1P, W1V, W1L, W5, n0, n2, k5, AV.belL, AV.bel, List.length_cons, List.length_nil]; rfl))
   | (apply goGb_call (q9); (· intro hb; (try simp only [Bool.and_eq_true, Bool.not_eq_true', Bool.or_eq_false_iff, Bool.not_eq_false'] at hb); simp only [hb, AV.norm, AV.normL, W2, W2C, W2P, W2V, W2L, ↓upd_eq, ↓envL_cons, WZ, reduceIte, reduceEqDiff, reduceAdd, reduceLT, reduceLeDiff, reduceCtorEq, reduceMul, reducePow, W1, W1C, W1P, W1V, W1L, W5, n0, n2, k5, AV.belL, AV.bel, List.length_cons, List.length_nil]; rfl))
   | (apply goGb_call (qa); (· intro hb; (try simp only [Bool.and_eq_true, Bool.not_eq_true', Bool.or_eq_false_iff, Bool.not_eq_false'] at hb); simp only [hb, AV.norm, AV.normL, W2, W2C, W2P, W2V, W2L, ↓upd_eq, ↓envL_cons, WZ, reduceIte, reduceEqDiff, reduceAdd, reduceLT, reduceLeDiff, reduceCtorEq, reduceMul, reducePow, W1, W1C, W1P, W1V, W1L, W5, n0, n2, k5, AV.belL, AV.bel, List.length_cons, List.length_nil]; rfl))
   | (apply goGb_call (qb); (· intro hb; (try simp only [Bool.and_eq_true, Bool.not_eq_true', Bool.or_eq_false_iff, Bool.not_eq_false'] at hb); simp only [hb, AV.norm, AV.normL, W2, W2C, W2P, W2V, W2L, ↓upd_eq, ↓envL_cons, WZ, reduceIte, reduceEqDiff, reduceAdd, reduceLT, reduceLeDiff, reduceCtorEq, reduceMul, reducePow, W1, W1C, W1P, W1V, W1L, W5, n0, n2, k5, AV.belL, AV.bel, List.length_cons, List.length_nil]; rfl))
   | (apply goDGb_op (fun _ _ => rfl); (· intro hb; (try simp only [Bool.and_eq_true, Bool.not_eq_true', Bool.or_eq_false_iff, Bool.not_eq_false'] at hb); simp only [hb, ↓upd_eq, ↓envL_cons, WZ, reduceIte, reduceEqDiff, reduceAdd, reduceLT, reduceLeDiff, reduceCtorEq, reduceMul, reducePow, W1, W1C, W1P, W1V, W1L, W5, n0, n2, k5, AV.belL, AV.bel, List.length_cons, List.length_nil]; exact ⟨rfl, trivial⟩))
   | (apply goDGb_call (c1); (· intro hb; (try simp only [Bool.and_eq_true, Bool.not_eq_true', Bool.or_eq_false_iff, Bool.not_eq_false'] at hb); simp only [hb, AV.norm, AV.normL, W2, W2C, W2P, W2V, W2L, ↓upd_eq, ↓envL_cons, WZ, reduceIte, reduceEqDiff, reduceAdd, reduceLT, reduceLeDiff, reduceCtorEq, reduceMul, reducePow, W1, W1C, W1P, W1V, W1L, W5, n0, n2, k5, AV.belL, AV.bel, List.length_cons, List.length_nil]; rfl))
   | (apply goDGb_call (c2); (· intro hb; (try simp only [Bool.and_eq_true, Bool.not_eq_true', Bool.or_eq_false_iff, Bool.not_eq_false'] at hb); simp only [hb, AV.norm, AV.normL, W2, W2C, W2P, W2V, W2L, ↓upd_eq, ↓envL_cons, WZ, reduceIte, reduceEqDiff, reduceAdd, reduceLT, reduceLeDiff, reduceCtorEq, reduceMul, reducePow, W1, W1C, W1P, W1V, W1L, W5, n0, n2, k5, AV.belL, AV.bel, List.length_cons, List.length_nil]; rfl))
   | (apply goDGb_call (c3); (· intro hb; (try simp only [Bool.and_eq_true, Bool.not_eq_true', Bool.or_eq_false_iff, Bool.not_eq_false'] at hb); simp only [hb, AV.norm, AV.normL, W2, W2C, W2P, W2V, W2L, ↓upd_eq, ↓envL_cons, WZ, reduceIte, reduceEqDiff, reduceAdd, reduceLT, reduceLeDiff, reduceCtorEq, reduceMul, reducePow, W1, W1C, W1P, W1V, W1L, W5, n0, n2, k5, AV.belL, AV.bel, List.length_cons, List.length_nil]; rfl))
   | (apply goDGb_call (c4); (· intro hb; (try simp only [Bool.and_eq_true, Bool.not_eq_true', Bool.or_eq_false_iff, Bool.not_eq_false'] at hb); simp only [hb, AV.norm, AV.normL, W2, W2C, W2P, W2V, W2L, ↓upd_eq, ↓envL_cons, WZ, reduceIte, reduceEqDiff, reduceAdd, reduceLT, reduceLeDiff, reduceCtorEq, reduceMul, reducePow, W1, W1C, W1P, W1V, W1L, W5, n0, n2, k5, AV.belL, AV.bel, List.length_cons, List.length_nil]; rfl))
   | (apply goDGb_call (l1); (· intro hb; (try simp only [Bool.and_eq_true, Bool.not_eq_true', Bool.or_eq_false_iff, Bool.not_eq_false'] at hb); simp only [hb, AV.norm, AV.normL, W2, W2C, W2P, W2V, W2L, ↓upd_eq, ↓envL_cons, WZ, reduceIte, reduceEqDiff, reduceAdd, reduceLT, reduceLeDiff, reduceCtorEq, reduceMul, reducePow, W1, W1C, W1P, W1V, W1L, W5, n0, n2, k5, AV.belL, AV.bel, List.length_cons, List.length_nil]; rfl))
   | (apply goDGb_call (l2); (· intro hb; (try simp only [Bool.and_eq_true, Bool.not_eq_true', Bool.or_eq_false_iff, Bool.not_eq_false'] at hb); simp only [hb, AV.norm, AV.normL, W2, W2C, W2P, W2V, W2L, ↓upd_eq, ↓envL_cons, WZ, reduceIte, reduceEqDiff, reduceAdd, reduceLT, reduceLeDiff, reduceCtorEq, reduceMul, reducePow, W1, W1C, W1P, W1V, W1L, W5, n0, n2, k5, AV.belL, AV.bel, List.length_cons, List.length_nil]; rfl))
   | (apply goDGb_call (q1); (· intro hb; (try simp only [Bool.and_eq_true, Bool.not_eq_true', Bool.or_eq_false_iff, Bool.not_eq_false'] at hb); simp only [hb, AV.norm, AV.normL, W2, W2C, W2P, W2V, W2L, ↓upd_eq, ↓envL_cons, WZ, reduceIte, reduceEqDiff, reduceAdd, reduceLT, reduceLeDiff, reduceCtorEq, reduceMul, reducePow, W1, W1C, W1P, W1V, W1L, W5, n0, n2, k5, AV.belL, AV.bel, List.length_cons, List.length_nil]; rfl))
   | (apply goDGb_call (q2); (· intro hb; (try simp only [Bool.and_eq_true, Bool.not_eq_true', Bool.or_eq_false_iff, Bool.not_eq_false'] at hb); simp only [hb, AV.norm, AV.normL, W2, W2C, W2P, W2V, W2L, ↓upd_eq, ↓envL_cons, WZ, reduceIte, reduceEqDiff, reduceAdd, reduceLT, reduceLeDiff, reduceCtorEq, reduceMul, reducePow, W1, W1C, W1P, W1V, W1L, W5, n0, n2, k5, AV.belL, AV.bel, List.length_cons, List.length_nil]; rfl))
   | (apply goDGb_call (q3); (· intro hb; (try simp only [Bool.and_eq_true, Bool.not_eq_true', Bool.or_eq_false_iff, Bool.not_eq_false'] at hb); simp only [hb, AV.norm, AV.normL, W2, W2C, W2P, W2V, W2L, ↓upd_eq, ↓envL_cons, WZ, reduceIte, reduceEqDiff, reduceAdd, reduceLT, reduceLeDiff, reduceCtorEq, reduceMul, reducePow, W1, W1C, W1P, W1V, W1L, W5, n0, n2, k5, AV.belL, AV.bel, List.length_cons, List.length_nil]; rfl))
   | (apply goDGb_call (q4); (· intro hb; (try simp only [Bool.and_eq_true, Bool.not_eq_true', Bool.or_eq_false_iff, Bool.not_eq_false'] at hb); simp only [hb, AV.norm, AV.normL, W2, W2C, W2P, W2V, W2L, ↓upd_eq, ↓envL_cons, WZ, reduceIte, reduceEqDiff, reduceAdd, reduceLT, reduceLeDiff, reduceCtorEq, reduceMul, reducePow, W1, W1C, W1P, W1V, W1L, W5, n0, n2, k5, AV.belL, AV.bel, List.length_cons, List.length_nil]; rfl))
   | (apply goDGb_call (q7); (· intro hb; (try simp only [Bool.and_eq_true, Bool.not_eq_true', Bool.or_eq_false_iff, Bool.not_eq_false'] at hb); simp only [hb, AV.norm, AV.normL, W2, W2C, W2P, W2V, W2L, ↓upd_eq, ↓envL_cons, WZ, reduceIte, reduceEqDiff, reduceAdd, reduceLT, reduceLeDiff, reduceCtorEq, reduceMul, reducePow, W1, W1C, W1P, W1V, W1L, W5, n0, n2, k5, AV.belL, AV.bel, List.length_cons, List.length_nil]; rfl))
   | (apply goDGb_call (q8); (· intro hb; (try simp only [Bool.and_eq_true, Bool.not_eq_true', Bool.or_eq_false_iff, Bool.not_eq_false'] at hb); simp only [hb, AV.norm, AV.normL, W2, W2C, W2P, W2V, W2L, ↓upd_eq, ↓envL_cons, WZ, reduceIte, reduceEqDiff, reduceAdd, reduceLT, reduceLeDiff, reduceCtorEq, reduceMul, reducePow, W1, W1C, W1P, W1V, W1L, W5, n0, n2, k5, AV.belL, AV.bel, List.length_cons, List.length_nil]; rfl))
   | (apply goDGb_call (q9); (· intro hb; (try simp only [Bool.and_eq_true, Bool.not_eq_true', Bool.or_eq_false_iff, Bool.not_eq_false'] at hb); simp only [hb, AV.norm, AV.normL, W2, W2C, W2P, W2V, W2L, ↓upd_eq, ↓envL_cons, WZ, reduceIte, reduceEqDiff, reduceAdd, reduceLT, reduceLeDiff, reduceCtorEq, reduceMul, reducePow, W1, W1C, W1P, W1V, W1L, W5, n0, n2, k5, AV.belL, AV.bel, List.length_cons, List.length_nil]; rfl))
   | (apply goDGb_call (qa); (· intro hb; (try simp only [Bool.and_eq_true, Bool.not_eq_true', Bool.or_eq_false_iff, Bool.not_eq_false'] at hb); simp only [hb, AV.norm, AV.normL, W2, W2C, W2P, W2V, W2L, ↓upd_eq, ↓envL_cons, WZ, reduceIte, reduceEqDiff, reduceAdd, reduceLT, reduceLeDiff, reduceCtorEq, reduceMul, reducePow, W1, W1C, W1P, W1V, W1L, W5, n0, n2, k5, AV.belL, AV.bel, List.length_cons, List.length_nil]; rfl))
   | (apply goDGb_call (qb); (· intro hb; (try simp only [Bool.and_eq_true, Bool.not_eq_true', Bool.or_eq_false_iff, Bool.not_eq_false'] at hb); simp only [hb, AV.norm, AV.normL, W2, W2C, W2P, W2V, W2L, ↓upd_eq, ↓envL_cons, WZ, reduceIte, reduceEqDiff, reduceAdd, reduceLT, reduceLeDiff, reduceCtorEq, reduceMul, reducePow, W1, W1C, W1P, W1V, W1L, W5, n0, n2, k5, AV.belL, AV.bel, List.length_cons, List.length_nil]; rfl))
   | (with_reducible first | apply bA | apply bB | apply bC | apply bD | apply bE | apply bF) <;> intro h <;> try simp only [h, ↓upd_eq, ↓envL_cons, WZ, reduceIte, reduceEqDiff, reduceAdd, reduceLT, reduceLeDiff, reduceCtorEq, reduceMul, reducePow, W1, W1C, W1P, W1V, W1L, W5, n0, n2, k5, AV.belL, AV.bel, List.length_cons, List.length_nil]
   | ((first | refine goCall_norm ?_ | refine goDCall_norm ?_); simp only [AV.norm, AV.normL, W2, W2C, W2P, W2V, W2L, n0, n2, k5, AV.belL, AV.bel, List.length_cons, List.length_nil]; first | refine goCall_p (c1) (.inl rfl) ?_ | refine goCall_p (c2) (.inl rfl) ?_ | refine goCall_p (c3) (.inl rfl) ?_ | refine goCall_p (c4) (.inl rfl) ?_ | refine goCall_p (l1) (.inl rfl) ?_ | refine goCall_p (l2) (.inl rfl) ?_ | refine goCall_p (q1) (.inl rfl) ?_ | refine goCall_p (q2) (.inl rfl) ?_ | refine goCall_p (q3) (.inl rfl) ?_ | refine goCall_p (q4) (.inl rfl) ?_ | refine goCall_p (q7) (.inl rfl) ?_ | refine goCall_p (q8) (.inl rfl) ?_ | refine goCall_p (q9) (.inl rfl) ?_ | refine goCall_p (qa) (.inl rfl) ?_ | refine goCall_p (qb) (.inl rfl) ?_ | refine goDCall_p (c1) (.inl rfl) ?_ | refine goDCall_p (c2) (.inl rfl) ?_ | refine goDCall_p (c3) (.inl rfl) ?_ | refine goDCall_p (c4) (.inl rfl) ?_ | refine goDCall_p (l1) (.inl rfl) ?_ | refine goDCall_p (l2) (.inl rfl) ?_ | refine goDCall_p (q1) (.inl rfl) ?_ | refine goDCall_p (q2) (.inl rfl) ?_ | refine goDCall_p (q3) (.inl rfl) ?_ | refine goDCall_p (q4) (.inl rfl) ?_ | refine goDCall_p (q7) (.inl rfl) ?_ | refine goDCall_p (q8) (.inl rfl) ?_ | refine goDCall_p (q9) (.inl rfl) ?_ | refine goDCall_p (qa) (.inl rfl) ?_ | refine goDCall_p (qb) (.inl rfl) ?_)
   | refine go_draw (id := 2) C_ok (fun _ => trivial) mixed 2 Try.f21.ntmps rfl (by kernel_rfl) (by decide) ?_
   | refine go_draw (id := 3) C_ok (fun _ => trivial) mixed 2 Try.f21.ntmps rfl (by kernel_rfl) (by decide) ?_
   | refine go_draw (id := 5) C_ok (fun _ => trivial) mixed 0 Try.f21.ntmps rfl (by kernel_rfl) (by decide) ?_
   | simp only [↓upd_eq, ↓envL_cons, WZ, reduceIte, reduceEqDiff, reduceAdd, reduceLT, reduceLeDiff, reduceCtorEq, reduceMul, reducePow, W1, W1C, W1P, W1V, W1L, W5, n0, n2, k5, AV.belL, AV.bel, List.length_cons, List.length_nil]
  all_goals (simp at h)

end Go.Proofs.Ytofogicgnldfhaa
end

