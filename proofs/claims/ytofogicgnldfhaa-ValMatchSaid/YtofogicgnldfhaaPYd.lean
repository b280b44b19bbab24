/- Lemmas: values wrapped. No condition. -/
import Derived.Test.YtofogicgnldfhaaPYc
import Derived.Test.YtofogicgnldfhaaPHa

section
/- Walks: a value wrapped. No condition. -/
set_option linter.unusedSimpArgs false
set_option linter.unusedVariables false
set_option maxHeartbeats 4000000
set_option maxRecDepth 100000
namespace Go.Proofs.Ytofogicgnldfhaa
open Go Go.Ab
open Nat (reduceEqDiff reduceAdd reduceLT reduceLeDiff reduceMul reducePow)
attribute [local irreducible] PCalls ACalls CallK GoCall GoDCall GoIf GoGb GoDGb GoO GoD GoX GoDX GoG GoDG GoGv GoDGv Go ALoop

/-- A result without a value. -/
def embR (k l : Int) (n : Bool) : AV := .agg [.int .i64 k, .int .i64 0, .int .i64 0, .str ByteArray.empty, .int .i64 0, .int .i64 0, .int .i64 0, .bool false, .sl [] .no, .sl [] .no, .int .i64 l, .bool n, .int .i64 0, .int .i64 0, .int .i64 0]
/-- What comes of wrapping. -/
inductive WR where
  | err
  | blame (l : Int) (n : Bool)
  | ok (w : Vl)
def resW : WR → AV
  | .err => .tup [embV noneV, embR 0 0 false, .int .i64 8]
  | .blame l n => .tup [embV noneV, embR 2 l n, .int .i64 0]
  | .ok w => .tup [embV w, embR 0 0 false, .int .i64 0]
def setC (v : Vl) (c : Co) : Vl := .mk v.kind v.num v.str c v.kids
abbrev idCo : Co := .mk 1 0 0 false []
def dOf (v : Vl) : Co := if noneB v.co then idCo else v.co
noncomputable def wrapA (v : Vl) (c : Co) : WR :=
  if joinE (dOf v) c ≠ 0 then .err
  else if (joinC (dOf v) c).kind = 7 then .blame (joinC (dOf v) c).label (joinC (dOf v) c).neg
  else if (joinC (dOf v) c).kind = 1 then .ok (setC v noneC)
  else if aroundV (setC v (joinC (dOf v) c)) then .ok (setC v (joinC (dOf v) c)) else .err

theorem resW_bel (r : WR) : (resW r).bel 0 = true := by cases r <;> simp [resW, AV.bel, AV.belL, embV_bel, embR]
theorem blame_ok (c : Co) : PCalls Try.prog 98 [embC c] (embR 2 c.label c.neg) := by
  unfold embR
  refine pcalls_text C_ok Try.func98 rfl (by decide) (Nat.le_of_ble_eq_true rfl) (by decide) rfl fun ok H => ?_
  rw [Try.results98]
  have h := True.intro
  repeat' (first
   | (with_reducible first | apply bA | apply bB | apply bC | apply bD | apply bE | apply bF) <;> intro h
   | skip) <;> simp only [h, ↓upd_eq, ↓envL_cons, WZ, reduceIte, reduceEqDiff, reduceAdd, reduceLT, reduceLeDiff, reduceCtorEq, reduceMul, reducePow, W1, W1C, W1V]
theorem vAround_ok (v : Vl) (c : Co) : PCalls Try.prog 71 [embV v, embC c] (resW (wrapA v c)) := by
  cases hn : noneB v.co with
  | true =>
    have q1 := cJoinC_ok idCo c
    have hd : dOf v = idCo := by simp [dOf, hn]
    refine pcalls_text C_ok Try.func71 rfl (by decide) (Nat.le_of_ble_eq_true rfl) (by decide) (resW_bel _) fun ok H => ?_
    rw [Try.results71]
    have h := True.intro
    repeat' (first
     | (with_reducible first | apply bA | apply bB | apply bC | apply bD | apply bE | apply bF) <;> intro h
     | ((first | refine goCall_norm ?_ | refine goDCall_norm ?_); simp only [AV.norm, AV.normL, W2, W2C, W2V, hn, embR]; first | refine goCall_p (none_ok _) (.inl rfl) ?_ | refine goCall_p (q1) (.inl rfl) ?_ | refine goCall_p (blame_ok _) (.inl rfl) ?_ | refine goCall_p (varound_ok _) (.inl rfl) ?_ | refine goDCall_p (none_ok _) (.inl rfl) ?_ | refine goDCall_p (q1) (.inl rfl) ?_ | refine goDCall_p (blame_ok _) (.inl rfl) ?_ | refine goDCall_p (varound_ok _) (.inl rfl) ?_)
     | skip) <;> simp only [h, ↓upd_eq, ↓envL_cons, WZ, reduceIte, reduceEqDiff, reduceAdd, reduceLT, reduceLeDiff, reduceCtorEq, reduceMul, reducePow, W1, W1C, W1V, hn, embR]
    all_goals (simp_all [wrapA, resW, setC, embR])
  | false =>
    have q1 := cJoinC_ok v.co c
    have hd : dOf v = v.co := by simp [dOf, hn]
    refine pcalls_text C_ok Try.func71 rfl (by decide) (Nat.le_of_ble_eq_true rfl) (by decide) (resW_bel _) fun ok H => ?_
    rw [Try.results71]
    have h := True.intro
    repeat' (first
     | (with_reducible first | apply bA | apply bB | apply bC | apply bD | apply bE | apply bF) <;> intro h
     | ((first | refine goCall_norm ?_ | refine goDCall_norm ?_); simp only [AV.norm, AV.normL, W2, W2C, W2V, hn, embR]; first | refine goCall_p (none_ok _) (.inl rfl) ?_ | refine goCall_p (q1) (.inl rfl) ?_ | refine goCall_p (blame_ok _) (.inl rfl) ?_ | refine goCall_p (varound_ok _) (.inl rfl) ?_ | refine goDCall_p (none_ok _) (.inl rfl) ?_ | refine goDCall_p (q1) (.inl rfl) ?_ | refine goDCall_p (blame_ok _) (.inl rfl) ?_ | refine goDCall_p (varound_ok _) (.inl rfl) ?_)
     | skip) <;> simp only [h, ↓upd_eq, ↓envL_cons, WZ, reduceIte, reduceEqDiff, reduceAdd, reduceLT, reduceLeDiff, reduceCtorEq, reduceMul, reducePow, W1, W1C, W1V, hn, embR]
    all_goals (simp_all [wrapA, resW, setC, embR])
noncomputable def wrapR (v : Vl) (c : Co) : AV := if (rightV v && rightC c) = true then resW (wrapA v c) else .tup [embV noneV, embR 0 0 false, .int .i64 1]
theorem wrapR_bel (v : Vl) (c : Co) : (wrapR v c).bel 0 = true := by unfold wrapR; split; exact resW_bel _; simp [AV.bel, AV.belL, embV_bel, embR]
theorem resW_shape (r : WR) : ∃ w k l n e, resW r = .tup [embV w, embR k l n, .int .i64 e] := by
  cases r
  · exact ⟨_, _, _, _, _, rfl⟩
  · exact ⟨_, _, _, _, _, rfl⟩
  · exact ⟨_, _, _, _, _, rfl⟩
theorem vWrap_ok (v : Vl) (c : Co) : PCalls Try.prog 30 [embV v, embC c] (wrapR v c) := by
  have q1 := vAround_ok v c
  have hw : (rightV v && rightC c) = true → wrapR v c = resW (wrapA v c) := fun h => by rw [wrapR, if_pos h]
  have hw' : (rightV v && rightC c) = false → wrapR v c = .tup [embV noneV, embR 0 0 false, .int .i64 1] := fun h => by rw [wrapR, if_neg (by simp [h])]
  have hb := wrapR_bel v c
  generalize wrapR v c = R at *
  obtain ⟨w, k, l, n, e, hr⟩ := resW_shape (wrapA v c)
  rw [hr] at q1
  refine pcalls_text C_ok Try.func30 rfl (by decide) (Nat.le_of_ble_eq_true rfl) (by decide) hb fun ok H => ?_
  rw [Try.results30]
  have h := True.intro
  repeat' (first
   | (with_reducible first | apply bA | apply bB | apply bC | apply bD | apply bE | apply bF) <;> intro h
   | ((first | refine goCall_norm ?_ | refine goDCall_norm ?_); simp only [AV.norm, AV.normL, W2, W2C, W2V, embR]; first | refine goCall_p (vright_ok _) (.inl rfl) ?_ | refine goCall_p (ccheck_ok _) (.inl rfl) ?_ | refine goCall_p (q1) (.inl rfl) ?_ | refine goDCall_p (vright_ok _) (.inl rfl) ?_ | refine goDCall_p (ccheck_ok _) (.inl rfl) ?_ | refine goDCall_p (q1) (.inl rfl) ?_)
   | skip) <;> simp only [h, ↓upd_eq, ↓envL_cons, WZ, reduceIte, reduceEqDiff, reduceAdd, reduceLT, reduceLeDiff, reduceCtorEq, reduceMul, reducePow, W1, W1C, W1V, embR]
  all_goals first
    | exact (hw' (by cases h2 : rightC c <;> simp_all)).symm
    | (rw [hw (by cases h2 : rightC c <;> simp_all)]; exact hr.symm)

end Go.Proofs.Ytofogicgnldfhaa
end

section
/- Walks: a value's parts. No condition. -/
set_option linter.unusedSimpArgs false
set_option linter.unusedVariables false
set_option maxHeartbeats 4000000
set_option maxRecDepth 100000
namespace Go.Proofs.Ytofogicgnldfhaa
open Go Go.Ab
open Nat (reduceEqDiff reduceAdd reduceLT reduceLeDiff reduceMul reducePow)
attribute [local irreducible] PCalls ACalls CallK GoCall GoDCall GoIf GoGb GoDGb GoO GoD GoX GoDX GoG GoDG GoGv GoDGv Go ALoop

/-- The parts. -/
inductive PR where
  | err
  | blame (l : Int) (n : Bool)
  | ok (a b : Vl)
def resP : PR → AV
  | .err => .tup [embV noneV, embV noneV, embR 0 0 false, .int .i64 8]
  | .blame l n => .tup [embV noneV, embV noneV, embR 2 l n, .int .i64 0]
  | .ok a b => .tup [embV a, embV b, embR 0 0 false, .int .i64 0]
theorem resP_bel (r : PR) : (resP r).bel 0 = true := by cases r <;> simp [resP, AV.bel, AV.belL, embV_bel, embR]
noncomputable def twoV (v : Vl) : PR :=
  if (v.kind ≠ 5 ∧ v.kind ≠ 7) ∨ v.co.kind = 5 then .err
  else if noneB v.co then .ok (v.kid 0) (v.kid 1)
  else match wrapA (v.kid 0) (v.co.kid 0) with
    | .err => .err
    | .blame l n => .blame l n
    | .ok a => match wrapA (v.kid 1) (if v.kind = 5 then v.co.kid 1 else v.co) with
      | .err => .err
      | .blame l n => .blame l n
      | .ok b => .ok a b
theorem ownV_of {v : Vl} (h : rightV v = true) : ownV v = true := by rw [rightV_eq, Bool.and_eq_true] at h; exact h.1
theorem rightV_kid {v : Vl} (h : rightV v = true) {i : Nat} (hi : i < v.kids.length) : rightV (v.kid i) = true := by
  rw [rightV_eq, Bool.and_eq_true, allN_iff] at h; exact h.2 i hi
theorem co_two {v : Vl} (h : rightV v = true) (hn : noneB v.co = false) (hk : v.kind = 5) (h5 : v.co.kind ≠ 5) : v.co.kind = 3 ∧ v.co.kids.length = 2 ∧ rightC v.co = true := by
  have ho := ownV_one (ownV_of h)
  have ha : aroundV v = true := by simp only [oneV, Bool.and_eq_true] at ho; exact ho.2
  simp only [aroundV, hn, Bool.false_or, Bool.and_eq_true] at ha
  obtain ⟨hr, ha⟩ := ha
  have hk3 : v.co.kind = 3 := by
    rw [if_neg h5] at ha
    split at ha
    · assumption
    · split at ha
      · simp [hk] at ha
      · split at ha
        · simp [hk] at ha
        · simp at ha
  have hc := rightC_ok hr
  refine ⟨hk3, ?_, hr⟩
  simp [okC, hk3] at hc; omega
theorem co_one {v : Vl} (h : rightV v = true) (hn : noneB v.co = false) (hk : v.kind = 7) (h5 : v.co.kind ≠ 5) : v.co.kind = 4 ∧ v.co.kids.length = 1 ∧ rightC v.co = true := by
  have ho := ownV_one (ownV_of h)
  have ha : aroundV v = true := by simp only [oneV, Bool.and_eq_true] at ho; exact ho.2
  simp only [aroundV, hn, Bool.false_or, Bool.and_eq_true] at ha
  obtain ⟨hr, ha⟩ := ha
  have hk3 : v.co.kind = 4 := by
    rw [if_neg h5] at ha
    split at ha
    · simp [hk] at ha
    · split at ha
      · assumption
      · split at ha
        · simp [hk] at ha
        · simp at ha
  have hc := rightC_ok hr
  refine ⟨hk3, ?_, hr⟩
  simp [okC, hk3] at hc; omega

theorem vTwo_err (v : Vl) (he : (v.kind ≠ 5 ∧ v.kind ≠ 7) ∨ v.co.kind = 5) : PCalls Try.prog 76 [embV v] (resP .err) := by
  rcases he with ⟨h1, h2⟩ | h3
  · have b1 : (v.kind != 5) = true := by simpa using h1
    have b2 : (v.kind != 7) = true := by simpa using h2
    refine pcalls_text C_ok Try.func76 rfl (by decide) (Nat.le_of_ble_eq_true rfl) (by decide) (resP_bel _) fun ok H => ?_
    rw [Try.results76]
    have h := True.intro
    repeat' (first
     | (with_reducible first | apply bA | apply bB | apply bC | apply bD | apply bE | apply bF) <;> intro h
     | refine go_draw (id := 3) C_ok (fun _ => trivial) mixed 1 Try.f76.ntmps rfl (by kernel_rfl) (by decide) ?_
     | refine go_draw (id := 5) C_ok (fun _ => trivial) mixed 1 Try.f76.ntmps rfl (by kernel_rfl) (by decide) ?_
     | refine go_draw (id := 11) C_ok (fun _ => trivial) mixed 2 Try.f76.ntmps rfl (by kernel_rfl) (by decide) ?_
     | refine go_drawX (id := 13) C_ok (fun _ => trivial) mixed [(10, 2), (10, 3)] 0 Try.f76.ntmps rfl (by kernel_rfl) (by decide) ?_
     | refine go_drawX (id := 16) C_ok (fun _ => trivial) mixed [(90, 2)] 0 Try.f76.ntmps rfl (by kernel_rfl) (by decide) ?_
     | skip) <;> simp only [h, ↓upd_eq, ↓envL_cons, WZ, reduceIte, reduceEqDiff, reduceAdd, reduceLT, reduceLeDiff, reduceCtorEq, reduceMul, reducePow, W1, W1C, W1V, b1, b2]
    all_goals rfl
  · have b3 : (v.co.kind == 5) = true := by simpa using h3
    refine pcalls_text C_ok Try.func76 rfl (by decide) (Nat.le_of_ble_eq_true rfl) (by decide) (resP_bel _) fun ok H => ?_
    rw [Try.results76]
    have h := True.intro
    repeat' (first
     | (with_reducible first | apply bA | apply bB | apply bC | apply bD | apply bE | apply bF) <;> intro h
     | refine go_draw (id := 3) C_ok (fun _ => trivial) mixed 1 Try.f76.ntmps rfl (by kernel_rfl) (by decide) ?_
     | refine go_draw (id := 5) C_ok (fun _ => trivial) mixed 1 Try.f76.ntmps rfl (by kernel_rfl) (by decide) ?_
     | refine go_draw (id := 11) C_ok (fun _ => trivial) mixed 2 Try.f76.ntmps rfl (by kernel_rfl) (by decide) ?_
     | refine go_drawX (id := 13) C_ok (fun _ => trivial) mixed [(10, 2), (10, 3)] 0 Try.f76.ntmps rfl (by kernel_rfl) (by decide) ?_
     | refine go_drawX (id := 16) C_ok (fun _ => trivial) mixed [(90, 2)] 0 Try.f76.ntmps rfl (by kernel_rfl) (by decide) ?_
     | skip) <;> simp only [h, ↓upd_eq, ↓envL_cons, WZ, reduceIte, reduceEqDiff, reduceAdd, reduceLT, reduceLeDiff, reduceCtorEq, reduceMul, reducePow, W1, W1C, W1V, b3]
    all_goals rfl
theorem vTwo_none (v : Vl) (h : rightV v = true) (he : ¬ ((v.kind ≠ 5 ∧ v.kind ≠ 7) ∨ v.co.kind = 5)) (hn : noneB v.co = true) : PCalls Try.prog 76 [embV v] (resP (.ok (v.kid 0) (v.kid 1))) := by
  have hk : v.kind = 7 ∨ v.kind = 5 := by omega
  have hl := oneV_two (ownV_one (ownV_of h)) hk
  have g0 : (v.kids.map embV).getD 0 .any = embV (v.kid 0) := mapV_kid (by omega)
  have g1 : (v.kids.map embV).getD 1 .any = embV (v.kid 1) := mapV_kid (by omega)
  have c0 : ((0 : Int) < (2 : Nat)) = True := by simp
  have c1 : ((1 : Int) < (2 : Nat)) = True := by simp
  have t0 : Int.toNat 0 = 0 := rfl
  have t1 : Int.toNat 1 = 1 := rfl
  have z1 : ((0 : Int) ≤ 1) = True := by simp
  have w2 : (v.co.kind == 5) = false := by simp; omega
  rcases hk with h7 | h5
  · have b1 : (v.kind != 5) = true := by simp; omega
    have b2 : (v.kind != 7) = false := by simpa using h7
    refine pcalls_text C_ok Try.func76 rfl (by decide) (Nat.le_of_ble_eq_true rfl) (by decide) (resP_bel _) fun ok H => ?_
    rw [Try.results76]
    have h := True.intro
    repeat' (first
     | (with_reducible first | apply bA | apply bB | apply bC | apply bD | apply bE | apply bF) <;> intro h
     | ((first | refine goCall_norm ?_ | refine goDCall_norm ?_); simp only [AV.norm, AV.normL, W2, W2C, W2V, Go.Ab.W3, Int.reduceAdd, Int.reduceLT, Int.reduceToNat, Int.reduceBEq, Int.reduceBNe, Int.reduceLE, b1, b2, w2, hn, hl, g0, g1, c0, c1, t0, t1, z1, Int.le_refl, List.length_map, embR]; first | refine goCall_p (none_ok _) (.inl rfl) ?_ | refine goDCall_p (none_ok _) (.inl rfl) ?_)
     | refine go_draw (id := 3) C_ok (fun _ => trivial) mixed 1 Try.f76.ntmps rfl (by kernel_rfl) (by decide) ?_
     | refine go_draw (id := 5) C_ok (fun _ => trivial) mixed 1 Try.f76.ntmps rfl (by kernel_rfl) (by decide) ?_
     | refine go_draw (id := 11) C_ok (fun _ => trivial) mixed 2 Try.f76.ntmps rfl (by kernel_rfl) (by decide) ?_
     | refine go_drawX (id := 13) C_ok (fun _ => trivial) mixed [(10, 2), (10, 3)] 0 Try.f76.ntmps rfl (by kernel_rfl) (by decide) ?_
     | refine go_drawX (id := 16) C_ok (fun _ => trivial) mixed [(90, 2)] 0 Try.f76.ntmps rfl (by kernel_rfl) (by decide) ?_
     | refine goRound ?_ C_ok Try.f76.ntmps rfl (by decide)
     | skip) <;> simp only [h, ↓upd_eq, ↓envL_cons, WZ, reduceIte, reduceEqDiff, reduceAdd, reduceLT, reduceLeDiff, reduceCtorEq, reduceMul, reducePow, W1, W1C, W1V, Go.Ab.W3, Int.reduceAdd, Int.reduceLT, Int.reduceToNat, Int.reduceBEq, Int.reduceBNe, Int.reduceLE, b1, b2, w2, hn, hl, g0, g1, c0, c1, t0, t1, z1, Int.le_refl, List.length_map, embR, cutNormal_normal]
    all_goals rfl
  · have b1 : (v.kind != 5) = false := by simpa using h5
    refine pcalls_text C_ok Try.func76 rfl (by decide) (Nat.le_of_ble_eq_true rfl) (by decide) (resP_bel _) fun ok H => ?_
    rw [Try.results76]
    have h := True.intro
    repeat' (first
     | (with_reducible first | apply bA | apply bB | apply bC | apply bD | apply bE | apply bF) <;> intro h
     | ((first | refine goCall_norm ?_ | refine goDCall_norm ?_); simp only [AV.norm, AV.normL, W2, W2C, W2V, Go.Ab.W3, Int.reduceAdd, Int.reduceLT, Int.reduceToNat, Int.reduceBEq, Int.reduceBNe, Int.reduceLE, b1, w2, hn, hl, g0, g1, c0, c1, t0, t1, z1, Int.le_refl, List.length_map, embR]; first | refine goCall_p (none_ok _) (.inl rfl) ?_ | refine goDCall_p (none_ok _) (.inl rfl) ?_)
     | refine go_draw (id := 3) C_ok (fun _ => trivial) mixed 1 Try.f76.ntmps rfl (by kernel_rfl) (by decide) ?_
     | refine go_draw (id := 5) C_ok (fun _ => trivial) mixed 1 Try.f76.ntmps rfl (by kernel_rfl) (by decide) ?_
     | refine go_draw (id := 11) C_ok (fun _ => trivial) mixed 2 Try.f76.ntmps rfl (by kernel_rfl) (by decide) ?_
     | refine go_drawX (id := 13) C_ok (fun _ => trivial) mixed [(10, 2), (10, 3)] 0 Try.f76.ntmps rfl (by kernel_rfl) (by decide) ?_
     | refine go_drawX (id := 16) C_ok (fun _ => trivial) mixed [(90, 2)] 0 Try.f76.ntmps rfl (by kernel_rfl) (by decide) ?_
     | refine goRound ?_ C_ok Try.f76.ntmps rfl (by decide)
     | skip) <;> simp only [h, ↓upd_eq, ↓envL_cons, WZ, reduceIte, reduceEqDiff, reduceAdd, reduceLT, reduceLeDiff, reduceCtorEq, reduceMul, reducePow, W1, W1C, W1V, Go.Ab.W3, Int.reduceAdd, Int.reduceLT, Int.reduceToNat, Int.reduceBEq, Int.reduceBNe, Int.reduceLE, b1, w2, hn, hl, g0, g1, c0, c1, t0, t1, z1, Int.le_refl, List.length_map, embR, cutNormal_normal]
    all_goals rfl
theorem vTwo_pair (v : Vl) (h : rightV v = true) (hk5 : v.kind = 5) (h5 : v.co.kind ≠ 5) (hn : noneB v.co = false) : PCalls Try.prog 76 [embV v] (resP (twoV v)) := by
  have hk : v.kind = 7 ∨ v.kind = 5 := .inr hk5
  have hl := oneV_two (ownV_one (ownV_of h)) hk
  have g0 : (v.kids.map embV).getD 0 .any = embV (v.kid 0) := mapV_kid (by omega)
  have g1 : (v.kids.map embV).getD 1 .any = embV (v.kid 1) := mapV_kid (by omega)
  have c0 : ((0 : Int) < (2 : Nat)) = True := by simp
  have c1 : ((1 : Int) < (2 : Nat)) = True := by simp
  have t0 : Int.toNat 0 = 0 := rfl
  have t1 : Int.toNat 1 = 1 := rfl
  have z1 : ((0 : Int) ≤ 1) = True := by simp
  have w2 : (v.co.kind == 5) = false := by simp; omega
  obtain ⟨h3, hcl, _⟩ := co_two h hn hk5 h5
  have b1 : (v.kind != 5) = false := by simpa using hk5
  have b5 : (v.kind == 5) = true := by simpa using hk5
  have k0 : (v.co.kids.map embC).getD 0 .any = embC (v.co.kid 0) := mapC_kid (by omega)
  have k1 : (v.co.kids.map embC).getD 1 .any = embC (v.co.kid 1) := mapC_kid (by omega)
  have he : twoV v = match wrapA (v.kid 0) (v.co.kid 0) with
    | .err => .err
    | .blame l n => .blame l n
    | .ok a => match wrapA (v.kid 1) (v.co.kid 1) with
      | .err => .err
      | .blame l n => .blame l n
      | .ok b => .ok a b := by rw [twoV, if_neg (by simp [hk5, h5]), if_neg (by simp [hn]), if_pos hk5]
  rw [he]
  have q0 := vAround_ok (v.kid 0) (v.co.kid 0)
  have q1 := vAround_ok (v.kid 1) (v.co.kid 1)
  cases hw0 : wrapA (v.kid 0) (v.co.kid 0) with
  | err =>
    rw [hw0] at q0
    refine pcalls_text C_ok Try.func76 rfl (by decide) (Nat.le_of_ble_eq_true rfl) (by decide) (resP_bel _) fun ok H => ?_
    rw [Try.results76]
    have h := True.intro
    repeat' (first
     | (with_reducible first | apply bA | apply bB | apply bC | apply bD | apply bE | apply bF) <;> intro h
     | ((first | refine goCall_norm ?_ | refine goDCall_norm ?_); simp only [AV.norm, AV.normL, W2, W2C, W2V, Go.Ab.W3, Int.reduceAdd, Int.reduceLT, Int.reduceToNat, Int.reduceBEq, Int.reduceBNe, Int.reduceLE, b1, b5, w2, hn, hl, hcl, g0, g1, k0, k1, c0, c1, t0, t1, z1, Int.le_refl, List.length_map, embR, resW]; first | refine goCall_p (none_ok _) (.inl rfl) ?_ | refine goCall_p (q0) (.inl rfl) ?_ | refine goDCall_p (none_ok _) (.inl rfl) ?_ | refine goDCall_p (q0) (.inl rfl) ?_)
     | refine go_draw (id := 3) C_ok (fun _ => trivial) mixed 1 Try.f76.ntmps rfl (by kernel_rfl) (by decide) ?_
     | refine go_draw (id := 5) C_ok (fun _ => trivial) mixed 1 Try.f76.ntmps rfl (by kernel_rfl) (by decide) ?_
     | refine go_draw (id := 11) C_ok (fun _ => trivial) mixed 2 Try.f76.ntmps rfl (by kernel_rfl) (by decide) ?_
     | refine go_drawX (id := 13) C_ok (fun _ => trivial) mixed [(10, 2), (10, 3)] 0 Try.f76.ntmps rfl (by kernel_rfl) (by decide) ?_
     | refine go_drawX (id := 16) C_ok (fun _ => trivial) mixed [(90, 2)] 0 Try.f76.ntmps rfl (by kernel_rfl) (by decide) ?_
     | refine goRound ?_ C_ok Try.f76.ntmps rfl (by decide)
     | skip) <;> simp only [h, ↓upd_eq, ↓envL_cons, WZ, reduceIte, reduceEqDiff, reduceAdd, reduceLT, reduceLeDiff, reduceCtorEq, reduceMul, reducePow, W1, W1C, W1V, Go.Ab.W3, Int.reduceAdd, Int.reduceLT, Int.reduceToNat, Int.reduceBEq, Int.reduceBNe, Int.reduceLE, b1, b5, w2, hn, hl, hcl, g0, g1, k0, k1, c0, c1, t0, t1, z1, Int.le_refl, List.length_map, embR, resW, cutNormal_normal]
    all_goals rfl
  | blame l n =>
    rw [hw0] at q0
    refine pcalls_text C_ok Try.func76 rfl (by decide) (Nat.le_of_ble_eq_true rfl) (by decide) (resP_bel _) fun ok H => ?_
    rw [Try.results76]
    have h := True.intro
    repeat' (first
     | (with_reducible first | apply bA | apply bB | apply bC | apply bD | apply bE | apply bF) <;> intro h
     | ((first | refine goCall_norm ?_ | refine goDCall_norm ?_); simp only [AV.norm, AV.normL, W2, W2C, W2V, Go.Ab.W3, Int.reduceAdd, Int.reduceLT, Int.reduceToNat, Int.reduceBEq, Int.reduceBNe, Int.reduceLE, b1, b5, w2, hn, hl, hcl, g0, g1, k0, k1, c0, c1, t0, t1, z1, Int.le_refl, List.length_map, embR, resW]; first | refine goCall_p (none_ok _) (.inl rfl) ?_ | refine goCall_p (q0) (.inl rfl) ?_ | refine goDCall_p (none_ok _) (.inl rfl) ?_ | refine goDCall_p (q0) (.inl rfl) ?_)
     | refine go_draw (id := 3) C_ok (fun _ => trivial) mixed 1 Try.f76.ntmps rfl (by kernel_rfl) (by decide) ?_
     | refine go_draw (id := 5) C_ok (fun _ => trivial) mixed 1 Try.f76.ntmps rfl (by kernel_rfl) (by decide) ?_
     | refine go_draw (id := 11) C_ok (fun _ => trivial) mixed 2 Try.f76.ntmps rfl (by kernel_rfl) (by decide) ?_
     | refine go_drawX (id := 13) C_ok (fun _ => trivial) mixed [(10, 2), (10, 3)] 0 Try.f76.ntmps rfl (by kernel_rfl) (by decide) ?_
     | refine go_drawX (id := 16) C_ok (fun _ => trivial) mixed [(90, 2)] 0 Try.f76.ntmps rfl (by kernel_rfl) (by decide) ?_
     | refine goRound ?_ C_ok Try.f76.ntmps rfl (by decide)
     | skip) <;> simp only [h, ↓upd_eq, ↓envL_cons, WZ, reduceIte, reduceEqDiff, reduceAdd, reduceLT, reduceLeDiff, reduceCtorEq, reduceMul, reducePow, W1, W1C, W1V, Go.Ab.W3, Int.reduceAdd, Int.reduceLT, Int.reduceToNat, Int.reduceBEq, Int.reduceBNe, Int.reduceLE, b1, b5, w2, hn, hl, hcl, g0, g1, k0, k1, c0, c1, t0, t1, z1, Int.le_refl, List.length_map, embR, resW, cutNormal_normal]
    all_goals rfl
  | ok a =>
    rw [hw0] at q0
    cases hw1 : wrapA (v.kid 1) (v.co.kid 1) with
    | err =>
      rw [hw1] at q1
      refine pcalls_text C_ok Try.func76 rfl (by decide) (Nat.le_of_ble_eq_true rfl) (by decide) (resP_bel _) fun ok H => ?_
      rw [Try.results76]
      have h := True.intro
      repeat' (first
       | (with_reducible first | apply bA | apply bB | apply bC | apply bD | apply bE | apply bF) <;> intro h
       | ((first | refine goCall_norm ?_ | refine goDCall_norm ?_); simp only [AV.norm, AV.normL, W2, W2C, W2V, Go.Ab.W3, Int.reduceAdd, Int.reduceLT, Int.reduceToNat, Int.reduceBEq, Int.reduceBNe, Int.reduceLE, b1, b5, w2, hn, hl, hcl, g0, g1, k0, k1, c0, c1, t0, t1, z1, Int.le_refl, List.length_map, embR, resW]; first | refine goCall_p (none_ok _) (.inl rfl) ?_ | refine goCall_p (q0) (.inl rfl) ?_ | refine goCall_p (q1) (.inl rfl) ?_ | refine goDCall_p (none_ok _) (.inl rfl) ?_ | refine goDCall_p (q0) (.inl rfl) ?_ | refine goDCall_p (q1) (.inl rfl) ?_)
       | refine go_draw (id := 3) C_ok (fun _ => trivial) mixed 1 Try.f76.ntmps rfl (by kernel_rfl) (by decide) ?_
       | refine go_draw (id := 5) C_ok (fun _ => trivial) mixed 1 Try.f76.ntmps rfl (by kernel_rfl) (by decide) ?_
       | refine go_draw (id := 11) C_ok (fun _ => trivial) mixed 2 Try.f76.ntmps rfl (by kernel_rfl) (by decide) ?_
       | refine go_drawX (id := 13) C_ok (fun _ => trivial) mixed [(10, 2), (10, 3)] 0 Try.f76.ntmps rfl (by kernel_rfl) (by decide) ?_
       | refine go_drawX (id := 16) C_ok (fun _ => trivial) mixed [(90, 2)] 0 Try.f76.ntmps rfl (by kernel_rfl) (by decide) ?_
       | refine goRound ?_ C_ok Try.f76.ntmps rfl (by decide)
       | skip) <;> simp only [h, ↓upd_eq, ↓envL_cons, WZ, reduceIte, reduceEqDiff, reduceAdd, reduceLT, reduceLeDiff, reduceCtorEq, reduceMul, reducePow, W1, W1C, W1V, Go.Ab.W3, Int.reduceAdd, Int.reduceLT, Int.reduceToNat, Int.reduceBEq, Int.reduceBNe, Int.reduceLE, b1, b5, w2, hn, hl, hcl, g0, g1, k0, k1, c0, c1, t0, t1, z1, Int.le_refl, List.length_map, embR, resW, cutNormal_normal]
      all_goals rfl
    | blame l n =>
      rw [hw1] at q1
      refine pcalls_text C_ok Try.func76 rfl (by decide) (Nat.le_of_ble_eq_true rfl) (by decide) (resP_bel _) fun ok H => ?_
      rw [Try.results76]
      have h := True.intro
      repeat' (first
       | (with_reducible first | apply bA | apply bB | apply bC | apply bD | apply bE | apply bF) <;> intro h
       | ((first | refine goCall_norm ?_ | refine goDCall_norm ?_); simp only [AV.norm, AV.normL, W2, W2C, W2V, Go.Ab.W3, Int.reduceAdd, Int.reduceLT, Int.reduceToNat, Int.reduceBEq, Int.reduceBNe, Int.reduceLE, b1, b5, w2, hn, hl, hcl, g0, g1, k0, k1, c0, c1, t0, t1, z1, Int.le_refl, List.length_map, embR, resW]; first | refine goCall_p (none_ok _) (.inl rfl) ?_ | refine goCall_p (q0) (.inl rfl) ?_ | refine goCall_p (q1) (.inl rfl) ?_ | refine goDCall_p (none_ok _) (.inl rfl) ?_ | refine goDCall_p (q0) (.inl rfl) ?_ | refine goDCall_p (q1) (.inl rfl) ?_)
       | refine go_draw (id := 3) C_ok (fun _ => trivial) mixed 1 Try.f76.ntmps rfl (by kernel_rfl) (by decide) ?_
       | refine go_draw (id := 5) C_ok (fun _ => trivial) mixed 1 Try.f76.ntmps rfl (by kernel_rfl) (by decide) ?_
       | refine go_draw (id := 11) C_ok (fun _ => trivial) mixed 2 Try.f76.ntmps rfl (by kernel_rfl) (by decide) ?_
       | refine go_drawX (id := 13) C_ok (fun _ => trivial) mixed [(10, 2), (10, 3)] 0 Try.f76.ntmps rfl (by kernel_rfl) (by decide) ?_
       | refine go_drawX (id := 16) C_ok (fun _ => trivial) mixed [(90, 2)] 0 Try.f76.ntmps rfl (by kernel_rfl) (by decide) ?_
       | refine goRound ?_ C_ok Try.f76.ntmps rfl (by decide)
       | skip) <;> simp only [h, ↓upd_eq, ↓envL_cons, WZ, reduceIte, reduceEqDiff, reduceAdd, reduceLT, reduceLeDiff, reduceCtorEq, reduceMul, reducePow, W1, W1C, W1V, Go.Ab.W3, Int.reduceAdd, Int.reduceLT, Int.reduceToNat, Int.reduceBEq, Int.reduceBNe, Int.reduceLE, b1, b5, w2, hn, hl, hcl, g0, g1, k0, k1, c0, c1, t0, t1, z1, Int.le_refl, List.length_map, embR, resW, cutNormal_normal]
      all_goals rfl
    | ok b =>
      rw [hw1] at q1
      refine pcalls_text C_ok Try.func76 rfl (by decide) (Nat.le_of_ble_eq_true rfl) (by decide) (resP_bel _) fun ok H => ?_
      rw [Try.results76]
      have h := True.intro
      repeat' (first
       | (with_reducible first | apply bA | apply bB | apply bC | apply bD | apply bE | apply bF) <;> intro h
       | ((first | refine goCall_norm ?_ | refine goDCall_norm ?_); simp only [AV.norm, AV.normL, W2, W2C, W2V, Go.Ab.W3, Int.reduceAdd, Int.reduceLT, Int.reduceToNat, Int.reduceBEq, Int.reduceBNe, Int.reduceLE, b1, b5, w2, hn, hl, hcl, g0, g1, k0, k1, c0, c1, t0, t1, z1, Int.le_refl, List.length_map, embR, resW]; first | refine goCall_p (none_ok _) (.inl rfl) ?_ | refine goCall_p (q0) (.inl rfl) ?_ | refine goCall_p (q1) (.inl rfl) ?_ | refine goDCall_p (none_ok _) (.inl rfl) ?_ | refine goDCall_p (q0) (.inl rfl) ?_ | refine goDCall_p (q1) (.inl rfl) ?_)
       | refine go_draw (id := 3) C_ok (fun _ => trivial) mixed 1 Try.f76.ntmps rfl (by kernel_rfl) (by decide) ?_
       | refine go_draw (id := 5) C_ok (fun _ => trivial) mixed 1 Try.f76.ntmps rfl (by kernel_rfl) (by decide) ?_
       | refine go_draw (id := 11) C_ok (fun _ => trivial) mixed 2 Try.f76.ntmps rfl (by kernel_rfl) (by decide) ?_
       | refine go_drawX (id := 13) C_ok (fun _ => trivial) mixed [(10, 2), (10, 3)] 0 Try.f76.ntmps rfl (by kernel_rfl) (by decide) ?_
       | refine go_drawX (id := 16) C_ok (fun _ => trivial) mixed [(90, 2)] 0 Try.f76.ntmps rfl (by kernel_rfl) (by decide) ?_
       | refine goRound ?_ C_ok Try.f76.ntmps rfl (by decide)
       | skip) <;> simp only [h, ↓upd_eq, ↓envL_cons, WZ, reduceIte, reduceEqDiff, reduceAdd, reduceLT, reduceLeDiff, reduceCtorEq, reduceMul, reducePow, W1, W1C, W1V, Go.Ab.W3, Int.reduceAdd, Int.reduceLT, Int.reduceToNat, Int.reduceBEq, Int.reduceBNe, Int.reduceLE, b1, b5, w2, hn, hl, hcl, g0, g1, k0, k1, c0, c1, t0, t1, z1, Int.le_refl, List.length_map, embR, resW, cutNormal_normal]
      all_goals rfl
theorem vTwo_list (v : Vl) (h : rightV v = true) (hk7 : v.kind = 7) (h5 : v.co.kind ≠ 5) (hn : noneB v.co = false) : PCalls Try.prog 76 [embV v] (resP (twoV v)) := by
  have hk : v.kind = 7 ∨ v.kind = 5 := .inl hk7
  have hl := oneV_two (ownV_one (ownV_of h)) hk
  have g0 : (v.kids.map embV).getD 0 .any = embV (v.kid 0) := mapV_kid (by omega)
  have g1 : (v.kids.map embV).getD 1 .any = embV (v.kid 1) := mapV_kid (by omega)
  have c0 : ((0 : Int) < (2 : Nat)) = True := by simp
  have c1 : ((1 : Int) < (2 : Nat)) = True := by simp
  have t0 : Int.toNat 0 = 0 := rfl
  have t1 : Int.toNat 1 = 1 := rfl
  have z1 : ((0 : Int) ≤ 1) = True := by simp
  have w2 : (v.co.kind == 5) = false := by simp; omega
  obtain ⟨h3, hcl, _⟩ := co_one h hn hk7 h5
  have b1 : (v.kind != 5) = true := by simp; omega
  have b2 : (v.kind != 7) = false := by simpa using hk7
  have b5 : (v.kind == 5) = false := by simp; omega
  have k0 : (v.co.kids.map embC).getD 0 .any = embC (v.co.kid 0) := mapC_kid (by omega)
  have c00 : ((0 : Int) < (1 : Nat)) = True := by simp
  have he : twoV v = match wrapA (v.kid 0) (v.co.kid 0) with
    | .err => .err
    | .blame l n => .blame l n
    | .ok a => match wrapA (v.kid 1) v.co with
      | .err => .err
      | .blame l n => .blame l n
      | .ok b => .ok a b := by rw [twoV, if_neg (by simp [hk7, h5]), if_neg (by simp [hn]), if_neg (show ¬ v.kind = 5 by omega)]
  rw [he]
  have q0 := vAround_ok (v.kid 0) (v.co.kid 0)
  have q1 := vAround_ok (v.kid 1) v.co
  cases hw0 : wrapA (v.kid 0) (v.co.kid 0) with
  | err =>
    rw [hw0] at q0
    refine pcalls_text C_ok Try.func76 rfl (by decide) (Nat.le_of_ble_eq_true rfl) (by decide) (resP_bel _) fun ok H => ?_
    rw [Try.results76]
    have h := True.intro
    repeat' (first
     | (with_reducible first | apply bA | apply bB | apply bC | apply bD | apply bE | apply bF) <;> intro h
     | ((first | refine goCall_norm ?_ | refine goDCall_norm ?_); simp only [AV.norm, AV.normL, W2, W2C, W2V, Go.Ab.W3, Int.reduceAdd, Int.reduceLT, Int.reduceToNat, Int.reduceBEq, Int.reduceBNe, Int.reduceLE, b1, b2, b5, w2, hn, hl, hcl, g0, g1, k0, c0, c00, c1, t0, t1, z1, Int.le_refl, List.length_map, embR, resW]; first | refine goCall_p (none_ok _) (.inl rfl) ?_ | refine goCall_p (q0) (.inl rfl) ?_ | refine goDCall_p (none_ok _) (.inl rfl) ?_ | refine goDCall_p (q0) (.inl rfl) ?_)
     | refine go_draw (id := 3) C_ok (fun _ => trivial) mixed 1 Try.f76.ntmps rfl (by kernel_rfl) (by decide) ?_
     | refine go_draw (id := 5) C_ok (fun _ => trivial) mixed 1 Try.f76.ntmps rfl (by kernel_rfl) (by decide) ?_
     | refine go_draw (id := 11) C_ok (fun _ => trivial) mixed 2 Try.f76.ntmps rfl (by kernel_rfl) (by decide) ?_
     | refine go_drawX (id := 13) C_ok (fun _ => trivial) mixed [(10, 2), (10, 3)] 0 Try.f76.ntmps rfl (by kernel_rfl) (by decide) ?_
     | refine go_drawX (id := 16) C_ok (fun _ => trivial) mixed [(90, 2)] 0 Try.f76.ntmps rfl (by kernel_rfl) (by decide) ?_
     | refine goRound ?_ C_ok Try.f76.ntmps rfl (by decide)
     | skip) <;> simp only [h, ↓upd_eq, ↓envL_cons, WZ, reduceIte, reduceEqDiff, reduceAdd, reduceLT, reduceLeDiff, reduceCtorEq, reduceMul, reducePow, W1, W1C, W1V, Go.Ab.W3, Int.reduceAdd, Int.reduceLT, Int.reduceToNat, Int.reduceBEq, Int.reduceBNe, Int.reduceLE, b1, b2, b5, w2, hn, hl, hcl, g0, g1, k0, c0, c00, c1, t0, t1, z1, Int.le_refl, List.length_map, embR, resW, cutNormal_normal]
    all_goals rfl
  | blame l n =>
    rw [hw0] at q0
    refine pcalls_text C_ok Try.func76 rfl (by decide) (Nat.le_of_ble_eq_true rfl) (by decide) (resP_bel _) fun ok H => ?_
    rw [Try.results76]
    have h := True.intro
    repeat' (first
     | (with_reducible first | apply bA | apply bB | apply bC | apply bD | apply bE | apply bF) <;> intro h
     | ((first | refine goCall_norm ?_ | refine goDCall_norm ?_); simp only [AV.norm, AV.normL, W2, W2C, W2V, Go.Ab.W3, Int.reduceAdd, Int.reduceLT, Int.reduceToNat, Int.reduceBEq, Int.reduceBNe, Int.reduceLE, b1, b2, b5, w2, hn, hl, hcl, g0, g1, k0, c0, c00, c1, t0, t1, z1, Int.le_refl, List.length_map, embR, resW]; first | refine goCall_p (none_ok _) (.inl rfl) ?_ | refine goCall_p (q0) (.inl rfl) ?_ | refine goDCall_p (none_ok _) (.inl rfl) ?_ | refine goDCall_p (q0) (.inl rfl) ?_)
     | refine go_draw (id := 3) C_ok (fun _ => trivial) mixed 1 Try.f76.ntmps rfl (by kernel_rfl) (by decide) ?_
     | refine go_draw (id := 5) C_ok (fun _ => trivial) mixed 1 Try.f76.ntmps rfl (by kernel_rfl) (by decide) ?_
     | refine go_draw (id := 11) C_ok (fun _ => trivial) mixed 2 Try.f76.ntmps rfl (by kernel_rfl) (by decide) ?_
     | refine go_drawX (id := 13) C_ok (fun _ => trivial) mixed [(10, 2), (10, 3)] 0 Try.f76.ntmps rfl (by kernel_rfl) (by decide) ?_
     | refine go_drawX (id := 16) C_ok (fun _ => trivial) mixed [(90, 2)] 0 Try.f76.ntmps rfl (by kernel_rfl) (by decide) ?_
     | refine goRound ?_ C_ok Try.f76.ntmps rfl (by decide)
     | skip) <;> simp only [h, ↓upd_eq, ↓envL_cons, WZ, reduceIte, reduceEqDiff, reduceAdd, reduceLT, reduceLeDiff, reduceCtorEq, reduceMul, reducePow, W1, W1C, W1V, Go.Ab.W3, Int.reduceAdd, Int.reduceLT, Int.reduceToNat, Int.reduceBEq, Int.reduceBNe, Int.reduceLE, b1, b2, b5, w2, hn, hl, hcl, g0, g1, k0, c0, c00, c1, t0, t1, z1, Int.le_refl, List.length_map, embR, resW, cutNormal_normal]
    all_goals rfl
  | ok a =>
    rw [hw0] at q0
    cases hw1 : wrapA (v.kid 1) v.co with
    | err =>
      rw [hw1] at q1
      refine pcalls_text C_ok Try.func76 rfl (by decide) (Nat.le_of_ble_eq_true rfl) (by decide) (resP_bel _) fun ok H => ?_
      rw [Try.results76]
      have h := True.intro
      repeat' (first
       | (with_reducible first | apply bA | apply bB | apply bC | apply bD | apply bE | apply bF) <;> intro h
       | ((first | refine goCall_norm ?_ | refine goDCall_norm ?_); simp only [AV.norm, AV.normL, W2, W2C, W2V, Go.Ab.W3, Int.reduceAdd, Int.reduceLT, Int.reduceToNat, Int.reduceBEq, Int.reduceBNe, Int.reduceLE, b1, b2, b5, w2, hn, hl, hcl, g0, g1, k0, c0, c00, c1, t0, t1, z1, Int.le_refl, List.length_map, embR, resW]; first | refine goCall_p (none_ok _) (.inl rfl) ?_ | refine goCall_p (q0) (.inl rfl) ?_ | refine goCall_p (q1) (.inl rfl) ?_ | refine goDCall_p (none_ok _) (.inl rfl) ?_ | refine goDCall_p (q0) (.inl rfl) ?_ | refine goDCall_p (q1) (.inl rfl) ?_)
       | refine go_draw (id := 3) C_ok (fun _ => trivial) mixed 1 Try.f76.ntmps rfl (by kernel_rfl) (by decide) ?_
       | refine go_draw (id := 5) C_ok (fun _ => trivial) mixed 1 Try.f76.ntmps rfl (by kernel_rfl) (by decide) ?_
       | refine go_draw (id := 11) C_ok (fun _ => trivial) mixed 2 Try.f76.ntmps rfl (by kernel_rfl) (by decide) ?_
       | refine go_drawX (id := 13) C_ok (fun _ => trivial) mixed [(10, 2), (10, 3)] 0 Try.f76.ntmps rfl (by kernel_rfl) (by decide) ?_
       | refine go_drawX (id := 16) C_ok (fun _ => trivial) mixed [(90, 2)] 0 Try.f76.ntmps rfl (by kernel_rfl) (by decide) ?_
       | refine goRound ?_ C_ok Try.f76.ntmps rfl (by decide)
       | skip) <;> simp only [h, ↓upd_eq, ↓envL_cons, WZ, reduceIte, reduceEqDiff, reduceAdd, reduceLT, reduceLeDiff, reduceCtorEq, reduceMul, reducePow, W1, W1C, W1V, Go.Ab.W3, Int.reduceAdd, Int.reduceLT, Int.reduceToNat, Int.reduceBEq, Int.reduceBNe, Int.reduceLE, b1, b2, b5, w2, hn, hl, hcl, g0, g1, k0, c0, c00, c1, t0, t1, z1, Int.le_refl, List.length_map, embR, resW, cutNormal_normal]
      all_goals rfl
    | blame l n =>
      rw [hw1] at q1
      refine pcalls_text C_ok Try.func76 rfl (by decide) (Nat.le_of_ble_eq_true rfl) (by decide) (resP_bel _) fun ok H => ?_
      rw [Try.results76]
      have h := True.intro
      repeat' (first
       | (with_reducible first | apply bA | apply bB | apply bC | apply bD | apply bE | apply bF) <;> intro h
       | ((first | refine goCall_norm ?_ | refine goDCall_norm ?_); simp only [AV.norm, AV.normL, W2, W2C, W2V, Go.Ab.W3, Int.reduceAdd, Int.reduceLT, Int.reduceToNat, Int.reduceBEq, Int.reduceBNe, Int.reduceLE, b1, b2, b5, w2, hn, hl, hcl, g0, g1, k0, c0, c00, c1, t0, t1, z1, Int.le_refl, List.length_map, embR, resW]; first | refine goCall_p (none_ok _) (.inl rfl) ?_ | refine goCall_p (q0) (.inl rfl) ?_ | refine goCall_p (q1) (.inl rfl) ?_ | refine goDCall_p (none_ok _) (.inl rfl) ?_ | refine goDCall_p (q0) (.inl rfl) ?_ | refine goDCall_p (q1) (.inl rfl) ?_)
       | refine go_draw (id := 3) C_ok (fun _ => trivial) mixed 1 Try.f76.ntmps rfl (by kernel_rfl) (by decide) ?_
       | refine go_draw (id := 5) C_ok (fun _ => trivial) mixed 1 Try.f76.ntmps rfl (by kernel_rfl) (by decide) ?_
       | refine go_draw (id := 11) C_ok (fun _ => trivial) mixed 2 Try.f76.ntmps rfl (by kernel_rfl) (by decide) ?_
       | refine go_drawX (id := 13) C_ok (fun _ => trivial) mixed [(10, 2), (10, 3)] 0 Try.f76.ntmps rfl (by kernel_rfl) (by decide) ?_
       | refine go_drawX (id := 16) C_ok (fun _ => trivial) mixed [(90, 2)] 0 Try.f76.ntmps rfl (by kernel_rfl) (by decide) ?_
       | refine goRound ?_ C_ok Try.f76.ntmps rfl (by decide)
       | skip) <;> simp only [h, ↓upd_eq, ↓envL_cons, WZ, reduceIte, reduceEqDiff, reduceAdd, reduceLT, reduceLeDiff, reduceCtorEq, reduceMul, reducePow, W1, W1C, W1V, Go.Ab.W3, Int.reduceAdd, Int.reduceLT, Int.reduceToNat, Int.reduceBEq, Int.reduceBNe, Int.reduceLE, b1, b2, b5, w2, hn, hl, hcl, g0, g1, k0, c0, c00, c1, t0, t1, z1, Int.le_refl, List.length_map, embR, resW, cutNormal_normal]
      all_goals rfl
    | ok b =>
      rw [hw1] at q1
      refine pcalls_text C_ok Try.func76 rfl (by decide) (Nat.le_of_ble_eq_true rfl) (by decide) (resP_bel _) fun ok H => ?_
      rw [Try.results76]
      have h := True.intro
      repeat' (first
       | (with_reducible first | apply bA | apply bB | apply bC | apply bD | apply bE | apply bF) <;> intro h
       | ((first | refine goCall_norm ?_ | refine goDCall_norm ?_); simp only [AV.norm, AV.normL, W2, W2C, W2V, Go.Ab.W3, Int.reduceAdd, Int.reduceLT, Int.reduceToNat, Int.reduceBEq, Int.reduceBNe, Int.reduceLE, b1, b2, b5, w2, hn, hl, hcl, g0, g1, k0, c0, c00, c1, t0, t1, z1, Int.le_refl, List.length_map, embR, resW]; first | refine goCall_p (none_ok _) (.inl rfl) ?_ | refine goCall_p (q0) (.inl rfl) ?_ | refine goCall_p (q1) (.inl rfl) ?_ | refine goDCall_p (none_ok _) (.inl rfl) ?_ | refine goDCall_p (q0) (.inl rfl) ?_ | refine goDCall_p (q1) (.inl rfl) ?_)
       | refine go_draw (id := 3) C_ok (fun _ => trivial) mixed 1 Try.f76.ntmps rfl (by kernel_rfl) (by decide) ?_
       | refine go_draw (id := 5) C_ok (fun _ => trivial) mixed 1 Try.f76.ntmps rfl (by kernel_rfl) (by decide) ?_
       | refine go_draw (id := 11) C_ok (fun _ => trivial) mixed 2 Try.f76.ntmps rfl (by kernel_rfl) (by decide) ?_
       | refine go_drawX (id := 13) C_ok (fun _ => trivial) mixed [(10, 2), (10, 3)] 0 Try.f76.ntmps rfl (by kernel_rfl) (by decide) ?_
       | refine go_drawX (id := 16) C_ok (fun _ => trivial) mixed [(90, 2)] 0 Try.f76.ntmps rfl (by kernel_rfl) (by decide) ?_
       | refine goRound ?_ C_ok Try.f76.ntmps rfl (by decide)
       | skip) <;> simp only [h, ↓upd_eq, ↓envL_cons, WZ, reduceIte, reduceEqDiff, reduceAdd, reduceLT, reduceLeDiff, reduceCtorEq, reduceMul, reducePow, W1, W1C, W1V, Go.Ab.W3, Int.reduceAdd, Int.reduceLT, Int.reduceToNat, Int.reduceBEq, Int.reduceBNe, Int.reduceLE, b1, b2, b5, w2, hn, hl, hcl, g0, g1, k0, c0, c00, c1, t0, t1, z1, Int.le_refl, List.length_map, embR, resW, cutNormal_normal]
      all_goals rfl
theorem vTwo_ok (v : Vl) (h : rightV v = true) : PCalls Try.prog 76 [embV v] (resP (twoV v)) := by
  by_cases he : (v.kind ≠ 5 ∧ v.kind ≠ 7) ∨ v.co.kind = 5
  · rw [twoV, if_pos he]; exact vTwo_err v he
  · cases hn : noneB v.co with
    | true => rw [twoV, if_neg he, if_pos hn]; exact vTwo_none v h he hn
    | false =>
      have h5 : v.co.kind ≠ 5 := fun h5 => he (.inr h5)
      rcases Classical.em (v.kind = 5) with hk | hk
      · exact vTwo_pair v h hk h5 hn
      · exact vTwo_list v h (by omega) h5 hn
noncomputable def partsR (v : Vl) : AV := if rightV v = true then resP (twoV v) else .tup [embV noneV, embV noneV, embR 0 0 false, .int .i64 1]
end Go.Proofs.Ytofogicgnldfhaa
end

