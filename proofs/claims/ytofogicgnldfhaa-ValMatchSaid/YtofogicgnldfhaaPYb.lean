/- Lemmas: words and rounds of names. No condition. -/
import Derived.Test.YtofogicgnldfhaaPYa
import Derived.Test.YtofogicgnldfhaaPMa
import Derived.Test.YtofogicgnldfhaaPRb

section
/- Walks: names, a pattern's own fields. No condition. -/
set_option linter.unusedSimpArgs false
set_option linter.unusedVariables false
set_option maxHeartbeats 4000000
set_option maxRecDepth 100000
namespace Go.Proofs.Ytofogicgnldfhaa
open Go Go.Ab
open Nat (reduceEqDiff reduceAdd reduceLT reduceLeDiff reduceMul reducePow)
attribute [local irreducible] PCalls ACalls CallK GoCall GoDCall GoIf GoGb GoDGb GoO GoD GoX GoDX GoG GoDG GoGv GoDGv Go ALoop

theorem wkey_ok (s : ByteArray) : PCalls Try.prog 116 [.str s] (.bool (keyS s)) := by
  refine pcalls_text C_ok Try.func116 rfl (by decide) (Nat.le_of_ble_eq_true rfl) (by decide) rfl fun ok H => ?_
  rw [Try.results116]
  have h := True.intro
  repeat' (first
   | (with_reducible first | refine bA ?_ ?_ | refine bB ?_ ?_ | refine bC ?_ ?_ | refine bD ?_ ?_ | refine bE ?_ ?_ | refine bF ?_ ?_) <;> intro h
   | skip) <;> simp only [h, ↓upd_eq, ↓envL_cons, WZ, reduceIte, reduceEqDiff, reduceAdd, reduceLT, reduceLeDiff, reduceCtorEq, reduceMul, reducePow, W1, W1P]
  all_goals (simp only [ByteArray.toList_eq, beq_eq_false_iff_ne, beq_iff_eq, ne_eq] at *; simp_all [keyS, keys])

theorem winner_ok (c : Nat) : PCalls Try.prog 117 [.int .u8 c] (.bool (innerB c)) := by
  refine pcalls_text C_ok Try.func117 rfl (by decide) (Nat.le_of_ble_eq_true rfl) (by decide) rfl fun ok H => ?_
  rw [Try.results117]
  repeat' first
   | (apply goGb_op (fun _ _ => rfl); (· intro hb; (try simp only [Bool.and_eq_true, Bool.not_eq_true', Bool.or_eq_false_iff, Bool.not_eq_false'] at hb); simp only [hb, ↓upd_eq, ↓envL_cons, WZ, reduceIte, reduceEqDiff, reduceAdd, reduceLT, reduceLeDiff, reduceCtorEq, reduceMul, reducePow, W1, W1P, W5]; exact ⟨rfl, trivial⟩))
   | (apply goDGb_op (fun _ _ => rfl); (· intro hb; (try simp only [Bool.and_eq_true, Bool.not_eq_true', Bool.or_eq_false_iff, Bool.not_eq_false'] at hb); simp only [hb, ↓upd_eq, ↓envL_cons, WZ, reduceIte, reduceEqDiff, reduceAdd, reduceLT, reduceLeDiff, reduceCtorEq, reduceMul, reducePow, W1, W1P, W5]; exact ⟨rfl, trivial⟩))
   | (with_reducible first | refine bA ?_ ?_ | refine bB ?_ ?_ | refine bC ?_ ?_ | refine bD ?_ ?_ | refine bE ?_ ?_ | refine bF ?_ ?_) <;> intro h <;> try simp only [h, ↓upd_eq, ↓envL_cons, WZ, reduceIte, reduceEqDiff, reduceAdd, reduceLT, reduceLeDiff, reduceCtorEq, reduceMul, reducePow, W1, W1P, W5]
   | simp only [↓upd_eq, ↓envL_cons, WZ, reduceIte, reduceEqDiff, reduceAdd, reduceLT, reduceLeDiff, reduceCtorEq, reduceMul, reducePow, W1, W1P, W5]
  rw [Bool.eq_iff_iff]; simp [innerB, lowerB]; omega

theorem nameS_false {s : ByteArray} {i : Nat} (h1 : 1 ≤ i) (h : i < s.size) (hi : innerB (byteAt s i) = false) : nameS s = false := by
  have : (allN s.size fun i => i == 0 || innerB (byteAt s i)) = false := allN_false h (by simp [hi]; omega)
  simp [nameS, this]

theorem wname_ok (s : ByteArray) : PCalls Try.prog 105 [.str s] (.bool (nameS s)) := by
  by_cases h1 : 1 ≤ s.size
  · have e1 : decide ((s.size : Int) < 1) = false := by simp; omega
    have e0 : ((0 : Int) < (s.size : Int)) = True := by simp; omega
    refine pcalls_text C_ok Try.func105 rfl (by decide) (Nat.le_of_ble_eq_true rfl) (by decide) rfl fun ok H => ?_
    rw [Try.results105]
    have hmax : s.size ≤ maxLen := ok.1
    have h := True.intro
    repeat' (first
     | (with_reducible first | refine bA ?_ ?_ | refine bB ?_ ?_ | refine bC ?_ ?_ | refine bD ?_ ?_ | refine bE ?_ ?_ | refine bF ?_ ?_) <;> intro h
     | ((first | refine goCall_norm ?_ | refine goDCall_norm ?_); simp only [AV.norm, AV.normL, W2, W2P, e1, e0, Int.le_refl, Int.toNat_zero]; first | refine goCall_p (wkey_ok _) (.inl rfl) ?_ | refine goDCall_p (wkey_ok _) (.inl rfl) ?_)
     | skip) <;> simp only [h, ↓upd_eq, ↓envL_cons, WZ, reduceIte, reduceEqDiff, reduceAdd, reduceLT, reduceLeDiff, reduceCtorEq, reduceMul, reducePow, W1, W1P, e1, e0, Int.le_refl, Int.toNat_zero]
    case pos.refine_2.refine_2.refine_2.refine_2 a b c d =>
      have ha : s.size ≤ 32 := by omega
      have hb : 97 ≤ byteAt s 0 := by omega
      have hc : byteAt s 0 ≤ 122 := by omega
      refine aloop_trim [3, 0] ?_
      simp only [List.map_cons, List.map_nil, ↓upd_eq, ↓envL_cons, WZ, reduceIte, reduceEqDiff, reduceAdd, reduceLT, reduceLeDiff, reduceCtorEq, reduceMul, reducePow, W1, W1P]
      refine goLoopS 1 (fun i : Nat => [(3, .int .i64 i)]) (fun _ => _) (fun i => 1 ≤ i ∧ i ≤ s.size ∧ ∀ j, j < i → (j == 0 || innerB (byteAt s j)) = true) (fun i => s.size - i) C_ok 1 rfl rfl ⟨Nat.le_refl _, h1, fun j hj => by simp; omega⟩ (by decide) ?_
      rintro i ⟨hi1, hi, hall⟩
      simp only [List.drop_succ_cons, List.drop_zero, List.cons_append, List.nil_append]
      simp only [↓upd_eq, ↓envL_cons, WZ, reduceIte, reduceEqDiff, reduceAdd, reduceLT, reduceLeDiff, reduceCtorEq, reduceMul, reducePow, W1, W1P]
      refine goIf_d (fun hlt => ?_) (fun hlt => ?_)
      · have h := True.intro
        repeat' (first
         | (with_reducible first | refine bA ?_ ?_ | refine bB ?_ ?_ | refine bC ?_ ?_ | refine bD ?_ ?_ | refine bE ?_ ?_ | refine bF ?_ ?_) <;> intro h
         | ((first | refine goCall_norm ?_ | refine goDCall_norm ?_); simp only [AV.norm, AV.normL, W2, W2P, hlt]; first | refine goCall_p (winner_ok _) (.inl rfl) ?_ | refine goDCall_p (winner_ok _) (.inl rfl) ?_)
         | skip) <;> simp only [h, ↓upd_eq, ↓envL_cons, WZ, reduceIte, reduceEqDiff, reduceAdd, reduceLT, reduceLeDiff, reduceCtorEq, reduceMul, reducePow, W1, W1P, hlt]
        · refine ⟨i + 1, ⟨by omega, by omega, fun j hj => ?_⟩, by omega, weak_drop rfl rfl rfl rfl ?_ ?_ ?_⟩
          · rcases Nat.lt_succ_iff_lt_or_eq.1 hj with hj | rfl
            · exact hall j hj
            · simp [h]
          all_goals simp only [List.forall_mem_cons, mem_nil_all, frz_app, ↓upd_eq, ↓envL_cons, Nat.reduceEqDiff, if_true, if_false, reduceIte, true_and, and_true, and_self, true_or, or_true, implies_true, List.not_mem_nil, false_implies, AV.bel, AV.belL, AObj.bel, AV.norm, AV.normL, Bool.and_true, Bool.true_and, decide_true, decide_eq_true_eq, List.length_cons, List.length_nil, Nat.zero_add, Nat.reduceAdd, Nat.lt_add_one, Nat.lt_add_right_iff_pos, Nat.zero_lt_succ, Nat.zero_lt_one, Nat.reduceLT, List.take_succ_cons, List.take_zero, wrap_succ hlt hmax, AV.belL]
        · exact (nameS_false hi1 hlt h).symm
      · simp only [↓upd_eq, ↓envL_cons, WZ, reduceIte, reduceEqDiff, reduceAdd, reduceLT, reduceLeDiff, reduceCtorEq, reduceMul, reducePow, W1, W1P]
        have : (allN s.size fun i => i == 0 || innerB (byteAt s i)) = true := allN_true fun j hj => hall j (by omega)
        simp only [nameS, this, lowerB, h]
        simp; omega
    all_goals (simp [nameS, lowerB, *]; try (intros; omega))
  · have e1 : decide ((s.size : Int) < 1) = true := by simp; omega
    refine pcalls_text C_ok Try.func105 rfl (by decide) (Nat.le_of_ble_eq_true rfl) (by decide) rfl fun ok H => ?_
    rw [Try.results105]
    have h := True.intro
    repeat' (first
     | (with_reducible first | refine bA ?_ ?_ | refine bB ?_ ?_ | refine bC ?_ ?_ | refine bD ?_ ?_ | refine bE ?_ ?_ | refine bF ?_ ?_) <;> intro h
     | ((first | refine goCall_norm ?_ | refine goDCall_norm ?_); simp only [AV.norm, AV.normL, W2, W2P, e1]; first | refine goCall_p (wkey_ok _) (.inl rfl) ?_ | refine goDCall_p (wkey_ok _) (.inl rfl) ?_)
     | skip) <;> simp only [h, ↓upd_eq, ↓envL_cons, WZ, reduceIte, reduceEqDiff, reduceAdd, reduceLT, reduceLeDiff, reduceCtorEq, reduceMul, reducePow, W1, W1P, e1]
    simp [nameS, h1]

theorem nil_beqL (l : List UInt8) : (ByteArray.empty.data.toList == l) = decide (l = []) := by cases l <;> rfl
theorem zero_beqI (n : Int) : ((0 : Int) == n) = decide (n = 0) := by rw [Bool.eq_iff_iff]; simp; omega
theorem onePat_ok (p : Pt) : PCalls Try.prog 91 [embP p] (.bool (okP p)) := by
  refine pcalls_text C_ok Try.func91 rfl (by decide) (Nat.le_of_ble_eq_true rfl) (by decide) rfl fun ok H => ?_
  rw [Try.results91]
  have h := True.intro
  repeat' (first
   | (with_reducible first | refine bA ?_ ?_ | refine bB ?_ ?_ | refine bC ?_ ?_ | refine bD ?_ ?_ | refine bE ?_ ?_ | refine bF ?_ ?_) <;> intro h
   | ((first | refine goCall_norm ?_ | refine goDCall_norm ?_); simp only [AV.norm, AV.normL, W2, W2P]; first | refine goCall_p (wname_ok _) (.inl rfl) ?_ | refine goDCall_p (wname_ok _) (.inl rfl) ?_)
   | skip) <;> simp only [h, ↓upd_eq, ↓envL_cons, WZ, reduceIte, reduceEqDiff, reduceAdd, reduceLT, reduceLeDiff, reduceCtorEq, reduceMul, reducePow, W1, W1P]
  all_goals simp only [ByteArray.toList_eq, nil_beqL, zero_beqI, decide_eq_true_eq, decide_eq_false_iff_not, beq_iff_eq, beq_eq_false_iff_ne, ne_eq, bne_iff_ne, bne_eq_false_iff_eq] at *
  all_goals (simp_all [okP]; try omega)

end Go.Proofs.Ytofogicgnldfhaa
end

section
/- Walks: a pattern and all patterns within it, given one by one. No condition. -/
set_option linter.unusedSimpArgs false
set_option linter.unusedVariables false
set_option maxHeartbeats 4000000
set_option maxRecDepth 100000
namespace Go.Proofs.Ytofogicgnldfhaa
open Go Go.Ab
open Nat (reduceEqDiff reduceAdd reduceLT reduceLeDiff reduceMul reducePow)
attribute [local irreducible] PCalls ACalls CallK GoCall GoDCall GoIf GoGb GoDGb GoO GoD GoX GoDX GoG GoDG GoGv GoDGv Go ALoop

theorem emptyOp : (#[] : Array Operand).isEmpty = true := rfl
theorem pats_ok (p : Pt) (F : List AObj) : DCalls Try.prog 90 [embP p] F (.clo 103 [.bptr F.length 0]) (F ++ [.box (cellsOf (embP p))]) := by
  unfold DCalls
  refine acalls_text C_ok Try.func90 rfl (by decide) (Nat.le_of_ble_eq_true rfl) (by decide) fun ok => ?_
  rw [Try.results90]
  have h := True.intro
  repeat' (first
   | (with_reducible first | apply bA | apply bB | apply bC | apply bD | apply bE | apply bF) <;> intro h
   | skip) <;> simp only [h, ↓upd_eq, ↓envL_cons, WY, reduceIte, reduceEqDiff, reduceAdd, reduceLT, reduceLeDiff, reduceCtorEq, reduceMul, reducePow, W1, W1P, fs_frz, fs_frz0, fs_env, fs_b, fs_n, fs_put, fs_put0, fs_tmp, fs_const, fs_func, fs_obj, fs_setObj, fs_new, fs_next, fs_mk, fs_H, le_app, le_set, app_get, app_set, app_get0c, app_getkc, app_set0c, app_setkc, List.append_assoc, not_false_eq_true, not_true_eq_false, retE_ret, retP_ret, List.length_append, List.length_set, Nat.le_succ, emptyOp]

/-- A pattern met: it is right, its name is new. -/
def stepP (l : List ByteArray) (q : Pt) : Option (List ByteArray) :=
  if okP q = false then none else if q.kind = 2 then (if l.any (q.name == ·) then none else some (l ++ [q.name])) else some l
mutual
def chkR : Pt → List ByteArray → Bool × List ByteArray
  | .mk k f t m n s ks, l => match stepP l (.mk k f t m n s ks) with
    | none => (false, l)
    | some l' => chkRL ks l'
def chkRL : List Pt → List ByteArray → Bool × List ByteArray
  | [], l => (true, l)
  | x :: xs, l => if (chkR x l).1 then chkRL xs (chkR x l).2 else chkR x l
end
theorem chkR_eq (p : Pt) (l : List ByteArray) : chkR p l = match stepP l p with
    | none => (false, l)
    | some l' => chkRL p.kids l' := by cases p; rw [chkR]; rfl
/-- The heap, by what was met so far and whether it goes on. -/
structure Iter (E : Bool × List ByteArray → List AObj) (y B : Nat) : Prop where
  hE : ∀ r, (E r).length = B
  hy : y < B
  hbel : ∀ l m, (∀ x ∈ E (true, l), x.bel m = true) → ∀ r, ∀ x ∈ E r, x.bel m = true
  hY : ∀ l q Z, YCalls Try.prog y [embP q] (E (true, l) ++ Z) fun r H' => r = .bool (stepP l q).isSome ∧ H' = E ((stepP l q).isSome, (stepP l q).getD l) ++ Z
theorem Iter.app {E : Bool × List ByteArray → List AObj} {y B : Nat} (h : Iter E y B) (X : List AObj) : Iter (fun r => E r ++ X) y (B + X.length) := by
  refine ⟨fun r => by simp [h.hE], by have := h.hy; omega, fun l m hm r x hx => ?_, fun l q Z => ?_⟩
  · rcases List.mem_append.1 hx with hx | hx
    · exact h.hbel l m (fun x hx => hm x (List.mem_append_left _ hx)) r x hx
    · exact hm x (List.mem_append_right _ hx)
  · simp only [List.append_assoc]; exact h.hY l q (X ++ Z)

theorem initS_FS (args : List AV) (H : List AObj) (n : Nat) : initS args H n = FS (fun t => args.getD t .any) H H.length n := by simp [FS, initS]

theorem goPats_step {E : Bool × List ByteArray → List AObj} {y B : Nat} (hI : Iter E y B) (p : Pt) (ih : ∀ x ∈ p.kids, ∀ l Z, DCalls Try.prog 104 [embP x, .yld y] (E (true, l) ++ Z) (.bool (chkR x l).1) (E (chkR x l) ++ Z)) (l : List ByteArray) :
    DCalls Try.prog 104 [embP p, .yld y] (E (true, l)) (.bool (chkR p l).1) (E (chkR p l)) := by
  have hE := hI.hE
  have hb0 : ∀ (l : List ByteArray) (r : Bool × List ByteArray) (Z Z' : List AObj), (∀ x ∈ (E (true, l) ++ Z).take B, x.bel B = true) → ∀ x ∈ (E r ++ Z').take B, x.bel B = true := fun l r Z Z' hb => by
    rw [List.take_left' (hE _)] at hb ⊢
    exact hI.hbel l B hb r
  unfold DCalls
  refine acalls_awp C_ok Try.func104 rfl (by decide) (Nat.le_of_ble_eq_true rfl) fun ok => ?_
  rw [Try.results104]
  refine awp_yseq (n := Try.f104.ntmps) C_ok rfl (by decide) ?_
  rw [initS_FS, X_go, hE]
  have h := True.intro
  repeat' (first
   | (with_reducible first | apply bA | apply bB | apply bC | apply bD | apply bE | apply bF) <;> intro h
   | skip) <;> simp only [h, ↓upd_eq, ↓envL_cons, WY, reduceIte, reduceEqDiff, reduceAdd, reduceLT, reduceLeDiff, reduceCtorEq, reduceMul, reducePow, W1, W1P, fs_frz, fs_frz0, fs_env, fs_b, fs_n, fs_put, fs_put0, fs_tmp, fs_const, fs_func, fs_obj, fs_setObj, fs_new, fs_next, fs_mk, fs_H, le_app, le_set, app_get, app_set, app_get0c, app_getkc, app_set0c, app_setkc, List.append_assoc, not_false_eq_true, not_true_eq_false, retE_ret, retP_ret, List.length_append, List.length_set, Nat.le_succ, hE]
  refine ⟨rfl, rfl, .inr ?_⟩
  unfold xop
  simp only [↓upd_eq, ↓envL_cons, WY, reduceIte, reduceEqDiff, reduceAdd, reduceLT, reduceLeDiff, reduceCtorEq, reduceMul, reducePow, W1, W1P, fs_frz, fs_frz0, fs_env, fs_b, fs_n, fs_put, fs_put0, fs_tmp, fs_const, fs_func, fs_obj, fs_setObj, fs_new, fs_next, fs_mk, fs_H, le_app, le_set, app_get, app_set, app_get0c, app_getkc, app_set0c, app_setkc, List.append_assoc, not_false_eq_true, not_true_eq_false, retE_ret, retP_ret, List.length_append, List.length_set, Nat.le_succ, hE]
  refine ⟨rfl, .inr ?_⟩
  unfold xop
  simp only [↓upd_eq, ↓envL_cons, WY, reduceIte, reduceEqDiff, reduceAdd, reduceLT, reduceLeDiff, reduceCtorEq, reduceMul, reducePow, W1, W1P, fs_frz, fs_frz0, fs_env, fs_b, fs_n, fs_put, fs_put0, fs_tmp, fs_const, fs_func, fs_obj, fs_setObj, fs_new, fs_next, fs_mk, fs_H, le_app, le_set, app_get, app_set, app_get0c, app_getkc, app_set0c, app_setkc, List.append_assoc, not_false_eq_true, not_true_eq_false, retE_ret, retP_ret, List.length_append, List.length_set, Nat.le_succ, hE]
  refine ⟨rfl, .inl ⟨_, _, _, y, rfl, ?_, ?_⟩⟩
  · simp only [↓upd_eq, ↓envL_cons, WY, reduceIte, reduceEqDiff, reduceAdd, reduceLT, reduceLeDiff, reduceCtorEq, reduceMul, reducePow, W1, W1P, fs_frz, fs_frz0, fs_env, fs_b, fs_n, fs_put, fs_put0, fs_tmp, fs_const, fs_func, fs_obj, fs_setObj, fs_new, fs_next, fs_mk, fs_H, le_app, le_set, app_get, app_set, app_get0c, app_getkc, app_set0c, app_setkc, List.append_assoc, not_false_eq_true, not_true_eq_false, retE_ret, retP_ret, List.length_append, List.length_set, Nat.le_succ]
  simp only [↓upd_eq, ↓envL_cons, WY, reduceIte, reduceEqDiff, reduceAdd, reduceLT, reduceLeDiff, reduceCtorEq, reduceMul, reducePow, W1, W1P, fs_frz, fs_frz0, fs_env, fs_b, fs_n, fs_put, fs_put0, fs_tmp, fs_const, fs_func, fs_obj, fs_setObj, fs_new, fs_next, fs_mk, fs_H, le_app, le_set, app_get, app_set, app_get0c, app_getkc, app_set0c, app_setkc, List.append_assoc, not_false_eq_true, not_true_eq_false, retE_ret, retP_ret, List.length_append, List.length_set, Nat.le_succ]
  refine yk_fs (by have := hI.hY l p [.box (cellsOf (embP p))]; rw [embP_cells] at this; exact this) fun r F' hr => ?_
  obtain ⟨rfl, rfl⟩ := hr
  refine ⟨hb0 _ _ _ _, ?_⟩
  refine ⟨rfl, .inr ?_⟩
  unfold xop
  simp only [↓upd_eq, ↓envL_cons, WY, reduceIte, reduceEqDiff, reduceAdd, reduceLT, reduceLeDiff, reduceCtorEq, reduceMul, reducePow, W1, W1P, fs_frz, fs_frz0, fs_env, fs_b, fs_n, fs_put, fs_put0, fs_tmp, fs_const, fs_func, fs_obj, fs_setObj, fs_new, fs_next, fs_mk, fs_H, le_app, le_set, app_get, app_set, app_get0c, app_getkc, app_set0c, app_setkc, List.append_assoc, not_false_eq_true, not_true_eq_false, retE_ret, retP_ret, List.length_append, List.length_set, Nat.le_succ]
  unfold xopsY
  cases hs : stepP l p with
  | none =>
    have hc : chkR p l = (false, l) := by rw [chkR_eq, hs]
    have h := True.intro
    repeat' (first
     | (with_reducible first | apply bA | apply bB | apply bC | apply bD | apply bE | apply bF) <;> intro h
     | skip) <;> simp only [h, ↓upd_eq, ↓envL_cons, WY, reduceIte, reduceEqDiff, reduceAdd, reduceLT, reduceLeDiff, reduceCtorEq, reduceMul, reducePow, W1, W1P, fs_frz, fs_frz0, fs_env, fs_b, fs_n, fs_put, fs_put0, fs_tmp, fs_const, fs_func, fs_obj, fs_setObj, fs_new, fs_next, fs_mk, fs_H, le_app, le_set, app_get, app_set, app_get0c, app_getkc, app_set0c, app_setkc, List.append_assoc, not_false_eq_true, not_true_eq_false, retE_ret, retP_ret, List.length_append, List.length_set, Nat.le_succ, hE, Option.isSome_none, Option.getD_none, retD_ret, hc, AV.bel]
    exact List.take_left' (hE _)
  | some l' =>
    have hc : chkR p l = chkRL p.kids l' := by rw [chkR_eq, hs]
    have hmax : p.kids.length ≤ maxLen := (embP_okay ok.1).1
    have h := True.intro
    repeat' (first
     | (with_reducible first | apply bA | apply bB | apply bC | apply bD | apply bE | apply bF) <;> intro h
     | skip) <;> simp only [h, ↓upd_eq, ↓envL_cons, WY, reduceIte, reduceEqDiff, reduceAdd, reduceLT, reduceLeDiff, reduceCtorEq, reduceMul, reducePow, W1, W1P, fs_frz, fs_frz0, fs_env, fs_b, fs_n, fs_put, fs_put0, fs_tmp, fs_const, fs_func, fs_obj, fs_setObj, fs_new, fs_next, fs_mk, fs_H, le_app, le_set, app_get, app_set, app_get0c, app_getkc, app_set0c, app_setkc, List.append_assoc, not_false_eq_true, not_true_eq_false, retE_ret, retP_ret, List.length_append, List.length_set, Nat.le_succ, hE, Option.isSome_some, Option.getD_some, List.length_map]
    refine aloop_trimF [14, 1, 12, 13] ?_
    simp only [List.map_cons, List.map_nil, ↓upd_eq, ↓envL_cons, WY, reduceIte, reduceEqDiff, reduceAdd, reduceLT, reduceLeDiff, reduceCtorEq, reduceMul, reducePow, W1, W1P, fs_frz, fs_frz0, fs_env, fs_b, fs_n, fs_put, fs_put0, fs_tmp, fs_const, fs_func, fs_obj, fs_setObj, fs_new, fs_next, fs_mk, fs_H, le_app, le_set, app_get, app_set, app_get0c, app_getkc, app_set0c, app_setkc, List.append_assoc, not_false_eq_true, not_true_eq_false, retE_ret, retP_ret, List.length_append, List.length_set, Nat.le_succ]
    refine goLoopF 1 (fun x : Nat × List ByteArray => [(14, .int .i64 x.1)]) (fun x => E (true, x.2) ++ [.box (cellsOf (embP p))]) (fun x => x.1 ≤ p.kids.length ∧ chkRL (p.kids.drop x.1) x.2 = chkR p l) (fun x => p.kids.length - x.1) C_ok (0, l') rfl (by rw [embP_cells]) ⟨Nat.zero_le _, hc.symm⟩ (by decide) ?_
    rintro ⟨i, li⟩ ⟨hi, hr⟩
    simp only [List.drop_succ_cons, List.drop_zero, List.cons_append, List.nil_append]
    simp only [↓upd_eq, ↓envL_cons, WY, reduceIte, reduceEqDiff, reduceAdd, reduceLT, reduceLeDiff, reduceCtorEq, reduceMul, reducePow, W1, W1P, fs_frz, fs_frz0, fs_env, fs_b, fs_n, fs_put, fs_put0, fs_tmp, fs_const, fs_func, fs_obj, fs_setObj, fs_new, fs_next, fs_mk, fs_H, le_app, le_set, app_get, app_set, app_get0c, app_getkc, app_set0c, app_setkc, List.append_assoc, not_false_eq_true, not_true_eq_false, retE_ret, retP_ret, List.length_append, List.length_set, Nat.le_succ, hE]
    refine goIf_d (fun hlt => ?_) (fun hlt => ?_)
    · have hd : p.kids.drop i = p.kid i :: p.kids.drop (i + 1) := by rw [List.drop_eq_getElem_cons hlt]; simp [Pt.kid, hlt]
      simp only at hr
      rw [hd, chkRL] at hr
      have q1 := ih _ (ptkid_mem hlt) li [.box (cellsOf (embP p)), .box (cellsOf (embP (p.kid i)))]
      rw [embP_cells, embP_cells] at q1
      cases hk : (chkR (p.kid i) li).1 with
      | false =>
        rw [hk] at q1 hr
        simp only [Bool.false_eq_true, if_false] at hr
        have hf : (chkR p l).1 = false := by rw [← hr]; exact hk
        have h := True.intro
        repeat' (first
         | (with_reducible first | apply bA | apply bB | apply bC | apply bD | apply bE | apply bF) <;> intro h
         | ((first | refine goCall_norm ?_ | refine goDCall_norm ?_); simp only [AV.norm, AV.normL, W2, W2P, hE, hlt, mapP_kid hlt, List.length_map, retD_ret, AV.bel, hf]; first  | refine fsCallD (q1) (.inl rfl) (hb0 _ _ _ _) ?_)
         | skip) <;> simp only [h, ↓upd_eq, ↓envL_cons, WY, reduceIte, reduceEqDiff, reduceAdd, reduceLT, reduceLeDiff, reduceCtorEq, reduceMul, reducePow, W1, W1P, fs_frz, fs_frz0, fs_env, fs_b, fs_n, fs_put, fs_put0, fs_tmp, fs_const, fs_func, fs_obj, fs_setObj, fs_new, fs_next, fs_mk, fs_H, le_app, le_set, app_get, app_set, app_get0c, app_getkc, app_set0c, app_setkc, List.append_assoc, not_false_eq_true, not_true_eq_false, retE_ret, retP_ret, List.length_append, List.length_set, Nat.le_succ, hE, hlt, mapP_kid hlt, List.length_map, retD_ret, AV.bel, hf]
        rw [hr]; exact List.take_left' (hE _)
      | true =>
        rw [hk] at q1 hr
        simp only [if_true] at hr
        have h := True.intro
        repeat' (first
         | (with_reducible first | apply bA | apply bB | apply bC | apply bD | apply bE | apply bF) <;> intro h
         | ((first | refine goCall_norm ?_ | refine goDCall_norm ?_); simp only [AV.norm, AV.normL, W2, W2P, hE, hlt, mapP_kid hlt, List.length_map]; first  | refine fsCallD (q1) (.inl rfl) (hb0 _ _ _ _) ?_)
         | skip) <;> simp only [h, ↓upd_eq, ↓envL_cons, WY, reduceIte, reduceEqDiff, reduceAdd, reduceLT, reduceLeDiff, reduceCtorEq, reduceMul, reducePow, W1, W1P, fs_frz, fs_frz0, fs_env, fs_b, fs_n, fs_put, fs_put0, fs_tmp, fs_const, fs_func, fs_obj, fs_setObj, fs_new, fs_next, fs_mk, fs_H, le_app, le_set, app_get, app_set, app_get0c, app_getkc, app_set0c, app_setkc, List.append_assoc, not_false_eq_true, not_true_eq_false, retE_ret, retP_ret, List.length_append, List.length_set, Nat.le_succ, hE, hlt, mapP_kid hlt, List.length_map]
        have e2 : chkR (p.kid i) li = (true, (chkR (p.kid i) li).2) := Prod.ext hk rfl
        refine ⟨(i + 1, (chkR (p.kid i) li).2), ⟨hlt, hr⟩, by simp only; omega, weakF_drop ?_ ?_ ?_ ?_ ?_⟩
        · rw [e2]
          refine (congrArg (List.take _) (List.append_assoc (E (true, (chkR (p.kid i) li).2)) [_] [_]).symm).trans (List.take_left' (by simp [hE]))
        · simp [hE]
        · simp only [List.forall_mem_cons, mem_nil_all, frz_app, ↓upd_eq, ↓envL_cons, Nat.reduceEqDiff, if_true, if_false, reduceIte, true_and, and_true, and_self, true_or, or_true, implies_true, List.not_mem_nil, false_implies, AV.bel, AV.belL, AObj.bel, AV.norm, AV.normL, Bool.and_true, Bool.true_and, decide_true, decide_eq_true_eq, List.length_cons, List.length_nil, Nat.zero_add, Nat.reduceAdd, Nat.lt_add_one, Nat.lt_add_right_iff_pos, Nat.zero_lt_succ, Nat.zero_lt_one, Nat.reduceLT, List.take_succ_cons, List.take_zero, wrap_succ hlt hmax]
        · have := hI.hy
          simp only [List.forall_mem_cons, mem_nil_all, frz_app, ↓upd_eq, ↓envL_cons, Nat.reduceEqDiff, if_true, if_false, reduceIte, true_and, and_true, and_self, true_or, or_true, implies_true, List.not_mem_nil, false_implies, AV.bel, AV.belL, AObj.bel, AV.norm, AV.normL, Bool.and_true, Bool.true_and, decide_true, decide_eq_true_eq, List.length_cons, List.length_nil, Nat.zero_add, Nat.reduceAdd, Nat.lt_add_one, Nat.lt_add_right_iff_pos, Nat.zero_lt_succ, Nat.zero_lt_one, Nat.reduceLT, List.take_succ_cons, List.take_zero, mapP_bel, List.length_append, hE]
          simp; omega
        · rw [List.drop_left' (hE _)]
          simp only [List.forall_mem_cons, mem_nil_all, frz_app, ↓upd_eq, ↓envL_cons, Nat.reduceEqDiff, if_true, if_false, reduceIte, true_and, and_true, and_self, true_or, or_true, implies_true, List.not_mem_nil, false_implies, AV.bel, AV.belL, AObj.bel, AV.norm, AV.normL, Bool.and_true, Bool.true_and, decide_true, decide_eq_true_eq, List.length_cons, List.length_nil, Nat.zero_add, Nat.reduceAdd, Nat.lt_add_one, Nat.lt_add_right_iff_pos, Nat.zero_lt_succ, Nat.zero_lt_one, Nat.reduceLT, List.take_succ_cons, List.take_zero, embP_cells, mapP_bel]
    · simp only at hr hi
      rw [List.drop_of_length_le (by omega), chkRL] at hr
      have h := True.intro
      repeat' (first
       | (with_reducible first | apply bA | apply bB | apply bC | apply bD | apply bE | apply bF) <;> intro h
       | skip) <;> simp only [h, ↓upd_eq, ↓envL_cons, WY, reduceIte, reduceEqDiff, reduceAdd, reduceLT, reduceLeDiff, reduceCtorEq, reduceMul, reducePow, W1, W1P, fs_frz, fs_frz0, fs_env, fs_b, fs_n, fs_put, fs_put0, fs_tmp, fs_const, fs_func, fs_obj, fs_setObj, fs_new, fs_next, fs_mk, fs_H, le_app, le_set, app_get, app_set, app_get0c, app_getkc, app_set0c, app_setkc, List.append_assoc, not_false_eq_true, not_true_eq_false, retE_ret, retP_ret, List.length_append, List.length_set, Nat.le_succ, hE, hlt, List.length_map, retD_ret, AV.bel]
      refine ⟨by rw [← hr], ?_⟩
      rw [← hr]; exact List.take_left' (hE _)

theorem goPats_ok (p : Pt) : ∀ {E : Bool × List ByteArray → List AObj} {y B : Nat}, Iter E y B → ∀ l : List ByteArray,
    DCalls Try.prog 104 [embP p, .yld y] (E (true, l)) (.bool (chkR p l).1) (E (chkR p l)) :=
  Pt.ind (p := fun p => ∀ {E : Bool × List ByteArray → List AObj} {y B : Nat}, Iter E y B → ∀ l : List ByteArray, DCalls Try.prog 104 [embP p, .yld y] (E (true, l)) (.bool (chkR p l).1) (E (chkR p l)))
    (fun p ih _ _ _ hI l => goPats_step hI p (fun x hx l Z => ih x hx (hI.app Z) l) l) p

end Go.Proofs.Ytofogicgnldfhaa
end

