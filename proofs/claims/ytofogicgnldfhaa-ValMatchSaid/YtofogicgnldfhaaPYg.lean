/- Lemmas: patterns held against values, first part. No condition. -/
import Derived.Test.YtofogicgnldfhaaPYd
import Derived.Test.YtofogicgnldfhaaY4

section
/- Walks: a pattern held against a value. No condition. -/
set_option linter.unusedSimpArgs false
set_option linter.unusedVariables false
set_option maxHeartbeats 4000000
set_option maxRecDepth 100000
set_option linter.defProp false
namespace Go.Proofs.Ytofogicgnldfhaa
open Go Go.Ab

/-! Cells: a name and a value. -/
abbrev Cl := ByteArray × Vl
def embL2 (x : Cl) : AV := .agg [.str x.1, .int .i64 x.2.kind, .int .i64 x.2.num, .str x.2.str, .int .i64 x.2.co.kind, .int .i64 x.2.co.head, .int .i64 x.2.co.label, .bool x.2.co.neg, .sl (x.2.co.kids.map embC) .no, .sl (x.2.kids.map embV) .no]
theorem embL2_mk (a : ByteArray) (k n : Int) (s : ByteArray) (ck ch cl : Int) (cn : Bool) (cks : List Co) (l : List Vl) :
    AV.agg [.str a, .int .i64 k, .int .i64 n, .str s, .int .i64 ck, .int .i64 ch, .int .i64 cl, .bool cn, .sl (cks.map embC) .no, .sl (l.map embV) .no] = embL2 (a, .mk k n s (.mk ck ch cl cn cks) l) := rfl
theorem embL2_cells (x : Cl) : cellsOf (embL2 x) = [.str x.1, .int .i64 x.2.kind, .int .i64 x.2.num, .str x.2.str, .int .i64 x.2.co.kind, .int .i64 x.2.co.head, .int .i64 x.2.co.label, .bool x.2.co.neg, .sl (x.2.co.kids.map embC) .no, .sl (x.2.kids.map embV) .no] := rfl
theorem embL2_solid (x : Cl) : (embL2 x).solid = true := rfl
theorem embL2_norm (x : Cl) : (embL2 x).norm = embL2 x := by simp only [embL2, AV.norm, AV.normL, mapC_norm, mapV_norm]
theorem embL2_bel (m : Nat) (x : Cl) : (embL2 x).bel m = true := by simp only [embL2, AV.bel, AV.belL, mapC_bel, mapV_bel, Bool.and_self]
theorem all_embL10 (l : List Cl) : (∀ y, y ∈ l.map embL2 → (cellsOf y).length = 10) = True := by
  simp only [eq_iff_iff, iff_true]; intro y hy; obtain ⟨t, _, rfl⟩ := List.mem_map.1 hy; rfl
theorem mapL_norm : ∀ l : List Cl, AV.normL (l.map embL2) = l.map embL2
  | [] => rfl
  | t :: l => by simp only [List.map_cons, AV.normL, embL2_norm t, mapL_norm l]
theorem mapL_bel (m : Nat) : ∀ l : List Cl, AV.belL m (l.map embL2) = true
  | [] => rfl
  | t :: l => by simp only [List.map_cons, AV.belL, embL2_bel m t, mapL_bel m l, Bool.and_self]
theorem mapL_get {l : List Cl} {i : Nat} (h : i < l.length) : (l.map embL2).getD i .any = embL2 (l.getD i default) := by simp [h]
def W1Ld := And.intro @all_embL10 (And.intro @embL2_solid (And.intro @embL2_cells (And.intro @embL2_mk (And.intro @embL2_norm (@mapL_norm)))))
theorem W1L : type_of% W1Ld := W1Ld
def W2Ld := And.intro @embL2_norm (And.intro @mapL_norm (@embL2_mk))
theorem W2L : type_of% W2Ld := W2Ld

/-! What comes of it. -/
inductive RR where
  | none
  | err
  | blame (l : Int) (n : Bool)
structure MO where
  L : List Cl
  b : Bool
  r : RR
def leafP (p : Pt) (w : Vl) : Bool :=
  if p.kind = 3 then (w.kind == 1) && (w.num == p.num) else if p.kind = 4 then (w.kind == 2) && (w.num == p.num) else if p.kind = 5 then (w.kind == 3) && (w.str.toList == p.str.toList)
  else if p.kind = 6 then w.kind == 4 else w.kind == 6
mutual
noncomputable def matP : Pt → Vl → List Cl → MO
  | .mk k f t m n s ks, w, L =>
    if k = 1 then ⟨L, true, .none⟩ else if k = 2 then ⟨L ++ [(m, w)], true, .none⟩ else if w.co.kind = 5 then ⟨L, false, .none⟩
    else if k ≠ 7 ∧ k ≠ 9 then ⟨L, leafP (.mk k f t m n s ks) w, .none⟩
    else if (k = 7 ∧ w.kind ≠ 5) ∨ (k = 9 ∧ w.kind ≠ 7) then ⟨L, false, .none⟩
    else match twoV w with
      | .err => ⟨L, false, .err⟩
      | .blame l n => ⟨L, false, .blame l n⟩
      | .ok a b => matPL ks [a, b] L
noncomputable def matPL : List Pt → List Vl → List Cl → MO
  | [], _, L => ⟨L, true, .none⟩
  | p :: ps, ws, L => if (matP p (ws.headD default) L).b = true ∧ ps.isEmpty = false then matPL ps ws.tail (matP p (ws.headD default) L).L else matP p (ws.headD default) L
end
theorem okP_two {p : Pt} (h : okP p = true) (hk : p.kind = 7 ∨ p.kind = 9) : p.kids.length = 2 := by
  simp only [okP, Bool.and_eq_true, decide_eq_true_eq] at h
  have := h.1.1.2
  rw [if_pos hk] at this; omega
theorem okP_kind {p : Pt} (h : okP p = true) : 1 ≤ p.kind ∧ p.kind ≤ 9 := by
  simp only [okP, Bool.and_eq_true, decide_eq_true_eq] at h
  exact ⟨h.1.2, h.2⟩
theorem matP_eq (p : Pt) (w : Vl) (L : List Cl) (hl : p.kind = 7 ∨ p.kind = 9 → p.kids.length = 2) : matP p w L = if p.kind = 1 then ⟨L, true, .none⟩ else if p.kind = 2 then ⟨L ++ [(p.name, w)], true, .none⟩ else if w.co.kind = 5 then ⟨L, false, .none⟩
    else if p.kind ≠ 7 ∧ p.kind ≠ 9 then ⟨L, leafP p w, .none⟩
    else if (p.kind = 7 ∧ w.kind ≠ 5) ∨ (p.kind = 9 ∧ w.kind ≠ 7) then ⟨L, false, .none⟩
    else match twoV w with
      | .err => ⟨L, false, .err⟩
      | .blame l n => ⟨L, false, .blame l n⟩
      | .ok a b => if (matP (p.kid 0) a L).b then matP (p.kid 1) b (matP (p.kid 0) a L).L else matP (p.kid 0) a L := by
  cases p with
  | mk k f t m n s ks =>
    rw [matP]
    simp only [Pt.kind, Pt.kids, Pt.name] at hl ⊢
    by_cases h1 : k = 1
    · simp [h1]
    by_cases h2 : k = 2
    · simp [h2]
    by_cases h3 : w.co.kind = 5
    · simp [h1, h2, h3]
    by_cases h7 : k ≠ 7 ∧ k ≠ 9
    · simp [h1, h2, h3, h7]
    have := hl (by omega)
    match ks, this with
    | [a, b], _ =>
      have h8 : (k ≠ 7 ∧ k ≠ 9) = False := by simp only [eq_iff_iff, iff_false]; exact h7
      simp only [h1, h2, h3, h8, if_false]
      congr 1
      cases twoV w with
      | err => rfl
      | blame l n => rfl
      | ok x y =>
        simp only [matPL, Pt.kid, Pt.kids, List.headD_cons, List.tail_cons, List.getD_cons_zero, List.getD_cons_succ, List.isEmpty_cons, List.isEmpty_nil, and_true, Bool.true_eq_false, and_false, if_false]

/-! The heap: what the pattern's cells are in. -/
def tkB (b : Bool) : Tk := if b then .full else .no
theorem tkB_bel (m : Nat) (b : Bool) : (AV.sl [] (tkB b)).bel m = true := by cases b <;> rfl
theorem tkB_f : tkB false = .no := rfl
/-- A result's cells: fresh, or stored. -/
abbrev RC := Bool × Int × Int × Bool × Int
def mbV (q v : Nat) (L : List Cl) (r : RC) : AObj := .box [.ms q v L.length, .int .i64 r.2.1, .int .i64 0, .int .i64 0, .str ByteArray.empty, .int .i64 0, .int .i64 0, .int .i64 0, .bool false, .sl [] (tkB r.1), .sl [] (tkB r.1), .int .i64 r.2.2.1, .bool r.2.2.2.1, .int .i64 0, .int .i64 0, .int .i64 0, .int .i64 r.2.2.2.2]
def marV (v : Nat) (L : List Cl) : AObj := .arr v 10 (L.map embL2)
def hpM (F : List AObj) (p q v : Nat) (L : List Cl) (r : RC) : List AObj := stF F p q (mbV q v L r) (marV v L)
def rcOf : RR → RC → RC
  | .none, r => r
  | .err, _ => (false, 0, 0, false, 8)
  | .blame l n, _ => (false, 2, l, n, 0)
theorem hpM_bel {F : List AObj} {p q b v v' : Nat} {L L' : List Cl} {r r' : RC} (hp : p < F.length) (hq : q < F.length) (hne : q ≠ p) (hb : ∀ x ∈ (hpM F p q v L r).take b, x.bel b = true) : ∀ x ∈ (hpM F p q v' L' r').take b, x.bel b = true :=
  stF_bel hp hq hne (fun _ h => by
    simp only [mbV, AObj.bel, AV.belL, Bool.and_eq_true] at h ⊢
    refine ⟨h.1, rfl, rfl, rfl, rfl, rfl, rfl, rfl, rfl, tkB_bel _ _, tkB_bel _ _, rfl, rfl, rfl, rfl, rfl, rfl, trivial⟩) (by simp only [marV, AObj.bel, mapL_bel]) hb
mutual
def sizeP : Pt → Nat
  | .mk _ _ _ _ _ _ l => 1 + sizePL l
def sizePL : List Pt → Nat
  | [] => 0
  | t :: l => sizeP t + sizePL l
end

end Go.Proofs.Ytofogicgnldfhaa
end

section
/- Walks: a pattern held against a value: leaves, names. No condition. -/
set_option linter.unusedSimpArgs false
set_option linter.unusedVariables false
set_option maxHeartbeats 4000000
set_option maxRecDepth 100000
namespace Go.Proofs.Ytofogicgnldfhaa
open Go Go.Ab
open Nat (reduceEqDiff reduceAdd reduceLT reduceLeDiff reduceMul reducePow)
attribute [local irreducible] PCalls ACalls CallK GoCall GoDCall GoIf GoGb GoDGb GoO GoD GoX GoDX GoG GoDG GoGv GoDGv Go ALoop

section
variable {p q : Nat}
def CV : Cfg := { C with inpl := fun d => d == 27, zwr := fun f => f == 92 }
theorem CV_ok : CfgOK Try.prog CV := C_ok
theorem CV_ty (t : Nat) : CV.ty t = C.ty t := rfl
theorem CV_inpl (t : Nat) : CV.inpl t = (t == 27) := rfl
def PatC (p q : Nat) (pt : Pt) (w : Vl) : Prop := ∀ (L : List Cl) (v : Nat) (r : RC), L.length + sizeP pt ≤ 1000000 → ∀ F : List AObj, p < F.length → q < F.length → q ≠ p →
  DCalls Try.prog 92 [.bptr p 0, embP pt, embV w] (hpM F p q v L r) (.bool (matP pt w L).b) (hpM F p q (v + ((matP pt w L).L.length - L.length)) (matP pt w L).L (rcOf (matP pt w L).r r))
theorem pat_any (pt : Pt) (w : Vl) (hk : pt.kind = 1) : PatC p q pt w := by
  intro L v r hsz F hp hq hne
  have hm : matP pt w L = ⟨L, true, .none⟩ := by rw [matP_eq _ _ _ (by omega), if_pos hk]
  rw [hm]
  simp only [Nat.sub_self, Nat.add_zero, rcOf]
  have hBE : ∀ j : Int, (pt.kind == j) = ((1 : Int) == j) := fun j => by rw [hk]
  have hBN : ∀ j : Int, (pt.kind != j) = ((1 : Int) != j) := fun j => by rw [hk]
  have hP := stP hp hq hne
  unfold DCalls
  refine acallsD_text CV_ok Try.func92 rfl (by decide) (Nat.le_of_ble_eq_true rfl) (by decide) fun ok => ?_
  rw [Try.results92]
  have h := True.intro
  repeat' (first
   | (with_reducible first | apply bA | apply bB | apply bC | apply bD | apply bE | apply bF) <;> intro h
   | refine go_drawF (id := 5) CV_ok (fun _ => trivial) mixed 0 Try.f92.ntmps (by first | (simp; done) | (simp; omega)) rfl (by kernel_rfl) (by decide) ?_
   | refine go_drawF (id := 26) CV_ok (fun _ => trivial) mixed 0 Try.f92.ntmps (by first | (simp; done) | (simp; omega)) rfl (by kernel_rfl) (by decide) ?_
   | refine goRound ?_ CV_ok Try.f92.ntmps rfl (by decide)
   | skip) <;> simp only [h, ↓upd_eq, ↓envL_cons, WY, reduceIte, reduceEqDiff, reduceAdd, reduceLT, reduceLeDiff, reduceCtorEq, reduceMul, reducePow, W1, W1C, W1P, W1V, W1L, fs_frz, fs_frz0, fs_env, fs_b, fs_n, fs_put, fs_put0, fs_tmp, fs_const, fs_func, fs_obj, fs_setObj, fs_new, fs_next, fs_mk, fs_H, le_app, le_set, app_get, app_set, app_get0c, app_getkc, app_set0c, app_setkc, List.append_assoc, not_false_eq_true, not_true_eq_false, retE_ret, retP_ret, List.length_append, List.length_set, Nat.le_succ, Go.Ab.W3, Int.reduceAdd, Int.reduceLT, Int.reduceToNat, Int.reduceBEq, Int.reduceBNe, Int.reduceLE, CV_ty, CV_inpl, hBE, Int.reduceBEq, hpM, mbV, marV, hP, AV.belL, AV.bel, retD_ret, retD_normal, cutNormal_normal]
  all_goals rfl
theorem pat_name (pt : Pt) (w : Vl) (hk : pt.kind = 2) : PatC p q pt w := by
  intro L v r hsz F hp hq hne
  have hm : matP pt w L = ⟨L ++ [(pt.name, w)], true, .none⟩ := by rw [matP_eq _ _ _ (by omega), if_neg (by omega), if_pos hk]
  rw [hm]
  have hll : (L ++ [(pt.name, w)]).length - L.length = 1 := by simp
  have hll2 : (L ++ [(pt.name, w)]).length = L.length + 1 := by simp
  have hs1 : 1 ≤ sizeP pt := by cases pt; simp [sizeP]
  simp only [hll, rcOf]
  have hBE : ∀ j : Int, (pt.kind == j) = ((2 : Int) == j) := fun j => by rw [hk]
  have hBN : ∀ j : Int, (pt.kind != j) = ((2 : Int) != j) := fun j => by rw [hk]
  have hP := stP hp hq hne
  have r1 : (L.length + 1 ≤ 9223372036854775807) = True := by simp only [eq_iff_iff, iff_true]; omega
  have r2 : ((L.length + 1) * 128 ≤ 140737488355328) = True := by simp only [eq_iff_iff, iff_true]; omega
  have htk : (List.map embL2 L).take L.length = List.map embL2 L := by rw [List.take_of_length_le (by simp)]
  have happ : List.map embL2 L ++ [embL2 (pt.name, w)] = List.map embL2 (L ++ [(pt.name, w)]) := by simp
  unfold DCalls
  refine acallsD_text CV_ok Try.func92 rfl (by decide) (Nat.le_of_ble_eq_true rfl) (by decide) fun ok => ?_
  rw [Try.results92]
  have h := True.intro
  repeat' (first
   | (with_reducible first | apply bA | apply bB | apply bC | apply bD | apply bE | apply bF) <;> intro h
   | refine go_drawF (id := 5) CV_ok (fun _ => trivial) mixed 0 Try.f92.ntmps (by first | (simp; done) | (simp; omega)) rfl (by kernel_rfl) (by decide) ?_
   | refine go_drawF (id := 26) CV_ok (fun _ => trivial) mixed 0 Try.f92.ntmps (by first | (simp; done) | (simp; omega)) rfl (by kernel_rfl) (by decide) ?_
   | refine goRound ?_ CV_ok Try.f92.ntmps rfl (by decide)
   | skip) <;> simp only [h, ↓upd_eq, ↓envL_cons, WY, reduceIte, reduceEqDiff, reduceAdd, reduceLT, reduceLeDiff, reduceCtorEq, reduceMul, reducePow, W1, W1C, W1P, W1V, W1L, fs_frz, fs_frz0, fs_env, fs_b, fs_n, fs_put, fs_put0, fs_tmp, fs_const, fs_func, fs_obj, fs_setObj, fs_new, fs_next, fs_mk, fs_H, le_app, le_set, app_get, app_set, app_get0c, app_getkc, app_set0c, app_setkc, List.append_assoc, not_false_eq_true, not_true_eq_false, retE_ret, retP_ret, List.length_append, List.length_set, Nat.le_succ, Go.Ab.W3, Int.reduceAdd, Int.reduceLT, Int.reduceToNat, Int.reduceBEq, Int.reduceBNe, Int.reduceLE, CV_ty, CV_inpl, Nat.reduceBEq, hBE, Int.reduceBEq, hpM, mbV, marV, hP, r1, r2, htk, happ, hll2, embV_cells, embV_bel, AV.belL, AV.bel, implies_true, retD_ret, retD_normal, cutNormal_normal]
  all_goals exact ⟨fun _ => embL2_bel _ _, fun _ => decide_eq_true hq⟩
theorem pat_inj (pt : Pt) (w : Vl) (h1 : pt.kind ≠ 1) (h2 : pt.kind ≠ 2) (h5 : w.co.kind = 5) (hl : pt.kind = 7 ∨ pt.kind = 9 → pt.kids.length = 2) : PatC p q pt w := by
  intro L v r hsz F hp hq hne
  have hm : matP pt w L = ⟨L, false, .none⟩ := by rw [matP_eq _ _ _ hl, if_neg h1, if_neg h2, if_pos h5]
  rw [hm]
  simp only [Nat.sub_self, Nat.add_zero, rcOf]
  have b1 : (pt.kind == 1) = false := by simpa using h1
  have b2 : (pt.kind == 2) = false := by simpa using h2
  have b5 : (w.co.kind == 5) = true := by simpa using h5
  have hP := stP hp hq hne
  unfold DCalls
  refine acallsD_text CV_ok Try.func92 rfl (by decide) (Nat.le_of_ble_eq_true rfl) (by decide) fun ok => ?_
  rw [Try.results92]
  have h := True.intro
  repeat' (first
   | (with_reducible first | apply bA | apply bB | apply bC | apply bD | apply bE | apply bF) <;> intro h
   | refine go_drawF (id := 5) CV_ok (fun _ => trivial) mixed 0 Try.f92.ntmps (by first | (simp; done) | (simp; omega)) rfl (by kernel_rfl) (by decide) ?_
   | refine go_drawF (id := 26) CV_ok (fun _ => trivial) mixed 0 Try.f92.ntmps (by first | (simp; done) | (simp; omega)) rfl (by kernel_rfl) (by decide) ?_
   | refine goRound ?_ CV_ok Try.f92.ntmps rfl (by decide)
   | skip) <;> simp only [h, ↓upd_eq, ↓envL_cons, WY, reduceIte, reduceEqDiff, reduceAdd, reduceLT, reduceLeDiff, reduceCtorEq, reduceMul, reducePow, W1, W1C, W1P, W1V, W1L, fs_frz, fs_frz0, fs_env, fs_b, fs_n, fs_put, fs_put0, fs_tmp, fs_const, fs_func, fs_obj, fs_setObj, fs_new, fs_next, fs_mk, fs_H, le_app, le_set, app_get, app_set, app_get0c, app_getkc, app_set0c, app_setkc, List.append_assoc, not_false_eq_true, not_true_eq_false, retE_ret, retP_ret, List.length_append, List.length_set, Nat.le_succ, Go.Ab.W3, Int.reduceAdd, Int.reduceLT, Int.reduceToNat, Int.reduceBEq, Int.reduceBNe, Int.reduceLE, CV_ty, CV_inpl, b1, b2, b5, hpM, mbV, marV, hP, AV.belL, AV.bel, retD_ret, retD_normal, cutNormal_normal]
  all_goals rfl
theorem pat_leaf3 (pt : Pt) (w : Vl) (hk : pt.kind = 3) (h5 : w.co.kind ≠ 5) : PatC p q pt w := by
  intro L v r hsz F hp hq hne
  have hm : matP pt w L = ⟨L, leafP pt w, .none⟩ := by rw [matP_eq _ _ _ (by omega), if_neg (by omega), if_neg (by omega), if_neg h5, if_pos (by omega)]
  have hlf : leafP pt w = ((w.kind == 1) && (w.num == pt.num)) := by unfold leafP; rw [hk]; rfl
  rw [hm, hlf]
  simp only [Nat.sub_self, Nat.add_zero, rcOf]
  have b5 : (w.co.kind == 5) = false := by simpa using h5
  have hBE : ∀ j : Int, (pt.kind == j) = ((3 : Int) == j) := fun j => by rw [hk]
  have hBN : ∀ j : Int, (pt.kind != j) = ((3 : Int) != j) := fun j => by rw [hk]
  have hP := stP hp hq hne
  unfold DCalls
  refine acallsD_text CV_ok Try.func92 rfl (by decide) (Nat.le_of_ble_eq_true rfl) (by decide) fun ok => ?_
  rw [Try.results92]
  have h := True.intro
  repeat' (first
   | (with_reducible first | apply bA | apply bB | apply bC | apply bD | apply bE | apply bF) <;> intro h
   | refine go_drawF (id := 5) CV_ok (fun _ => trivial) mixed 0 Try.f92.ntmps (by first | (simp; done) | (simp; omega)) rfl (by kernel_rfl) (by decide) ?_
   | refine go_drawF (id := 26) CV_ok (fun _ => trivial) mixed 0 Try.f92.ntmps (by first | (simp; done) | (simp; omega)) rfl (by kernel_rfl) (by decide) ?_
   | refine goRound ?_ CV_ok Try.f92.ntmps rfl (by decide)
   | skip) <;> simp only [h, ↓upd_eq, ↓envL_cons, WY, reduceIte, reduceEqDiff, reduceAdd, reduceLT, reduceLeDiff, reduceCtorEq, reduceMul, reducePow, W1, W1C, W1P, W1V, W1L, fs_frz, fs_frz0, fs_env, fs_b, fs_n, fs_put, fs_put0, fs_tmp, fs_const, fs_func, fs_obj, fs_setObj, fs_new, fs_next, fs_mk, fs_H, le_app, le_set, app_get, app_set, app_get0c, app_getkc, app_set0c, app_setkc, List.append_assoc, not_false_eq_true, not_true_eq_false, retE_ret, retP_ret, List.length_append, List.length_set, Nat.le_succ, Go.Ab.W3, Int.reduceAdd, Int.reduceLT, Int.reduceToNat, Int.reduceBEq, Int.reduceBNe, Int.reduceLE, CV_ty, CV_inpl, hBE, Int.reduceBEq, b5, hpM, mbV, marV, hP, AV.belL, AV.bel, retD_ret, retD_normal, cutNormal_normal]
  all_goals (first | rfl | (simp_all; done) | (refine ⟨?_, rfl⟩; simp_all) | trace_state)
theorem pat_leaf4 (pt : Pt) (w : Vl) (hk : pt.kind = 4) (h5 : w.co.kind ≠ 5) : PatC p q pt w := by
  intro L v r hsz F hp hq hne
  have hm : matP pt w L = ⟨L, leafP pt w, .none⟩ := by rw [matP_eq _ _ _ (by omega), if_neg (by omega), if_neg (by omega), if_neg h5, if_pos (by omega)]
  have hlf : leafP pt w = ((w.kind == 2) && (w.num == pt.num)) := by unfold leafP; rw [hk]; rfl
  rw [hm, hlf]
  simp only [Nat.sub_self, Nat.add_zero, rcOf]
  have b5 : (w.co.kind == 5) = false := by simpa using h5
  have hBE : ∀ j : Int, (pt.kind == j) = ((4 : Int) == j) := fun j => by rw [hk]
  have hBN : ∀ j : Int, (pt.kind != j) = ((4 : Int) != j) := fun j => by rw [hk]
  have hP := stP hp hq hne
  unfold DCalls
  refine acallsD_text CV_ok Try.func92 rfl (by decide) (Nat.le_of_ble_eq_true rfl) (by decide) fun ok => ?_
  rw [Try.results92]
  have h := True.intro
  repeat' (first
   | (with_reducible first | apply bA | apply bB | apply bC | apply bD | apply bE | apply bF) <;> intro h
   | refine go_drawF (id := 5) CV_ok (fun _ => trivial) mixed 0 Try.f92.ntmps (by first | (simp; done) | (simp; omega)) rfl (by kernel_rfl) (by decide) ?_
   | refine go_drawF (id := 26) CV_ok (fun _ => trivial) mixed 0 Try.f92.ntmps (by first | (simp; done) | (simp; omega)) rfl (by kernel_rfl) (by decide) ?_
   | refine goRound ?_ CV_ok Try.f92.ntmps rfl (by decide)
   | skip) <;> simp only [h, ↓upd_eq, ↓envL_cons, WY, reduceIte, reduceEqDiff, reduceAdd, reduceLT, reduceLeDiff, reduceCtorEq, reduceMul, reducePow, W1, W1C, W1P, W1V, W1L, fs_frz, fs_frz0, fs_env, fs_b, fs_n, fs_put, fs_put0, fs_tmp, fs_const, fs_func, fs_obj, fs_setObj, fs_new, fs_next, fs_mk, fs_H, le_app, le_set, app_get, app_set, app_get0c, app_getkc, app_set0c, app_setkc, List.append_assoc, not_false_eq_true, not_true_eq_false, retE_ret, retP_ret, List.length_append, List.length_set, Nat.le_succ, Go.Ab.W3, Int.reduceAdd, Int.reduceLT, Int.reduceToNat, Int.reduceBEq, Int.reduceBNe, Int.reduceLE, CV_ty, CV_inpl, hBE, Int.reduceBEq, b5, hpM, mbV, marV, hP, AV.belL, AV.bel, retD_ret, retD_normal, cutNormal_normal]
  all_goals (first | rfl | (simp_all; done) | (refine ⟨?_, rfl⟩; simp_all) | trace_state)
theorem pat_leaf5 (pt : Pt) (w : Vl) (hk : pt.kind = 5) (h5 : w.co.kind ≠ 5) : PatC p q pt w := by
  intro L v r hsz F hp hq hne
  have hm : matP pt w L = ⟨L, leafP pt w, .none⟩ := by rw [matP_eq _ _ _ (by omega), if_neg (by omega), if_neg (by omega), if_neg h5, if_pos (by omega)]
  have hlf : leafP pt w = ((w.kind == 3) && (w.str.toList == pt.str.toList)) := by unfold leafP; rw [hk]; rfl
  rw [hm, hlf]
  simp only [Nat.sub_self, Nat.add_zero, rcOf]
  have b5 : (w.co.kind == 5) = false := by simpa using h5
  have hBE : ∀ j : Int, (pt.kind == j) = ((5 : Int) == j) := fun j => by rw [hk]
  have hBN : ∀ j : Int, (pt.kind != j) = ((5 : Int) != j) := fun j => by rw [hk]
  have hP := stP hp hq hne
  unfold DCalls
  refine acallsD_text CV_ok Try.func92 rfl (by decide) (Nat.le_of_ble_eq_true rfl) (by decide) fun ok => ?_
  rw [Try.results92]
  have h := True.intro
  repeat' (first
   | (with_reducible first | apply bA | apply bB | apply bC | apply bD | apply bE | apply bF) <;> intro h
   | refine go_drawF (id := 5) CV_ok (fun _ => trivial) mixed 0 Try.f92.ntmps (by first | (simp; done) | (simp; omega)) rfl (by kernel_rfl) (by decide) ?_
   | refine go_drawF (id := 26) CV_ok (fun _ => trivial) mixed 0 Try.f92.ntmps (by first | (simp; done) | (simp; omega)) rfl (by kernel_rfl) (by decide) ?_
   | refine goRound ?_ CV_ok Try.f92.ntmps rfl (by decide)
   | skip) <;> simp only [h, ↓upd_eq, ↓envL_cons, WY, reduceIte, reduceEqDiff, reduceAdd, reduceLT, reduceLeDiff, reduceCtorEq, reduceMul, reducePow, W1, W1C, W1P, W1V, W1L, fs_frz, fs_frz0, fs_env, fs_b, fs_n, fs_put, fs_put0, fs_tmp, fs_const, fs_func, fs_obj, fs_setObj, fs_new, fs_next, fs_mk, fs_H, le_app, le_set, app_get, app_set, app_get0c, app_getkc, app_set0c, app_setkc, List.append_assoc, not_false_eq_true, not_true_eq_false, retE_ret, retP_ret, List.length_append, List.length_set, Nat.le_succ, Go.Ab.W3, Int.reduceAdd, Int.reduceLT, Int.reduceToNat, Int.reduceBEq, Int.reduceBNe, Int.reduceLE, CV_ty, CV_inpl, hBE, Int.reduceBEq, b5, hpM, mbV, marV, hP, AV.belL, AV.bel, retD_ret, retD_normal, cutNormal_normal]
  all_goals (first | rfl | (simp_all; done) | (refine ⟨?_, rfl⟩; simp_all) | trace_state)
theorem pat_leaf6 (pt : Pt) (w : Vl) (hk : pt.kind = 6) (h5 : w.co.kind ≠ 5) : PatC p q pt w := by
  intro L v r hsz F hp hq hne
  have hm : matP pt w L = ⟨L, leafP pt w, .none⟩ := by rw [matP_eq _ _ _ (by omega), if_neg (by omega), if_neg (by omega), if_neg h5, if_pos (by omega)]
  have hlf : leafP pt w = (w.kind == 4) := by unfold leafP; rw [hk]; rfl
  rw [hm, hlf]
  simp only [Nat.sub_self, Nat.add_zero, rcOf]
  have b5 : (w.co.kind == 5) = false := by simpa using h5
  have hBE : ∀ j : Int, (pt.kind == j) = ((6 : Int) == j) := fun j => by rw [hk]
  have hBN : ∀ j : Int, (pt.kind != j) = ((6 : Int) != j) := fun j => by rw [hk]
  have hP := stP hp hq hne
  unfold DCalls
  refine acallsD_text CV_ok Try.func92 rfl (by decide) (Nat.le_of_ble_eq_true rfl) (by decide) fun ok => ?_
  rw [Try.results92]
  have h := True.intro
  repeat' (first
   | (with_reducible first | apply bA | apply bB | apply bC | apply bD | apply bE | apply bF) <;> intro h
   | refine go_drawF (id := 5) CV_ok (fun _ => trivial) mixed 0 Try.f92.ntmps (by first | (simp; done) | (simp; omega)) rfl (by kernel_rfl) (by decide) ?_
   | refine go_drawF (id := 26) CV_ok (fun _ => trivial) mixed 0 Try.f92.ntmps (by first | (simp; done) | (simp; omega)) rfl (by kernel_rfl) (by decide) ?_
   | refine goRound ?_ CV_ok Try.f92.ntmps rfl (by decide)
   | skip) <;> simp only [h, ↓upd_eq, ↓envL_cons, WY, reduceIte, reduceEqDiff, reduceAdd, reduceLT, reduceLeDiff, reduceCtorEq, reduceMul, reducePow, W1, W1C, W1P, W1V, W1L, fs_frz, fs_frz0, fs_env, fs_b, fs_n, fs_put, fs_put0, fs_tmp, fs_const, fs_func, fs_obj, fs_setObj, fs_new, fs_next, fs_mk, fs_H, le_app, le_set, app_get, app_set, app_get0c, app_getkc, app_set0c, app_setkc, List.append_assoc, not_false_eq_true, not_true_eq_false, retE_ret, retP_ret, List.length_append, List.length_set, Nat.le_succ, Go.Ab.W3, Int.reduceAdd, Int.reduceLT, Int.reduceToNat, Int.reduceBEq, Int.reduceBNe, Int.reduceLE, CV_ty, CV_inpl, hBE, Int.reduceBEq, b5, hpM, mbV, marV, hP, AV.belL, AV.bel, retD_ret, retD_normal, cutNormal_normal]
  all_goals (first | rfl | (simp_all; done) | (refine ⟨?_, rfl⟩; simp_all) | trace_state)
theorem pat_leaf8 (pt : Pt) (w : Vl) (hk : pt.kind = 8) (h5 : w.co.kind ≠ 5) : PatC p q pt w := by
  intro L v r hsz F hp hq hne
  have hm : matP pt w L = ⟨L, leafP pt w, .none⟩ := by rw [matP_eq _ _ _ (by omega), if_neg (by omega), if_neg (by omega), if_neg h5, if_pos (by omega)]
  have hlf : leafP pt w = (w.kind == 6) := by unfold leafP; rw [hk]; rfl
  rw [hm, hlf]
  simp only [Nat.sub_self, Nat.add_zero, rcOf]
  have b5 : (w.co.kind == 5) = false := by simpa using h5
  have hBE : ∀ j : Int, (pt.kind == j) = ((8 : Int) == j) := fun j => by rw [hk]
  have hBN : ∀ j : Int, (pt.kind != j) = ((8 : Int) != j) := fun j => by rw [hk]
  have hP := stP hp hq hne
  unfold DCalls
  refine acallsD_text CV_ok Try.func92 rfl (by decide) (Nat.le_of_ble_eq_true rfl) (by decide) fun ok => ?_
  rw [Try.results92]
  have h := True.intro
  repeat' (first
   | (with_reducible first | apply bA | apply bB | apply bC | apply bD | apply bE | apply bF) <;> intro h
   | refine go_drawF (id := 5) CV_ok (fun _ => trivial) mixed 0 Try.f92.ntmps (by first | (simp; done) | (simp; omega)) rfl (by kernel_rfl) (by decide) ?_
   | refine go_drawF (id := 26) CV_ok (fun _ => trivial) mixed 0 Try.f92.ntmps (by first | (simp; done) | (simp; omega)) rfl (by kernel_rfl) (by decide) ?_
   | refine goRound ?_ CV_ok Try.f92.ntmps rfl (by decide)
   | skip) <;> simp only [h, ↓upd_eq, ↓envL_cons, WY, reduceIte, reduceEqDiff, reduceAdd, reduceLT, reduceLeDiff, reduceCtorEq, reduceMul, reducePow, W1, W1C, W1P, W1V, W1L, fs_frz, fs_frz0, fs_env, fs_b, fs_n, fs_put, fs_put0, fs_tmp, fs_const, fs_func, fs_obj, fs_setObj, fs_new, fs_next, fs_mk, fs_H, le_app, le_set, app_get, app_set, app_get0c, app_getkc, app_set0c, app_setkc, List.append_assoc, not_false_eq_true, not_true_eq_false, retE_ret, retP_ret, List.length_append, List.length_set, Nat.le_succ, Go.Ab.W3, Int.reduceAdd, Int.reduceLT, Int.reduceToNat, Int.reduceBEq, Int.reduceBNe, Int.reduceLE, CV_ty, CV_inpl, hBE, Int.reduceBEq, b5, hpM, mbV, marV, hP, AV.belL, AV.bel, retD_ret, retD_normal, cutNormal_normal]
  all_goals (first | rfl | (simp_all; done) | (refine ⟨?_, rfl⟩; simp_all) | trace_state)
theorem pat_no7 (pt : Pt) (w : Vl) (hk : pt.kind = 7) (hl : pt.kids.length = 2) (h5 : w.co.kind ≠ 5) (hw : w.kind ≠ 5) : PatC p q pt w := by
  intro L v r hsz F hp hq hne
  have hm : matP pt w L = ⟨L, false, .none⟩ := by rw [matP_eq _ _ _ (fun _ => hl), if_neg (by omega), if_neg (by omega), if_neg h5, if_neg (by omega), if_pos (.inl ⟨hk, hw⟩)]
  rw [hm]
  simp only [Nat.sub_self, Nat.add_zero, rcOf]
  have b5 : (w.co.kind == 5) = false := by simpa using h5
  have bw : (w.kind != 5) = true := by simpa using hw
  have hBE : ∀ j : Int, (pt.kind == j) = ((7 : Int) == j) := fun j => by rw [hk]
  have hBN : ∀ j : Int, (pt.kind != j) = ((7 : Int) != j) := fun j => by rw [hk]
  have hP := stP hp hq hne
  unfold DCalls
  refine acallsD_text CV_ok Try.func92 rfl (by decide) (Nat.le_of_ble_eq_true rfl) (by decide) fun ok => ?_
  rw [Try.results92]
  have h := True.intro
  repeat' (first
   | (with_reducible first | apply bA | apply bB | apply bC | apply bD | apply bE | apply bF) <;> intro h
   | refine go_drawF (id := 5) CV_ok (fun _ => trivial) mixed 0 Try.f92.ntmps (by first | (simp; done) | (simp; omega)) rfl (by kernel_rfl) (by decide) ?_
   | refine go_drawF (id := 26) CV_ok (fun _ => trivial) mixed 0 Try.f92.ntmps (by first | (simp; done) | (simp; omega)) rfl (by kernel_rfl) (by decide) ?_
   | refine goRound ?_ CV_ok Try.f92.ntmps rfl (by decide)
   | skip) <;> simp only [h, ↓upd_eq, ↓envL_cons, WY, reduceIte, reduceEqDiff, reduceAdd, reduceLT, reduceLeDiff, reduceCtorEq, reduceMul, reducePow, W1, W1C, W1P, W1V, W1L, fs_frz, fs_frz0, fs_env, fs_b, fs_n, fs_put, fs_put0, fs_tmp, fs_const, fs_func, fs_obj, fs_setObj, fs_new, fs_next, fs_mk, fs_H, le_app, le_set, app_get, app_set, app_get0c, app_getkc, app_set0c, app_setkc, List.append_assoc, not_false_eq_true, not_true_eq_false, retE_ret, retP_ret, List.length_append, List.length_set, Nat.le_succ, Go.Ab.W3, Int.reduceAdd, Int.reduceLT, Int.reduceToNat, Int.reduceBEq, Int.reduceBNe, Int.reduceLE, CV_ty, CV_inpl, hBE, Int.reduceBEq, b5, bw, hpM, mbV, marV, hP, AV.belL, AV.bel, retD_ret, retD_normal, cutNormal_normal]
  all_goals rfl
theorem pat_no9 (pt : Pt) (w : Vl) (hk : pt.kind = 9) (hl : pt.kids.length = 2) (h5 : w.co.kind ≠ 5) (hw : w.kind ≠ 7) : PatC p q pt w := by
  intro L v r hsz F hp hq hne
  have hm : matP pt w L = ⟨L, false, .none⟩ := by rw [matP_eq _ _ _ (fun _ => hl), if_neg (by omega), if_neg (by omega), if_neg h5, if_neg (by omega), if_pos (.inr ⟨hk, hw⟩)]
  rw [hm]
  simp only [Nat.sub_self, Nat.add_zero, rcOf]
  have b5 : (w.co.kind == 5) = false := by simpa using h5
  have bw : (w.kind != 7) = true := by simpa using hw
  have hBE : ∀ j : Int, (pt.kind == j) = ((9 : Int) == j) := fun j => by rw [hk]
  have hBN : ∀ j : Int, (pt.kind != j) = ((9 : Int) != j) := fun j => by rw [hk]
  have hP := stP hp hq hne
  unfold DCalls
  refine acallsD_text CV_ok Try.func92 rfl (by decide) (Nat.le_of_ble_eq_true rfl) (by decide) fun ok => ?_
  rw [Try.results92]
  have h := True.intro
  repeat' (first
   | (with_reducible first | apply bA | apply bB | apply bC | apply bD | apply bE | apply bF) <;> intro h
   | refine go_drawF (id := 5) CV_ok (fun _ => trivial) mixed 0 Try.f92.ntmps (by first | (simp; done) | (simp; omega)) rfl (by kernel_rfl) (by decide) ?_
   | refine go_drawF (id := 26) CV_ok (fun _ => trivial) mixed 0 Try.f92.ntmps (by first | (simp; done) | (simp; omega)) rfl (by kernel_rfl) (by decide) ?_
   | refine goRound ?_ CV_ok Try.f92.ntmps rfl (by decide)
   | skip) <;> simp only [h, ↓upd_eq, ↓envL_cons, WY, reduceIte, reduceEqDiff, reduceAdd, reduceLT, reduceLeDiff, reduceCtorEq, reduceMul, reducePow, W1, W1C, W1P, W1V, W1L, fs_frz, fs_frz0, fs_env, fs_b, fs_n, fs_put, fs_put0, fs_tmp, fs_const, fs_func, fs_obj, fs_setObj, fs_new, fs_next, fs_mk, fs_H, le_app, le_set, app_get, app_set, app_get0c, app_getkc, app_set0c, app_setkc, List.append_assoc, not_false_eq_true, not_true_eq_false, retE_ret, retP_ret, List.length_append, List.length_set, Nat.le_succ, Go.Ab.W3, Int.reduceAdd, Int.reduceLT, Int.reduceToNat, Int.reduceBEq, Int.reduceBNe, Int.reduceLE, CV_ty, CV_inpl, hBE, Int.reduceBEq, b5, bw, hpM, mbV, marV, hP, AV.belL, AV.bel, retD_ret, retD_normal, cutNormal_normal]
  all_goals rfl
end

end Go.Proofs.Ytofogicgnldfhaa
end

