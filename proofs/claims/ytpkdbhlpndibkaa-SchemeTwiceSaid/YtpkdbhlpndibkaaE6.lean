/- Walks: a graph of nodes without kids. No condition. -/
import Derived.Test.YtpkdbhlpndibkaaE5
import Derived.Test.YtpkdbhlpndibkaaES
set_option linter.unusedSimpArgs false
set_option linter.unusedVariables false
set_option maxHeartbeats 4000000
set_option maxRecDepth 100000
namespace Go.Proofs.Ytpkdbhlpndibkaa
open Go Go.Ab
attribute [local irreducible] PCalls ACalls CallK GoCall GoDCall GoIf GoGb GoDGb GoO GoD GoX GoDX GoG GoDG GoGv GoDGv Go ALoop

abbrev GN := Int × Int
def embG (p : GN) : AV := emb (.mk p.1 p.2 [])
theorem embG_cells (p : GN) : cellsOf (embG p) = [.int .i64 p.1, .int .i64 p.2, .sl [] .no] := by rw [embG, emb_cells]; rfl
theorem embG_bel (m : Nat) (p : GN) : (embG p).bel m = true := emb_bel _ _
theorem mapG_bel (m : Nat) : ∀ N : List GN, AV.belL m (N.map embG) = true
  | [] => rfl
  | p :: N => by simp only [List.map_cons, AV.belL, embG_bel, mapG_bel m N, Bool.and_self]
def hpG (F : List AObj) (g q c a b d v : Nat) (N : List GN) (A B : List (Int × Int)) (x3 x6 : AObj) : List AObj :=
  six F g q c a b d (.box [.ms q v N.length, .mp a, .mp b]) (.arr v 3 (N.map embG)) x3 (.map (embM A)) (.map (embM B)) x6
section
variable {F : List AObj} {g q c a b d : Nat} {x3 x6 : AObj}
theorem grB {bb v v' v1 n z : Nat} {es : List AV} {M1 M2 : List (AV × AV)} {N' : List GN} {A' B' : List (Int × Int)} (h : SixD F g q c a b d)
    (hb : ∀ x ∈ (six F g q c a b d (.box [.ms q v n, .mp a, .mp b]) (.arr v1 z es) x3 (.map M1) (.map M2) x6).take bb, x.bel bb = true) : ∀ x ∈ (hpG F g q c a b d v' N' A' B' x3 x6).take bb, x.bel bb = true :=
  six_bel h (fun h => by simpa only [AObj.bel, AV.belL, AV.bel] using h) (by simp only [AObj.bel, mapG_bel]) (embM_bel _ _) (embM_bel _ _) id hb
theorem grBag {x y : AV} {t : List AV} {v1 z1 v2 z2 : Nat} {es1 es2 : List AV} {M1 M2 M3 M4 : List (AV × AV)} (h : SixD F g q c a b d) :
    BoxAg (six F g q c a b d (.box (x :: t)) (.arr v1 z1 es1) x3 (.map M1) (.map M2) x6) (six F g q c a b d (.box (y :: t)) (.arr v2 z2 es2) x3 (.map M3) (.map M4) x6) g 0 :=
  six_bag h rfl fun q hq => by
    cases q with
    | zero => exact absurd rfl hq
    | succ q => rfl
def CG1 : Cfg := { C with inpl := fun d => d == 21 }
theorem CG1_ok : CfgOK Try.prog CG1 := C_ok
theorem CG1_ty (t : Nat) : CG1.ty t = C.ty t := rfl
theorem CG1_inpl (t : Nat) : CG1.inpl t = (t == 21) := rfl
theorem gmake_ok (hD : SixD F g q c a b d) (k : Int) (v : Nat) (N : List GN) (A B : List (Int × Int)) (hN : N.length ≤ 1000) :
    DCalls Try.prog 71 [.bptr g 0, .int .i64 k, .sl [] .no] (hpG F g q c a b d v N A B x3 x6) (.int .i64 N.length) (hpG F g q c a b d (v + 1) (N ++ [(k, (N.length : Int))]) A B x3 x6) := by
  have hP := sixP hD
  have w1 : IntKind.wrap .i64 (((N.length + 1 : Nat) : Int) - 1) = (N.length : Int) := by rw [wrap_i (by omega) (by omega)]; omega
  have r1 : (N.length + 1 ≤ 9223372036854775807) = True := by simp only [eq_iff_iff, iff_true]; omega
  have r2 : ((N.length + 1) * 40 ≤ 140737488355328) = True := by simp only [eq_iff_iff, iff_true]; omega
  have htk : (List.map embG N).take N.length = List.map embG N := by rw [List.take_of_length_le (by simp)]
  have happ : List.map embG N ++ [emb (.mk k N.length [])] = List.map embG (N ++ [(k, (N.length : Int))]) := by simp [embG]
  unfold DCalls
  refine acallsD_text CG1_ok Try.func71 rfl (by decide) (Nat.le_of_ble_eq_true rfl) (by decide) fun ok => ?_
  rw [Try.results71]
  have h := True.intro
  repeat' (first
   | (with_reducible first | refine goIf_b ?_ ?_ | refine goIf_n ?_ ?_ | refine goIf_d ?_ ?_ | refine goIf_split ?_ ?_ | refine goGb_b ?_ ?_ | refine goGb_n ?_ ?_ | refine goGb_d ?_ ?_ | refine goGb_split ?_ ?_ | refine goDGb_b ?_ ?_ | refine goDGb_n ?_ ?_ | refine goDGb_d ?_ ?_ | refine goDGb_split ?_ ?_) <;> intro h
   | refine go_drawF (id := 1) CG1_ok (fun _ => trivial) mixed 0 Try.f71.ntmps (by first | (simp; done) | (simp; omega)) rfl (by kernel_rfl) (by decide) ?_
   | skip) <;> simp only [h, ↓upd_eq, ↓envL_cons, Go.Ab.W0, Go.Ab.WD, if_true, if_false, reduceIte, Nat.reduceEqDiff, Nat.reduceAdd, Nat.reduceLT, Nat.reduceLeDiff, reduceCtorEq, Nat.reduceMul, implies_true, forall_eq_or_imp, forall_eq, Nat.reducePow, W1, W1B, fs_frz, fs_frz0, fs_env, fs_b, fs_n, fs_put, fs_put0, fs_tmp, fs_const, fs_func, fs_obj, fs_setObj, fs_new, fs_next, fs_mk, fs_H, le_app, le_set, app_get, app_set, app_get0c, app_getkc, app_set0c, app_setkc, List.append_assoc, not_false_eq_true, not_true_eq_false, retE_ret, retP_ret, List.length_append, List.length_set, Nat.le_succ, CG1_ty, CG1_inpl, Nat.reduceBEq, hpG, hP, w1, r1, r2, htk, happ, List.length_map, AV.belL, AV.bel, implies_true, retD_ret, retD_normal]
  all_goals exact ⟨fun _ => emb_bel _ _, fun _ => decide_eq_true hD.hr⟩
/-- A root. -/
theorem groot_self (hD : SixD F g q c a b d) (v : Nat) (N : List GN) (A B : List (Int × Int)) (n : Nat) (hn : n < N.length) (hl : (N.getD n (0, 0)).2 = n) :
    DCalls Try.prog 60 [.bptr g 0, .int .i64 n] (hpG F g q c a b d v N A B x3 x6) (.int .i64 n) (hpG F g q c a b d v N A B x3 x6) := by
  have hP := sixP hD
  have hg : (N.map embG).getD n .any = embG (N.getD n (0, 0)) := by simp [hn]
  have hne : ((N.getD n (0, 0)).2 != (n : Int)) = false := by rw [bne_eq_false_iff_eq]; exact hl
  generalize N.getD n (0, 0) = p at *
  unfold DCalls
  refine acallsD_text C_ok Try.func60 rfl (by decide) (Nat.le_of_ble_eq_true rfl) (by decide) fun ok => ?_
  rw [Try.results60]
  have h := True.intro
  repeat' (first
   | (with_reducible first | refine goIf_b ?_ ?_ | refine goIf_n ?_ ?_ | refine goIf_d ?_ ?_ | refine goIf_split ?_ ?_ | refine goGb_b ?_ ?_ | refine goGb_n ?_ ?_ | refine goGb_d ?_ ?_ | refine goGb_split ?_ ?_ | refine goDGb_b ?_ ?_ | refine goDGb_n ?_ ?_ | refine goDGb_d ?_ ?_ | refine goDGb_split ?_ ?_) <;> intro h
   | refine go_drawF (id := 2) C_ok (fun _ => trivial) mixed 0 Try.f60.ntmps (by first | (simp; done) | (simp; omega)) rfl (by kernel_rfl) (by decide) ?_
   | refine goRound ?_ C_ok Try.f60.ntmps rfl (by decide)
   | skip) <;> simp only [h, ↓upd_eq, ↓envL_cons, Go.Ab.W0, Go.Ab.WD, if_true, if_false, reduceIte, Nat.reduceEqDiff, Nat.reduceAdd, Nat.reduceLT, Nat.reduceLeDiff, reduceCtorEq, Nat.reduceMul, implies_true, forall_eq_or_imp, forall_eq, Nat.reducePow, W1, W1B, fs_frz, fs_frz0, fs_env, fs_b, fs_n, fs_put, fs_put0, fs_tmp, fs_const, fs_func, fs_obj, fs_setObj, fs_new, fs_next, fs_mk, fs_H, le_app, le_set, app_get, app_set, app_get0c, app_getkc, app_set0c, app_setkc, List.append_assoc, not_false_eq_true, not_true_eq_false, retE_ret, retP_ret, List.length_append, List.length_set, Nat.le_succ, Go.Ab.W3, Int.reduceAdd, Int.reduceLT, Int.reduceToNat, Int.reduceBEq, Int.reduceBNe, Int.reduceLE, hpG, hP, hn, hg, hne, embG_cells, List.length_map, AV.belL, AV.bel, retD_ret, retD_normal, cutNormal_normal]
  all_goals rfl
theorem groot_step (hD : SixD F g q c a b d) (v : Nat) (N : List GN) (A B : List (Int × Int)) (n m : Nat) (hn : n < N.length) (hm : m < N.length) (hnm : m ≠ n) (hl : (N.getD n (0, 0)).2 = m) (hl2 : (N.getD m (0, 0)).2 = m) :
    DCalls Try.prog 60 [.bptr g 0, .int .i64 n] (hpG F g q c a b d v N A B x3 x6) (.int .i64 m) (hpG F g q c a b d v N A B x3 x6) := by
  have hP := sixP hD
  have hg : (N.map embG).getD n .any = embG (N.getD n (0, 0)) := by simp [hn]
  have hg2 : (N.map embG).getD m .any = embG (N.getD m (0, 0)) := by simp [hm]
  have hne : ((m : Int) != (n : Int)) = true := by rw [bne_iff_ne]; omega
  have hset : (N.map embG).set n (embG ((N.getD n (0, 0)).1, (m : Int))) = N.map embG := by
    apply List.ext_getElem (by simp)
    intro i h1 h2
    rw [List.getElem_set]
    split
    · rename_i e; subst e
      have h3 : n < N.length := hn
      simp only [List.getElem_map]
      congr 1
      rw [← hl]
      simp [List.getD_eq_getElem?_getD, List.getElem?_eq_getElem h3]
    · rfl
  have hre : ∀ p : GN, ∀ x : Int, reCells (embG p) [.int .i64 p.1, .int .i64 x, .sl [] .no] = embG (p.1, x) := fun p x => rfl
  have hmk : ∀ x y : Int, emb (.mk x y []) = embG (x, y) := fun _ _ => rfl
  generalize N.getD n (0, 0) = p at *
  generalize N.getD m (0, 0) = p2 at *
  unfold DCalls
  refine acallsD_text C_ok Try.func60 rfl (by decide) (Nat.le_of_ble_eq_true rfl) (by decide) fun ok => ?_
  rw [Try.results60]
  have h := True.intro
  repeat' (first
   | (with_reducible first | refine goIf_b ?_ ?_ | refine goIf_n ?_ ?_ | refine goIf_d ?_ ?_ | refine goIf_split ?_ ?_ | refine goGb_b ?_ ?_ | refine goGb_n ?_ ?_ | refine goGb_d ?_ ?_ | refine goGb_split ?_ ?_ | refine goDGb_b ?_ ?_ | refine goDGb_n ?_ ?_ | refine goDGb_d ?_ ?_ | refine goDGb_split ?_ ?_) <;> intro h
   | refine go_drawF (id := 2) C_ok (fun _ => trivial) mixed 0 Try.f60.ntmps (by first | (simp; done) | (simp; omega)) rfl (by kernel_rfl) (by decide) ?_
   | refine goRound ?_ C_ok Try.f60.ntmps rfl (by decide)
   | skip) <;> simp only [h, ↓upd_eq, ↓envL_cons, Go.Ab.W0, Go.Ab.WD, if_true, if_false, reduceIte, Nat.reduceEqDiff, Nat.reduceAdd, Nat.reduceLT, Nat.reduceLeDiff, reduceCtorEq, Nat.reduceMul, implies_true, forall_eq_or_imp, forall_eq, Nat.reducePow, W1, W1B, fs_frz, fs_frz0, fs_env, fs_b, fs_n, fs_put, fs_put0, fs_tmp, fs_const, fs_func, fs_obj, fs_setObj, fs_new, fs_next, fs_mk, fs_H, le_app, le_set, app_get, app_set, app_get0c, app_getkc, app_set0c, app_setkc, List.append_assoc, not_false_eq_true, not_true_eq_false, retE_ret, retP_ret, List.length_append, List.length_set, Nat.le_succ, Go.Ab.W3, Int.reduceAdd, Int.reduceLT, Int.reduceToNat, Int.reduceBEq, Int.reduceBNe, Int.reduceLE, hpG, hP, hn, hm, hg, hg2, hl, hl2, hne, bne_self_eq_false, hre, hset, embG_cells, List.length_map, AV.belL, AV.bel, retD_ret, retD_normal, cutNormal_normal]
  all_goals rfl
end

end Go.Proofs.Ytpkdbhlpndibkaa
