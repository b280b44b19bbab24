/- Walks: what a type's variables stand for where it is another one. No condition. -/
import Derived.Test.YtpkdbhlpndibkaaE3
import Derived.Test.YtpkdbhlpndibkaaET
set_option linter.unusedSimpArgs false
set_option linter.unusedVariables false
set_option maxHeartbeats 4000000
set_option maxRecDepth 100000
namespace Go.Proofs.Ytpkdbhlpndibkaa
open Go Go.Ab
attribute [local irreducible] PCalls ACalls CallK GoCall GoDCall GoIf GoGb GoDGb GoO GoD GoX GoDX GoG GoDG GoGv GoDGv Go ALoop

theorem stat_static : ∀ a : T, a.stat = a.static := by
  intro a
  induction a <;> simp_all [T.stat, T.static]
theorem without5 (u : T) : without 5 u.ty = u.stat := by rw [stat_static, T.static_ty]
/-- What is found so far, and whether it fits. -/
def fitsT : T → T → List BT → List BT × Bool
  | .var n, u, L => match lookT L n with
    | some v => (L, decide (v = u))
    | none => (L ++ [(n, u)], u.stat)
  | .pair a b, .pair c d, L => if (fitsT a c L).2 = true then fitsT b d (fitsT a c L).1 else ((fitsT a c L).1, false)
  | .fn a b, .fn c d, L => if (fitsT a c L).2 = true then fitsT b d (fitsT a c L).1 else ((fitsT a c L).1, false)
  | .list a, .list c, L => fitsT a c L
  | .dyn, .dyn, L => (L, true)
  | .base k, .base k', L => (L, decide (k = k'))
  | _, _, L => (L, false)
theorem fits_match : ∀ (a u : T) (L : List BT), matchT a u L = if (fitsT a u L).2 = true then some (fitsT a u L).1 else none := by
  intro a
  induction a with
  | base k => intro u L; cases u <;> simp only [matchT, fitsT, decide_eq_true_eq, Bool.false_eq_true, if_false]
  | dyn => intro u L; cases u <;> simp [matchT, fitsT]
  | var n =>
    intro u L
    simp only [matchT, fitsT]
    have key : lookT L n = none ∨ ∃ v, lookT L n = some v := by cases lookT L n <;> simp
    rcases key with h | ⟨v, h⟩ <;> simp only [h, decide_eq_true_eq]
  | pair a b ih1 ih2 =>
    intro u L
    cases u <;> simp only [matchT, fitsT, Bool.false_eq_true, if_false]
    rename_i c d
    rw [ih1 c L]
    by_cases h : (fitsT a c L).2 = true
    · simp only [h, if_true, Option.bind_some, ih2]
    · simp only [h, if_false, Option.bind_none, Bool.false_eq_true]
  | fn a b ih1 ih2 =>
    intro u L
    cases u <;> simp only [matchT, fitsT, Bool.false_eq_true, if_false]
    rename_i c d
    rw [ih1 c L]
    by_cases h : (fitsT a c L).2 = true
    · simp only [h, if_true, Option.bind_some, ih2]
    · simp only [h, if_false, Option.bind_none, Bool.false_eq_true]
  | list a ih1 =>
    intro u L
    cases u <;> simp only [matchT, fitsT, Bool.false_eq_true, if_false]
    exact ih1 _ _
theorem fits_len : ∀ (a u : T) (L : List BT), L.length ≤ (fitsT a u L).1.length ∧ (fitsT a u L).1.length ≤ L.length + a.size := by
  intro a
  induction a with
  | base k => intro u L; cases u <;> simp [fitsT]
  | dyn => intro u L; cases u <;> simp [fitsT]
  | var n =>
    intro u L
    simp only [fitsT]
    cases lookT L n <;> simp [T.size]
  | pair a b ih1 ih2 =>
    intro u L
    cases u <;> simp only [fitsT] <;> (try simp; done)
    rename_i c d
    have h1 := ih1 c L
    have h2 := ih2 d (fitsT a c L).1
    simp only [T.size]
    split <;> (try simp only) <;> omega
  | fn a b ih1 ih2 =>
    intro u L
    cases u <;> simp only [fitsT] <;> (try simp; done)
    rename_i c d
    have h1 := ih1 c L
    have h2 := ih2 d (fitsT a c L).1
    simp only [T.size]
    split <;> (try simp only) <;> omega
  | list a ih1 =>
    intro u L
    cases u <;> simp only [fitsT] <;> (try simp; done)
    rename_i c
    have h1 := ih1 c L
    simp only [T.size]; omega
def bdL (L : List BT) : List Bd := L.map fun p => (p.1, p.2.ty)
theorem bdL_len (L : List BT) : (bdL L).length = L.length := by simp [bdL]
def idM (L : List BT) : List (Int × Int) := (List.range L.length).map fun i => ((L.getD i (0, .dyn)).1, (i : Int))
theorem idM_app (L : List BT) (p : BT) : idM (L ++ [p]) = idM L ++ [(p.1, (L.length : Int))] := by
  unfold idM
  rw [List.length_append, List.length_singleton, List.range_succ, List.map_append]
  congr 1
  · refine List.map_congr_left fun i hi => ?_
    rw [List.mem_range] at hi
    simp [List.getD_eq_getElem?_getD, List.getElem?_append, hi]
  · simp
theorem mget_app (Z W : List (Int × Int)) (n : Int) : mget (Z ++ W) n = (mget Z n).or (mget W n) := by
  induction Z with
  | nil => simp [mget]
  | cons p Z ih =>
    obtain ⟨k, w⟩ := p
    simp only [List.cons_append, mget]
    split
    · rfl
    · exact ih
theorem revInd {α : Type} {p : List α → Prop} (h0 : p []) (h1 : ∀ l x, p l → p (l ++ [x])) : ∀ l, p l := by
  intro l
  rw [← List.reverse_reverse l]
  induction l.reverse with
  | nil => exact h0
  | cons x l ih => rw [List.reverse_cons]; exact h1 _ _ ih
theorem idM_get (L : List BT) (n : Int) : match lookT L n with
    | none => mget (idM L) n = none
    | some v => ∃ i : Nat, mget (idM L) n = some (i : Int) ∧ i < L.length ∧ (L.getD i (0, .dyn)).2 = v := by
  revert L
  refine revInd rfl fun L p ih => ?_
  · rw [lookT_app, idM_app, mget_app]
    cases h : lookT L n with
    | some v =>
      rw [h] at ih
      obtain ⟨i, h1, h2, h3⟩ := ih
      refine ⟨i, by rw [h1]; rfl, by simp; omega, ?_⟩
      simp only [List.getD_eq_getElem?_getD, List.getElem?_append, h2, if_true] at h3 ⊢
      exact h3
    | none =>
      rw [h] at ih
      simp only at ih
      rw [ih]
      simp only [Option.none_or, lookT, mget]
      by_cases e : p.1 = n
      · simp only [if_pos e]
        exact ⟨L.length, rfl, by simp, by simp⟩
      · simp only [if_neg e]
theorem mputNew : ∀ (Z : List (Int × Int)) (k v : Int), mget Z k = none → mput Z k v = Z ++ [(k, v)] := by
  intro Z k v
  induction Z with
  | nil => intro _; rfl
  | cons p Z ih =>
    obtain ⟨j, w⟩ := p
    intro h
    simp only [mget] at h
    by_cases e : j = k
    · simp [e] at h
    · rw [if_neg e] at h
      simp only [mput, if_neg e, ih h]; rfl
def mbx (q v mr : Nat) (L : List BT) : AObj := .box [.ms q v L.length, .mp mr]
def mar (v : Nat) (L : List BT) : AObj := .arr v 4 ((bdL L).map embB)
def hpF (F : List AObj) (p q mr v : Nat) (L : List BT) : List AObj := tri F p q mr (mbx q v mr L) (mar v L) (.map (embM (idM L)))
theorem triB {F : List AObj} {p q mr b v v' : Nat} {L L' : List BT} (h : TriD F p q mr) (hb : ∀ x ∈ (hpF F p q mr v L).take b, x.bel b = true) : ∀ x ∈ (hpF F p q mr v' L').take b, x.bel b = true :=
  tri_bel h (fun h => by simpa only [mbx, AObj.bel, AV.belL, AV.bel] using h) (by simp only [mar, AObj.bel, mapB_bel]) (embM_bel _ _) hb
section
variable {p q mr : Nat}
def FitsC (p q mr : Nat) (t u : T) : Prop := ∀ (L : List BT) (v : Nat), L.length + t.size ≤ 1000000 → ∀ F : List AObj, TriD F p q mr →
  DCalls Try.prog 40 [.bptr p 0, emb t.ty, emb u.ty] (hpF F p q mr v L) (.bool (fitsT t u L).2) (hpF F p q mr (v + ((fitsT t u L).1.length - L.length)) (fitsT t u L).1)
def CF : Cfg := { C with inpl := fun d => d == 56 }
theorem CF_ok : CfgOK Try.prog CF := C_ok
theorem CF_ty (t : Nat) : CF.ty t = C.ty t := rfl
theorem CF_inpl (t : Nat) : CF.inpl t = (t == 56) := rfl
theorem fits_var (n : Int) (u : T) : FitsC p q mr (.var n) u := by
  intro L v hb F hD
  have hi := idM_get L n
  have hP := triP hD
  unfold DCalls
  cases hl : lookT L n with
  | some w =>
    rw [hl] at hi
    obtain ⟨i, h1, h2, h3⟩ := hi
    have hr : fitsT (.var n) u L = (L, decide (w = u)) := by simp only [fitsT, hl]
    rw [hr]
    simp only [Nat.sub_self, Nat.add_zero]
    have hg : ((bdL L).map embB).getD i .any = embB ((L.getD i (0, .dyn)).1, w.ty) := by
      rw [← h3]; simp [bdL, h2]
    have hs := same_ok w.ty u.ty
    rw [T.same_ty] at hs
    have hlen := bdL_len L
    refine acallsD_text CF_ok Try.func40 rfl (by decide) (Nat.le_of_ble_eq_true rfl) (by decide) fun ok => ?_
    rw [Try.results40]
    have h := True.intro
    repeat' (first
     | (with_reducible first | refine goIf_b ?_ ?_ | refine goIf_n ?_ ?_ | refine goIf_d ?_ ?_ | refine goIf_split ?_ ?_ | refine goGb_b ?_ ?_ | refine goGb_n ?_ ?_ | refine goGb_d ?_ ?_ | refine goGb_split ?_ ?_ | refine goDGb_b ?_ ?_ | refine goDGb_n ?_ ?_ | refine goDGb_d ?_ ?_ | refine goDGb_split ?_ ?_) <;> intro h
     | ((first | refine goCall_norm ?_ | refine goDCall_norm ?_); simp only [AV.norm, AV.normL, W2, W2B, Go.Ab.W3, Int.reduceAdd, Int.reduceLT, Int.reduceToNat, Int.reduceBEq, Int.reduceBNe, Int.reduceLE, CF_ty, CF_inpl, hpF, mbx, mar, hP, T.ty, findA_m, foundOr_m, mfind_some, keyOK, h1, h2, hg, hlen, Option.getD_some, Option.isSome_some, List.length_map, embB_cells, emb_bel, AV.belL, AV.bel, retD_ret, retD_normal]; first | refine goCall_p (hs) (.inl rfl) ?_ | refine goDCall_p (hs) (.inl rfl) ?_)
     | refine go_drawF (id := 2) CF_ok (fun _ => trivial) mixed 0 Try.f40.ntmps (by first | (simp; done) | (simp; omega)) rfl (by kernel_rfl) (by decide) ?_
     | refine go_drawF (id := 4) CF_ok (fun _ => trivial) mixed 0 Try.f40.ntmps (by first | (simp; done) | (simp; omega)) rfl (by kernel_rfl) (by decide) ?_
     | refine go_drawF (id := 5) CF_ok (fun _ => trivial) mixed 0 Try.f40.ntmps (by first | (simp; done) | (simp; omega)) rfl (by kernel_rfl) (by decide) ?_
     | refine go_drawF (id := 6) CF_ok (fun _ => trivial) mixed 0 Try.f40.ntmps (by first | (simp; done) | (simp; omega)) rfl (by kernel_rfl) (by decide) ?_
     | refine go_drawF (id := 13) CF_ok (fun _ => trivial) mixed 0 Try.f40.ntmps (by first | (simp; done) | (simp; omega)) rfl (by kernel_rfl) (by decide) ?_
     | refine goRound ?_ CF_ok Try.f40.ntmps rfl (by decide)
     | skip) <;> simp only [h, ↓upd_eq, ↓envL_cons, Go.Ab.W0, Go.Ab.WD, if_true, if_false, reduceIte, Nat.reduceEqDiff, Nat.reduceAdd, Nat.reduceLT, Nat.reduceLeDiff, reduceCtorEq, Nat.reduceMul, implies_true, forall_eq_or_imp, forall_eq, Nat.reducePow, W1, W1B, fs_frz, fs_frz0, fs_env, fs_b, fs_n, fs_put, fs_put0, fs_tmp, fs_const, fs_func, fs_obj, fs_setObj, fs_new, fs_next, fs_mk, fs_H, le_app, le_set, app_get, app_set, app_get0c, app_getkc, app_set0c, app_setkc, List.append_assoc, not_false_eq_true, not_true_eq_false, retE_ret, retP_ret, List.length_append, List.length_set, Nat.le_succ, Go.Ab.W3, Int.reduceAdd, Int.reduceLT, Int.reduceToNat, Int.reduceBEq, Int.reduceBNe, Int.reduceLE, CF_ty, CF_inpl, hpF, mbx, mar, hP, T.ty, findA_m, foundOr_m, mfind_some, keyOK, h1, h2, hg, hlen, Option.getD_some, Option.isSome_some, List.length_map, embB_cells, emb_bel, AV.belL, AV.bel, retD_ret, retD_normal, cutNormal_normal]
  | none =>
    rw [hl] at hi
    simp only at hi
    have hr : fitsT (.var n) u L = (L ++ [(n, u)], u.stat) := by simp only [fitsT, hl]
    rw [hr]
    have hst := static_ok u.ty
    rw [without5] at hst
    have hput : mput (idM L) n L.length = idM (L ++ [(n, u)]) := by rw [mputNew _ _ _ hi, idM_app]
    have hlen := bdL_len L
    have hlen2 := bdL_len (L ++ [(n, u)])
    have r1 : (L.length + 1 ≤ 9223372036854775807) = True := by simp only [eq_iff_iff, iff_true]; omega
    have r2 : ((L.length + 1) * 48 ≤ 140737488355328) = True := by simp only [eq_iff_iff, iff_true]; omega
    have htk : (List.map embB (bdL L)).take L.length = List.map embB (bdL L) := by rw [List.take_of_length_le (by simp [bdL])]
    have happ : List.map embB (bdL L) ++ [embB (n, u.ty)] = List.map embB (bdL (L ++ [(n, u)])) := by simp [bdL]
    have hll : (L ++ [(n, u)]).length - L.length = 1 := by simp
    have hll2 : (L ++ [(n, u)]).length = L.length + 1 := by simp
    rw [hll]
    refine acallsD_text CF_ok Try.func40 rfl (by decide) (Nat.le_of_ble_eq_true rfl) (by decide) fun ok => ?_
    rw [Try.results40]
    have h := True.intro
    repeat' (first
     | (with_reducible first | refine goIf_b ?_ ?_ | refine goIf_n ?_ ?_ | refine goIf_d ?_ ?_ | refine goIf_split ?_ ?_ | refine goGb_b ?_ ?_ | refine goGb_n ?_ ?_ | refine goGb_d ?_ ?_ | refine goGb_split ?_ ?_ | refine goDGb_b ?_ ?_ | refine goDGb_n ?_ ?_ | refine goDGb_d ?_ ?_ | refine goDGb_split ?_ ?_) <;> intro h
     | ((first | refine goCall_norm ?_ | refine goDCall_norm ?_); simp only [AV.norm, AV.normL, W2, W2B, Go.Ab.W3, Int.reduceAdd, Int.reduceLT, Int.reduceToNat, Int.reduceBEq, Int.reduceBNe, Int.reduceLE, CF_ty, CF_inpl, Nat.reduceBEq, hpF, mbx, mar, hP, T.ty, findA_m, foundOr_m, mfind_some, mapPut_m, keyOK, hi, hput, hlen, hlen2, r1, r2, htk, happ, hll2, Option.getD_none, Option.isSome_none, List.length_map, embB_cells, emb_bel, AV.belL, AV.bel, implies_true, retD_ret, retD_normal]; first | refine goCall_p (hst) (.inl rfl) ?_ | refine goDCall_p (hst) (.inl rfl) ?_)
     | refine go_drawF (id := 2) CF_ok (fun _ => trivial) mixed 0 Try.f40.ntmps (by first | (simp; done) | (simp; omega)) rfl (by kernel_rfl) (by decide) ?_
     | refine go_drawF (id := 4) CF_ok (fun _ => trivial) mixed 0 Try.f40.ntmps (by first | (simp; done) | (simp; omega)) rfl (by kernel_rfl) (by decide) ?_
     | refine go_drawF (id := 5) CF_ok (fun _ => trivial) mixed 0 Try.f40.ntmps (by first | (simp; done) | (simp; omega)) rfl (by kernel_rfl) (by decide) ?_
     | refine go_drawF (id := 6) CF_ok (fun _ => trivial) mixed 0 Try.f40.ntmps (by first | (simp; done) | (simp; omega)) rfl (by kernel_rfl) (by decide) ?_
     | refine go_drawF (id := 13) CF_ok (fun _ => trivial) mixed 0 Try.f40.ntmps (by first | (simp; done) | (simp; omega)) rfl (by kernel_rfl) (by decide) ?_
     | refine goRound ?_ CF_ok Try.f40.ntmps rfl (by decide)
     | skip) <;> simp only [h, ↓upd_eq, ↓envL_cons, Go.Ab.W0, Go.Ab.WD, if_true, if_false, reduceIte, Nat.reduceEqDiff, Nat.reduceAdd, Nat.reduceLT, Nat.reduceLeDiff, reduceCtorEq, Nat.reduceMul, implies_true, forall_eq_or_imp, forall_eq, Nat.reducePow, W1, W1B, fs_frz, fs_frz0, fs_env, fs_b, fs_n, fs_put, fs_put0, fs_tmp, fs_const, fs_func, fs_obj, fs_setObj, fs_new, fs_next, fs_mk, fs_H, le_app, le_set, app_get, app_set, app_get0c, app_getkc, app_set0c, app_setkc, List.append_assoc, not_false_eq_true, not_true_eq_false, retE_ret, retP_ret, List.length_append, List.length_set, Nat.le_succ, Go.Ab.W3, Int.reduceAdd, Int.reduceLT, Int.reduceToNat, Int.reduceBEq, Int.reduceBNe, Int.reduceLE, CF_ty, CF_inpl, Nat.reduceBEq, hpF, mbx, mar, hP, T.ty, findA_m, foundOr_m, mfind_some, mapPut_m, keyOK, hi, hput, hlen, hlen2, r1, r2, htk, happ, hll2, Option.getD_none, Option.isSome_none, List.length_map, embB_cells, emb_bel, AV.belL, AV.bel, implies_true, retD_ret, retD_normal, cutNormal_normal]
    refine ⟨fun _ => embB_bel _ _, fun _ => decide_eq_true hD.hq, ?_⟩
    have h := True.intro
    repeat' (first
     | (with_reducible first | refine goIf_b ?_ ?_ | refine goIf_n ?_ ?_ | refine goIf_d ?_ ?_ | refine goIf_split ?_ ?_ | refine goGb_b ?_ ?_ | refine goGb_n ?_ ?_ | refine goGb_d ?_ ?_ | refine goGb_split ?_ ?_ | refine goDGb_b ?_ ?_ | refine goDGb_n ?_ ?_ | refine goDGb_d ?_ ?_ | refine goDGb_split ?_ ?_) <;> intro h
     | ((first | refine goCall_norm ?_ | refine goDCall_norm ?_); simp only [AV.norm, AV.normL, W2, W2B, Go.Ab.W3, Int.reduceAdd, Int.reduceLT, Int.reduceToNat, Int.reduceBEq, Int.reduceBNe, Int.reduceLE, CF_ty, CF_inpl, Nat.reduceBEq, hP, retD_ret, retD_normal]; first | refine goCall_p (hst) (.inl rfl) ?_ | refine goDCall_p (hst) (.inl rfl) ?_)
     | refine go_drawF (id := 2) CF_ok (fun _ => trivial) mixed 0 Try.f40.ntmps (by first | (simp; done) | (simp; omega)) rfl (by kernel_rfl) (by decide) ?_
     | refine go_drawF (id := 4) CF_ok (fun _ => trivial) mixed 0 Try.f40.ntmps (by first | (simp; done) | (simp; omega)) rfl (by kernel_rfl) (by decide) ?_
     | refine go_drawF (id := 5) CF_ok (fun _ => trivial) mixed 0 Try.f40.ntmps (by first | (simp; done) | (simp; omega)) rfl (by kernel_rfl) (by decide) ?_
     | refine go_drawF (id := 6) CF_ok (fun _ => trivial) mixed 0 Try.f40.ntmps (by first | (simp; done) | (simp; omega)) rfl (by kernel_rfl) (by decide) ?_
     | refine go_drawF (id := 13) CF_ok (fun _ => trivial) mixed 0 Try.f40.ntmps (by first | (simp; done) | (simp; omega)) rfl (by kernel_rfl) (by decide) ?_
     | refine goRound ?_ CF_ok Try.f40.ntmps rfl (by decide)
     | skip) <;> simp only [h, ↓upd_eq, ↓envL_cons, Go.Ab.W0, Go.Ab.WD, if_true, if_false, reduceIte, Nat.reduceEqDiff, Nat.reduceAdd, Nat.reduceLT, Nat.reduceLeDiff, reduceCtorEq, Nat.reduceMul, implies_true, forall_eq_or_imp, forall_eq, Nat.reducePow, W1, W1B, fs_frz, fs_frz0, fs_env, fs_b, fs_n, fs_put, fs_put0, fs_tmp, fs_const, fs_func, fs_obj, fs_setObj, fs_new, fs_next, fs_mk, fs_H, le_app, le_set, app_get, app_set, app_get0c, app_getkc, app_set0c, app_setkc, List.append_assoc, not_false_eq_true, not_true_eq_false, retE_ret, retP_ret, List.length_append, List.length_set, Nat.le_succ, Go.Ab.W3, Int.reduceAdd, Int.reduceLT, Int.reduceToNat, Int.reduceBEq, Int.reduceBNe, Int.reduceLE, CF_ty, CF_inpl, Nat.reduceBEq, hP, retD_ret, retD_normal, cutNormal_normal]
    all_goals rfl
theorem fitsT_ne : ∀ {t u : T}, t.ty.kind ≠ u.ty.kind → t.ty.kind ≠ 6 → ∀ L, fitsT t u L = (L, false) := by
  intro t u h h6 L
  cases t <;> cases u <;> first | rfl | exact absurd rfl h6 | exact absurd rfl h | skip
  rename_i k k'
  simp only [fitsT, Prod.mk.injEq, true_and, decide_eq_false_iff_not]
  rintro rfl; exact h rfl
theorem fits_ne {t u : T} (h : t.ty.kind ≠ u.ty.kind) (h6 : t.ty.kind ≠ 6) : FitsC p q mr t u := by
  intro L v hb F hD
  have hP := triP hD
  rw [fitsT_ne h h6]
  simp only [Nat.sub_self, Nat.add_zero]
  have e1 : (t.ty.kind == 6) = false := by rw [beq_eq_false_iff_ne]; exact h6
  have e2 : (t.ty.kind != u.ty.kind) = true := bne_iff_ne.2 h
  unfold DCalls
  refine acallsD_text CF_ok Try.func40 rfl (by decide) (Nat.le_of_ble_eq_true rfl) (by decide) fun ok => ?_
  rw [Try.results40]
  have h := True.intro
  repeat' (first
   | (with_reducible first | refine goIf_b ?_ ?_ | refine goIf_n ?_ ?_ | refine goIf_d ?_ ?_ | refine goIf_split ?_ ?_ | refine goGb_b ?_ ?_ | refine goGb_n ?_ ?_ | refine goGb_d ?_ ?_ | refine goGb_split ?_ ?_ | refine goDGb_b ?_ ?_ | refine goDGb_n ?_ ?_ | refine goDGb_d ?_ ?_ | refine goDGb_split ?_ ?_) <;> intro h
   | refine go_drawF (id := 2) CF_ok (fun _ => trivial) mixed 0 Try.f40.ntmps (by first | (simp; done) | (simp; omega)) rfl (by kernel_rfl) (by decide) ?_
   | refine go_drawF (id := 4) CF_ok (fun _ => trivial) mixed 0 Try.f40.ntmps (by first | (simp; done) | (simp; omega)) rfl (by kernel_rfl) (by decide) ?_
   | refine go_drawF (id := 5) CF_ok (fun _ => trivial) mixed 0 Try.f40.ntmps (by first | (simp; done) | (simp; omega)) rfl (by kernel_rfl) (by decide) ?_
   | refine go_drawF (id := 6) CF_ok (fun _ => trivial) mixed 0 Try.f40.ntmps (by first | (simp; done) | (simp; omega)) rfl (by kernel_rfl) (by decide) ?_
   | refine go_drawF (id := 13) CF_ok (fun _ => trivial) mixed 0 Try.f40.ntmps (by first | (simp; done) | (simp; omega)) rfl (by kernel_rfl) (by decide) ?_
   | refine goRound ?_ CF_ok Try.f40.ntmps rfl (by decide)
   | skip) <;> simp only [h, ↓upd_eq, ↓envL_cons, Go.Ab.W0, Go.Ab.WD, if_true, if_false, reduceIte, Nat.reduceEqDiff, Nat.reduceAdd, Nat.reduceLT, Nat.reduceLeDiff, reduceCtorEq, Nat.reduceMul, implies_true, forall_eq_or_imp, forall_eq, Nat.reducePow, W1, W1B, fs_frz, fs_frz0, fs_env, fs_b, fs_n, fs_put, fs_put0, fs_tmp, fs_const, fs_func, fs_obj, fs_setObj, fs_new, fs_next, fs_mk, fs_H, le_app, le_set, app_get, app_set, app_get0c, app_getkc, app_set0c, app_setkc, List.append_assoc, not_false_eq_true, not_true_eq_false, retE_ret, retP_ret, List.length_append, List.length_set, Nat.le_succ, Go.Ab.W3, Int.reduceAdd, Int.reduceLT, Int.reduceToNat, Int.reduceBEq, Int.reduceBNe, Int.reduceLE, CF_ty, CF_inpl, hpF, mbx, mar, hP, e1, e2, emb_cells, emb_bel, AV.belL, AV.bel, retD_ret, retD_normal, cutNormal_normal]
  all_goals rfl
theorem fits_leaf {k : Int} (h6 : (k == 6) = false) (L : List BT) (v : Nat) {F : List AObj} (hD : TriD F p q mr) : DCalls Try.prog 40 [.bptr p 0, emb (.mk k 0 []), emb (.mk k 0 [])] (hpF F p q mr v L) (.bool true) (hpF F p q mr v L) := by
  have hP := triP hD
  unfold DCalls
  refine acallsD_text CF_ok Try.func40 rfl (by decide) (Nat.le_of_ble_eq_true rfl) (by decide) fun ok => ?_
  rw [Try.results40]
  have h := True.intro
  repeat' (first
   | (with_reducible first | refine goIf_b ?_ ?_ | refine goIf_n ?_ ?_ | refine goIf_d ?_ ?_ | refine goIf_split ?_ ?_ | refine goGb_b ?_ ?_ | refine goGb_n ?_ ?_ | refine goGb_d ?_ ?_ | refine goGb_split ?_ ?_ | refine goDGb_b ?_ ?_ | refine goDGb_n ?_ ?_ | refine goDGb_d ?_ ?_ | refine goDGb_split ?_ ?_) <;> intro h
   | refine go_drawF (id := 2) CF_ok (fun _ => trivial) mixed 0 Try.f40.ntmps (by first | (simp; done) | (simp; omega)) rfl (by kernel_rfl) (by decide) ?_
   | refine go_drawF (id := 4) CF_ok (fun _ => trivial) mixed 0 Try.f40.ntmps (by first | (simp; done) | (simp; omega)) rfl (by kernel_rfl) (by decide) ?_
   | refine go_drawF (id := 5) CF_ok (fun _ => trivial) mixed 0 Try.f40.ntmps (by first | (simp; done) | (simp; omega)) rfl (by kernel_rfl) (by decide) ?_
   | refine go_drawF (id := 6) CF_ok (fun _ => trivial) mixed 0 Try.f40.ntmps (by first | (simp; done) | (simp; omega)) rfl (by kernel_rfl) (by decide) ?_
   | refine go_drawF (id := 13) CF_ok (fun _ => trivial) mixed 0 Try.f40.ntmps (by first | (simp; done) | (simp; omega)) rfl (by kernel_rfl) (by decide) ?_
   | refine goRound ?_ CF_ok Try.f40.ntmps rfl (by decide)
   | skip) <;> simp only [h, ↓upd_eq, ↓envL_cons, Go.Ab.W0, Go.Ab.WD, if_true, if_false, reduceIte, Nat.reduceEqDiff, Nat.reduceAdd, Nat.reduceLT, Nat.reduceLeDiff, reduceCtorEq, Nat.reduceMul, implies_true, forall_eq_or_imp, forall_eq, Nat.reducePow, W1, W1B, fs_frz, fs_frz0, fs_env, fs_b, fs_n, fs_put, fs_put0, fs_tmp, fs_const, fs_func, fs_obj, fs_setObj, fs_new, fs_next, fs_mk, fs_H, le_app, le_set, app_get, app_set, app_get0c, app_getkc, app_set0c, app_setkc, List.append_assoc, not_false_eq_true, not_true_eq_false, retE_ret, retP_ret, List.length_append, List.length_set, Nat.le_succ, Go.Ab.W3, Int.reduceAdd, Int.reduceLT, Int.reduceToNat, Int.reduceBEq, Int.reduceBNe, Int.reduceLE, CF_ty, CF_inpl, hpF, mbx, mar, hP, h6, bne_self_eq_false, emb_cells, emb_bel, AV.belL, AV.bel, retD_ret, retD_normal, cutNormal_normal]
  all_goals rfl
theorem fits_one {k : Int} (h6 : (k == 6) = false) {x y : Ty} {L L' : List BT} {v v' : Nat} {b : Bool} {F : List AObj} (hD : TriD F p q mr)
    (i1 : ∀ F : List AObj, TriD F p q mr → DCalls Try.prog 40 [.bptr p 0, emb x, emb y] (hpF F p q mr v L) (.bool b) (hpF F p q mr v' L')) :
    DCalls Try.prog 40 [.bptr p 0, emb (.mk k 0 [x]), emb (.mk k 0 [y])] (hpF F p q mr v L) (.bool b) (hpF F p q mr v' L') := by
  have hP := triP hD
  unfold DCalls
  cases b
  · refine acallsD_text CF_ok Try.func40 rfl (by decide) (Nat.le_of_ble_eq_true rfl) (by decide) fun ok => ?_
    rw [Try.results40]
    have h := True.intro
    repeat' (first
     | (with_reducible first | refine goIf_b ?_ ?_ | refine goIf_n ?_ ?_ | refine goIf_d ?_ ?_ | refine goIf_split ?_ ?_ | refine goGb_b ?_ ?_ | refine goGb_n ?_ ?_ | refine goGb_d ?_ ?_ | refine goGb_split ?_ ?_ | refine goDGb_b ?_ ?_ | refine goDGb_n ?_ ?_ | refine goDGb_d ?_ ?_ | refine goDGb_split ?_ ?_) <;> intro h
     | ((first | refine goCall_norm ?_ | refine goDCall_norm ?_); simp only [AV.norm, AV.normL, W2, W2B, Go.Ab.W3, Int.reduceAdd, Int.reduceLT, Int.reduceToNat, Int.reduceBEq, Int.reduceBNe, Int.reduceLE, CF_ty, CF_inpl, hpF, mbx, mar, hP, h6, bne_self_eq_false, emb_cells, emb_bel, AV.belL, AV.bel, retD_ret, retD_normal]; first  | refine goDCall_z rfl trivial (i1 _ (by first | exact hD | exact hD.app _)) (.inl rfl) (fun hb => triB (by first | exact hD | exact hD.app _) hb) ?_)
     | refine go_drawF (id := 2) CF_ok (fun _ => trivial) mixed 0 Try.f40.ntmps (by first | (simp; done) | (simp; omega)) rfl (by kernel_rfl) (by decide) ?_
     | refine go_drawF (id := 4) CF_ok (fun _ => trivial) mixed 0 Try.f40.ntmps (by first | (simp; done) | (simp; omega)) rfl (by kernel_rfl) (by decide) ?_
     | refine go_drawF (id := 5) CF_ok (fun _ => trivial) mixed 0 Try.f40.ntmps (by first | (simp; done) | (simp; omega)) rfl (by kernel_rfl) (by decide) ?_
     | refine go_drawF (id := 6) CF_ok (fun _ => trivial) mixed 0 Try.f40.ntmps (by first | (simp; done) | (simp; omega)) rfl (by kernel_rfl) (by decide) ?_
     | refine go_drawF (id := 13) CF_ok (fun _ => trivial) mixed 0 Try.f40.ntmps (by first | (simp; done) | (simp; omega)) rfl (by kernel_rfl) (by decide) ?_
     | refine goRound ?_ CF_ok Try.f40.ntmps rfl (by decide)
     | skip) <;> simp only [h, ↓upd_eq, ↓envL_cons, Go.Ab.W0, Go.Ab.WD, if_true, if_false, reduceIte, Nat.reduceEqDiff, Nat.reduceAdd, Nat.reduceLT, Nat.reduceLeDiff, reduceCtorEq, Nat.reduceMul, implies_true, forall_eq_or_imp, forall_eq, Nat.reducePow, W1, W1B, fs_frz, fs_frz0, fs_env, fs_b, fs_n, fs_put, fs_put0, fs_tmp, fs_const, fs_func, fs_obj, fs_setObj, fs_new, fs_next, fs_mk, fs_H, le_app, le_set, app_get, app_set, app_get0c, app_getkc, app_set0c, app_setkc, List.append_assoc, not_false_eq_true, not_true_eq_false, retE_ret, retP_ret, List.length_append, List.length_set, Nat.le_succ, Go.Ab.W3, Int.reduceAdd, Int.reduceLT, Int.reduceToNat, Int.reduceBEq, Int.reduceBNe, Int.reduceLE, CF_ty, CF_inpl, hpF, mbx, mar, hP, h6, bne_self_eq_false, emb_cells, emb_bel, AV.belL, AV.bel, retD_ret, retD_normal, cutNormal_normal]
    all_goals rfl
  · refine acallsD_text CF_ok Try.func40 rfl (by decide) (Nat.le_of_ble_eq_true rfl) (by decide) fun ok => ?_
    rw [Try.results40]
    have h := True.intro
    repeat' (first
     | (with_reducible first | refine goIf_b ?_ ?_ | refine goIf_n ?_ ?_ | refine goIf_d ?_ ?_ | refine goIf_split ?_ ?_ | refine goGb_b ?_ ?_ | refine goGb_n ?_ ?_ | refine goGb_d ?_ ?_ | refine goGb_split ?_ ?_ | refine goDGb_b ?_ ?_ | refine goDGb_n ?_ ?_ | refine goDGb_d ?_ ?_ | refine goDGb_split ?_ ?_) <;> intro h
     | ((first | refine goCall_norm ?_ | refine goDCall_norm ?_); simp only [AV.norm, AV.normL, W2, W2B, Go.Ab.W3, Int.reduceAdd, Int.reduceLT, Int.reduceToNat, Int.reduceBEq, Int.reduceBNe, Int.reduceLE, CF_ty, CF_inpl, hpF, mbx, mar, hP, h6, bne_self_eq_false, emb_cells, emb_bel, AV.belL, AV.bel, retD_ret, retD_normal]; first  | refine goDCall_z rfl trivial (i1 _ (by first | exact hD | exact hD.app _)) (.inl rfl) (fun hb => triB (by first | exact hD | exact hD.app _) hb) ?_)
     | refine go_drawF (id := 2) CF_ok (fun _ => trivial) mixed 0 Try.f40.ntmps (by first | (simp; done) | (simp; omega)) rfl (by kernel_rfl) (by decide) ?_
     | refine go_drawF (id := 4) CF_ok (fun _ => trivial) mixed 0 Try.f40.ntmps (by first | (simp; done) | (simp; omega)) rfl (by kernel_rfl) (by decide) ?_
     | refine go_drawF (id := 5) CF_ok (fun _ => trivial) mixed 0 Try.f40.ntmps (by first | (simp; done) | (simp; omega)) rfl (by kernel_rfl) (by decide) ?_
     | refine go_drawF (id := 6) CF_ok (fun _ => trivial) mixed 0 Try.f40.ntmps (by first | (simp; done) | (simp; omega)) rfl (by kernel_rfl) (by decide) ?_
     | refine go_drawF (id := 13) CF_ok (fun _ => trivial) mixed 0 Try.f40.ntmps (by first | (simp; done) | (simp; omega)) rfl (by kernel_rfl) (by decide) ?_
     | refine goRound ?_ CF_ok Try.f40.ntmps rfl (by decide)
     | skip) <;> simp only [h, ↓upd_eq, ↓envL_cons, Go.Ab.W0, Go.Ab.WD, if_true, if_false, reduceIte, Nat.reduceEqDiff, Nat.reduceAdd, Nat.reduceLT, Nat.reduceLeDiff, reduceCtorEq, Nat.reduceMul, implies_true, forall_eq_or_imp, forall_eq, Nat.reducePow, W1, W1B, fs_frz, fs_frz0, fs_env, fs_b, fs_n, fs_put, fs_put0, fs_tmp, fs_const, fs_func, fs_obj, fs_setObj, fs_new, fs_next, fs_mk, fs_H, le_app, le_set, app_get, app_set, app_get0c, app_getkc, app_set0c, app_setkc, List.append_assoc, not_false_eq_true, not_true_eq_false, retE_ret, retP_ret, List.length_append, List.length_set, Nat.le_succ, Go.Ab.W3, Int.reduceAdd, Int.reduceLT, Int.reduceToNat, Int.reduceBEq, Int.reduceBNe, Int.reduceLE, CF_ty, CF_inpl, hpF, mbx, mar, hP, h6, bne_self_eq_false, emb_cells, emb_bel, AV.belL, AV.bel, retD_ret, retD_normal, cutNormal_normal]
    all_goals rfl
theorem fits_two {k : Int} (h6 : (k == 6) = false) {x y x' y' : Ty} {L L' L2 : List BT} {v v' v2 : Nat} {b : Bool} {F : List AObj} (hD : TriD F p q mr)
    (i1 : ∀ F : List AObj, TriD F p q mr → DCalls Try.prog 40 [.bptr p 0, emb x, emb x'] (hpF F p q mr v L) (.bool true) (hpF F p q mr v' L'))
    (i2 : ∀ F : List AObj, TriD F p q mr → DCalls Try.prog 40 [.bptr p 0, emb y, emb y'] (hpF F p q mr v' L') (.bool b) (hpF F p q mr v2 L2)) :
    DCalls Try.prog 40 [.bptr p 0, emb (.mk k 0 [x, y]), emb (.mk k 0 [x', y'])] (hpF F p q mr v L) (.bool b) (hpF F p q mr v2 L2) := by
  have hP := triP hD
  unfold DCalls
  cases b
  · refine acallsD_text CF_ok Try.func40 rfl (by decide) (Nat.le_of_ble_eq_true rfl) (by decide) fun ok => ?_
    rw [Try.results40]
    have h := True.intro
    repeat' (first
     | (with_reducible first | refine goIf_b ?_ ?_ | refine goIf_n ?_ ?_ | refine goIf_d ?_ ?_ | refine goIf_split ?_ ?_ | refine goGb_b ?_ ?_ | refine goGb_n ?_ ?_ | refine goGb_d ?_ ?_ | refine goGb_split ?_ ?_ | refine goDGb_b ?_ ?_ | refine goDGb_n ?_ ?_ | refine goDGb_d ?_ ?_ | refine goDGb_split ?_ ?_) <;> intro h
     | ((first | refine goCall_norm ?_ | refine goDCall_norm ?_); simp only [AV.norm, AV.normL, W2, W2B, Go.Ab.W3, Int.reduceAdd, Int.reduceLT, Int.reduceToNat, Int.reduceBEq, Int.reduceBNe, Int.reduceLE, CF_ty, CF_inpl, hpF, mbx, mar, hP, h6, bne_self_eq_false, emb_cells, emb_bel, AV.belL, AV.bel, retD_ret, retD_normal]; first  | refine goDCall_z rfl trivial (i1 _ (by first | exact hD | exact hD.app _)) (.inl rfl) (fun hb => triB (by first | exact hD | exact hD.app _) hb) ?_ | refine goDCall_z rfl trivial (i2 _ (by first | exact hD | exact hD.app _)) (.inl rfl) (fun hb => triB (by first | exact hD | exact hD.app _) hb) ?_)
     | refine go_drawF (id := 2) CF_ok (fun _ => trivial) mixed 0 Try.f40.ntmps (by first | (simp; done) | (simp; omega)) rfl (by kernel_rfl) (by decide) ?_
     | refine go_drawF (id := 4) CF_ok (fun _ => trivial) mixed 0 Try.f40.ntmps (by first | (simp; done) | (simp; omega)) rfl (by kernel_rfl) (by decide) ?_
     | refine go_drawF (id := 5) CF_ok (fun _ => trivial) mixed 0 Try.f40.ntmps (by first | (simp; done) | (simp; omega)) rfl (by kernel_rfl) (by decide) ?_
     | refine go_drawF (id := 6) CF_ok (fun _ => trivial) mixed 0 Try.f40.ntmps (by first | (simp; done) | (simp; omega)) rfl (by kernel_rfl) (by decide) ?_
     | refine go_drawF (id := 13) CF_ok (fun _ => trivial) mixed 0 Try.f40.ntmps (by first | (simp; done) | (simp; omega)) rfl (by kernel_rfl) (by decide) ?_
     | refine goRound ?_ CF_ok Try.f40.ntmps rfl (by decide)
     | skip) <;> simp only [h, ↓upd_eq, ↓envL_cons, Go.Ab.W0, Go.Ab.WD, if_true, if_false, reduceIte, Nat.reduceEqDiff, Nat.reduceAdd, Nat.reduceLT, Nat.reduceLeDiff, reduceCtorEq, Nat.reduceMul, implies_true, forall_eq_or_imp, forall_eq, Nat.reducePow, W1, W1B, fs_frz, fs_frz0, fs_env, fs_b, fs_n, fs_put, fs_put0, fs_tmp, fs_const, fs_func, fs_obj, fs_setObj, fs_new, fs_next, fs_mk, fs_H, le_app, le_set, app_get, app_set, app_get0c, app_getkc, app_set0c, app_setkc, List.append_assoc, not_false_eq_true, not_true_eq_false, retE_ret, retP_ret, List.length_append, List.length_set, Nat.le_succ, Go.Ab.W3, Int.reduceAdd, Int.reduceLT, Int.reduceToNat, Int.reduceBEq, Int.reduceBNe, Int.reduceLE, CF_ty, CF_inpl, hpF, mbx, mar, hP, h6, bne_self_eq_false, emb_cells, emb_bel, AV.belL, AV.bel, retD_ret, retD_normal, cutNormal_normal]
    all_goals rfl
  · refine acallsD_text CF_ok Try.func40 rfl (by decide) (Nat.le_of_ble_eq_true rfl) (by decide) fun ok => ?_
    rw [Try.results40]
    have h := True.intro
    repeat' (first
     | (with_reducible first | refine goIf_b ?_ ?_ | refine goIf_n ?_ ?_ | refine goIf_d ?_ ?_ | refine goIf_split ?_ ?_ | refine goGb_b ?_ ?_ | refine goGb_n ?_ ?_ | refine goGb_d ?_ ?_ | refine goGb_split ?_ ?_ | refine goDGb_b ?_ ?_ | refine goDGb_n ?_ ?_ | refine goDGb_d ?_ ?_ | refine goDGb_split ?_ ?_) <;> intro h
     | ((first | refine goCall_norm ?_ | refine goDCall_norm ?_); simp only [AV.norm, AV.normL, W2, W2B, Go.Ab.W3, Int.reduceAdd, Int.reduceLT, Int.reduceToNat, Int.reduceBEq, Int.reduceBNe, Int.reduceLE, CF_ty, CF_inpl, hpF, mbx, mar, hP, h6, bne_self_eq_false, emb_cells, emb_bel, AV.belL, AV.bel, retD_ret, retD_normal]; first  | refine goDCall_z rfl trivial (i1 _ (by first | exact hD | exact hD.app _)) (.inl rfl) (fun hb => triB (by first | exact hD | exact hD.app _) hb) ?_ | refine goDCall_z rfl trivial (i2 _ (by first | exact hD | exact hD.app _)) (.inl rfl) (fun hb => triB (by first | exact hD | exact hD.app _) hb) ?_)
     | refine go_drawF (id := 2) CF_ok (fun _ => trivial) mixed 0 Try.f40.ntmps (by first | (simp; done) | (simp; omega)) rfl (by kernel_rfl) (by decide) ?_
     | refine go_drawF (id := 4) CF_ok (fun _ => trivial) mixed 0 Try.f40.ntmps (by first | (simp; done) | (simp; omega)) rfl (by kernel_rfl) (by decide) ?_
     | refine go_drawF (id := 5) CF_ok (fun _ => trivial) mixed 0 Try.f40.ntmps (by first | (simp; done) | (simp; omega)) rfl (by kernel_rfl) (by decide) ?_
     | refine go_drawF (id := 6) CF_ok (fun _ => trivial) mixed 0 Try.f40.ntmps (by first | (simp; done) | (simp; omega)) rfl (by kernel_rfl) (by decide) ?_
     | refine go_drawF (id := 13) CF_ok (fun _ => trivial) mixed 0 Try.f40.ntmps (by first | (simp; done) | (simp; omega)) rfl (by kernel_rfl) (by decide) ?_
     | refine goRound ?_ CF_ok Try.f40.ntmps rfl (by decide)
     | skip) <;> simp only [h, ↓upd_eq, ↓envL_cons, Go.Ab.W0, Go.Ab.WD, if_true, if_false, reduceIte, Nat.reduceEqDiff, Nat.reduceAdd, Nat.reduceLT, Nat.reduceLeDiff, reduceCtorEq, Nat.reduceMul, implies_true, forall_eq_or_imp, forall_eq, Nat.reducePow, W1, W1B, fs_frz, fs_frz0, fs_env, fs_b, fs_n, fs_put, fs_put0, fs_tmp, fs_const, fs_func, fs_obj, fs_setObj, fs_new, fs_next, fs_mk, fs_H, le_app, le_set, app_get, app_set, app_get0c, app_getkc, app_set0c, app_setkc, List.append_assoc, not_false_eq_true, not_true_eq_false, retE_ret, retP_ret, List.length_append, List.length_set, Nat.le_succ, Go.Ab.W3, Int.reduceAdd, Int.reduceLT, Int.reduceToNat, Int.reduceBEq, Int.reduceBNe, Int.reduceLE, CF_ty, CF_inpl, hpF, mbx, mar, hP, h6, bne_self_eq_false, emb_cells, emb_bel, AV.belL, AV.bel, retD_ret, retD_normal, cutNormal_normal]
    all_goals rfl
theorem fits_two0 {k : Int} (h6 : (k == 6) = false) {x y x' y' : Ty} {L L' : List BT} {v v' : Nat} {F : List AObj} (hD : TriD F p q mr)
    (i1 : ∀ F : List AObj, TriD F p q mr → DCalls Try.prog 40 [.bptr p 0, emb x, emb x'] (hpF F p q mr v L) (.bool false) (hpF F p q mr v' L')) :
    DCalls Try.prog 40 [.bptr p 0, emb (.mk k 0 [x, y]), emb (.mk k 0 [x', y'])] (hpF F p q mr v L) (.bool false) (hpF F p q mr v' L') := by
  have hP := triP hD
  unfold DCalls
  refine acallsD_text CF_ok Try.func40 rfl (by decide) (Nat.le_of_ble_eq_true rfl) (by decide) fun ok => ?_
  rw [Try.results40]
  have h := True.intro
  repeat' (first
   | (with_reducible first | refine goIf_b ?_ ?_ | refine goIf_n ?_ ?_ | refine goIf_d ?_ ?_ | refine goIf_split ?_ ?_ | refine goGb_b ?_ ?_ | refine goGb_n ?_ ?_ | refine goGb_d ?_ ?_ | refine goGb_split ?_ ?_ | refine goDGb_b ?_ ?_ | refine goDGb_n ?_ ?_ | refine goDGb_d ?_ ?_ | refine goDGb_split ?_ ?_) <;> intro h
   | ((first | refine goCall_norm ?_ | refine goDCall_norm ?_); simp only [AV.norm, AV.normL, W2, W2B, Go.Ab.W3, Int.reduceAdd, Int.reduceLT, Int.reduceToNat, Int.reduceBEq, Int.reduceBNe, Int.reduceLE, CF_ty, CF_inpl, hpF, mbx, mar, hP, h6, bne_self_eq_false, emb_cells, emb_bel, AV.belL, AV.bel, retD_ret, retD_normal]; first  | refine goDCall_z rfl trivial (i1 _ (by first | exact hD | exact hD.app _)) (.inl rfl) (fun hb => triB (by first | exact hD | exact hD.app _) hb) ?_)
   | refine go_drawF (id := 2) CF_ok (fun _ => trivial) mixed 0 Try.f40.ntmps (by first | (simp; done) | (simp; omega)) rfl (by kernel_rfl) (by decide) ?_
   | refine go_drawF (id := 4) CF_ok (fun _ => trivial) mixed 0 Try.f40.ntmps (by first | (simp; done) | (simp; omega)) rfl (by kernel_rfl) (by decide) ?_
   | refine go_drawF (id := 5) CF_ok (fun _ => trivial) mixed 0 Try.f40.ntmps (by first | (simp; done) | (simp; omega)) rfl (by kernel_rfl) (by decide) ?_
   | refine go_drawF (id := 6) CF_ok (fun _ => trivial) mixed 0 Try.f40.ntmps (by first | (simp; done) | (simp; omega)) rfl (by kernel_rfl) (by decide) ?_
   | refine go_drawF (id := 13) CF_ok (fun _ => trivial) mixed 0 Try.f40.ntmps (by first | (simp; done) | (simp; omega)) rfl (by kernel_rfl) (by decide) ?_
   | refine goRound ?_ CF_ok Try.f40.ntmps rfl (by decide)
   | skip) <;> simp only [h, ↓upd_eq, ↓envL_cons, Go.Ab.W0, Go.Ab.WD, if_true, if_false, reduceIte, Nat.reduceEqDiff, Nat.reduceAdd, Nat.reduceLT, Nat.reduceLeDiff, reduceCtorEq, Nat.reduceMul, implies_true, forall_eq_or_imp, forall_eq, Nat.reducePow, W1, W1B, fs_frz, fs_frz0, fs_env, fs_b, fs_n, fs_put, fs_put0, fs_tmp, fs_const, fs_func, fs_obj, fs_setObj, fs_new, fs_next, fs_mk, fs_H, le_app, le_set, app_get, app_set, app_get0c, app_getkc, app_set0c, app_setkc, List.append_assoc, not_false_eq_true, not_true_eq_false, retE_ret, retP_ret, List.length_append, List.length_set, Nat.le_succ, Go.Ab.W3, Int.reduceAdd, Int.reduceLT, Int.reduceToNat, Int.reduceBEq, Int.reduceBNe, Int.reduceLE, CF_ty, CF_inpl, hpF, mbx, mar, hP, h6, bne_self_eq_false, emb_cells, emb_bel, AV.belL, AV.bel, retD_ret, retD_normal, cutNormal_normal]
  all_goals rfl
end

end Go.Proofs.Ytpkdbhlpndibkaa
