/- Lemmas: matching. No condition. -/
import Derived.Test.YtdngjamjccjlmaaPEa
import Derived.Test.YtdngjamjccjlmaaPAc

set_option linter.unusedSimpArgs false
set_option linter.unusedVariables false
set_option maxHeartbeats 4000000
set_option maxRecDepth 100000
namespace Go.Proofs.Ytdngjamjccjlmaa
open Go Go.Ab
open Nat renaming reduceEqDiff → yA, reduceAdd → yB, reduceLT → yC, reduceLeDiff → yD, reduceMul → yE, reducePow → yF, reduceBEq → yG
open Int renaming reduceAdd → yH, reduceLT → yI, reduceToNat → yJ, reduceBEq → yK, reduceBNe → yL, reduceLE → yM
section
attribute [local irreducible] PCalls ACalls CallK GoCall GoDCall GoIf GoGb GoDGb GoO GoD GoX GoDX GoG GoDG GoGv GoDGv Go ALoop

theorem stat_static : ∀ a : T, a.stat = a.static := by
  intro a
  induction a <;> simp_all [T.stat, T.static]
theorem without5 (u : T) : without 5 u.ty = u.stat := by rw [stat_static, T.static_ty]
def fitsT : T → T → List BT → List BT × Bool
  | .var n, u, L => match lookT L n with
    | some v => (L, decide (v = u))
    | none => (L ++ [(n, u)], u.stat)
  | .pair a b, .pair c d, L => if (fitsT a c L).2 = true then fitsT b d (fitsT a c L).1 else ((fitsT a c L).1, false)
  | .fn a b, .fn c d, L => if (fitsT a c L).2 = true then fitsT b d (fitsT a c L).1 else ((fitsT a c L).1, false)
  | .list a, .list c, L => fitsT a c L
  | .dyn, .dyn, L => (L, true)
  | .base k, .base k', L => (L, decide (k = k'))
  | _, _, L => (L, false)
theorem fits_match : ∀ (a u : T) (L : List BT), matchT a u L = if (fitsT a u L).2 = true then some (fitsT a u L).1 else none := by
  intro a
  induction a with
  | base k => intro u L; cases u <;> simp only [matchT, fitsT, decide_eq_true_eq, Bool.false_eq_true, if_false]
  | dyn => intro u L; cases u <;> simp [matchT, fitsT]
  | var n =>
    intro u L
    simp only [matchT, fitsT]
    have key : lookT L n = none ∨ ∃ v, lookT L n = some v := by cases lookT L n <;> simp
    rcases key with h | ⟨v, h⟩ <;> simp only [h, decide_eq_true_eq]
  | pair a b ih1 ih2 =>
    intro u L
    cases u <;> simp only [matchT, fitsT, Bool.false_eq_true, if_false]
    rename_i c d
    rw [ih1 c L]
    by_cases h : (fitsT a c L).2 = true
    · simp only [h, if_true, Option.bind_some, ih2]
    · simp only [h, if_false, Option.bind_none, Bool.false_eq_true]
  | fn a b ih1 ih2 =>
    intro u L
    cases u <;> simp only [matchT, fitsT, Bool.false_eq_true, if_false]
    rename_i c d
    rw [ih1 c L]
    by_cases h : (fitsT a c L).2 = true
    · simp only [h, if_true, Option.bind_some, ih2]
    · simp only [h, if_false, Option.bind_none, Bool.false_eq_true]
  | list a ih1 =>
    intro u L
    cases u <;> simp only [matchT, fitsT, Bool.false_eq_true, if_false]
    exact ih1 _ _
theorem fits_len : ∀ (a u : T) (L : List BT), L.length ≤ (fitsT a u L).1.length ∧ (fitsT a u L).1.length ≤ L.length + a.size := by
  intro a
  induction a with
  | base k => intro u L; cases u <;> simp [fitsT]
  | dyn => intro u L; cases u <;> simp [fitsT]
  | var n =>
    intro u L
    simp only [fitsT]
    cases lookT L n <;> simp [T.size]
  | pair a b ih1 ih2 =>
    intro u L
    cases u <;> simp only [fitsT] <;> (try simp; done)
    rename_i c d
    have h1 := ih1 c L
    have h2 := ih2 d (fitsT a c L).1
    simp only [T.size]
    split <;> (try simp only) <;> omega
  | fn a b ih1 ih2 =>
    intro u L
    cases u <;> simp only [fitsT] <;> (try simp; done)
    rename_i c d
    have h1 := ih1 c L
    have h2 := ih2 d (fitsT a c L).1
    simp only [T.size]
    split <;> (try simp only) <;> omega
  | list a ih1 =>
    intro u L
    cases u <;> simp only [fitsT] <;> (try simp; done)
    rename_i c
    have h1 := ih1 c L
    simp only [T.size]; omega
def bdL (L : List BT) : List Bd := L.map fun p => (p.1, p.2.ty)
theorem bdL_len (L : List BT) : (bdL L).length = L.length := by simp [bdL]
def idM (L : List BT) : List (Int × Int) := (List.range L.length).map fun i => ((L.getD i (0, .dyn)).1, (i : Int))
theorem idM_app (L : List BT) (p : BT) : idM (L ++ [p]) = idM L ++ [(p.1, (L.length : Int))] := by
  unfold idM
  rw [List.length_append, List.length_singleton, List.range_succ, List.map_append]
  congr 1
  · refine List.map_congr_left fun i hi => ?_
    rw [List.mem_range] at hi
    simp [List.getD_eq_getElem?_getD, List.getElem?_append, hi]
  · simp
theorem mget_app (Z W : List (Int × Int)) (n : Int) : mget (Z ++ W) n = (mget Z n).or (mget W n) := by
  induction Z with
  | nil => simp [mget]
  | cons p Z ih =>
    obtain ⟨k, w⟩ := p
    simp only [List.cons_append, mget]
    split
    · rfl
    · exact ih
theorem revInd {α : Type} {p : List α → Prop} (h0 : p []) (h1 : ∀ l x, p l → p (l ++ [x])) : ∀ l, p l := by
  intro l
  rw [← List.reverse_reverse l]
  induction l.reverse with
  | nil => exact h0
  | cons x l ih => rw [List.reverse_cons]; exact h1 _ _ ih
theorem idM_get (L : List BT) (n : Int) : match lookT L n with
    | none => mget (idM L) n = none
    | some v => ∃ i : Nat, mget (idM L) n = some (i : Int) ∧ i < L.length ∧ (L.getD i (0, .dyn)).2 = v := by
  revert L
  refine revInd rfl fun L p ih => ?_
  · rw [lookT_app, idM_app, mget_app]
    cases h : lookT L n with
    | some v =>
      rw [h] at ih
      obtain ⟨i, h1, h2, h3⟩ := ih
      refine ⟨i, by rw [h1]; rfl, by simp; omega, ?_⟩
      simp only [List.getD_eq_getElem?_getD, List.getElem?_append, h2, if_true] at h3 ⊢
      exact h3
    | none =>
      rw [h] at ih
      simp only at ih
      rw [ih]
      simp only [Option.none_or, lookT, mget]
      by_cases e : p.1 = n
      · simp only [if_pos e]
        exact ⟨L.length, rfl, by simp, by simp⟩
      · simp only [if_neg e]
theorem mputNew : ∀ (Z : List (Int × Int)) (k v : Int), mget Z k = none → mput Z k v = Z ++ [(k, v)] := by
  intro Z k v
  induction Z with
  | nil => intro _; rfl
  | cons p Z ih =>
    obtain ⟨j, w⟩ := p
    intro h
    simp only [mget] at h
    by_cases e : j = k
    · simp [e] at h
    · rw [if_neg e] at h
      simp only [mput, if_neg e, ih h]; rfl
def mbx (q v mr : Nat) (L : List BT) : AObj := .box [.ms q v L.length, .mp mr]
def mar (v : Nat) (L : List BT) : AObj := .arr v 4 ((bdL L).map embB)
def hpF (F : List AObj) (p q mr v : Nat) (L : List BT) : List AObj := tri F p q mr (mbx q v mr L) (mar v L) (.map (embM (idM L)))
theorem triB {F : List AObj} {p q mr b v v' : Nat} {L L' : List BT} (h : TriD F p q mr) (hb : ∀ x ∈ (hpF F p q mr v L).take b, x.bel b = true) : ∀ x ∈ (hpF F p q mr v' L').take b, x.bel b = true :=
  tri_bel h (fun h => by simpa only [mbx, AObj.bel, AV.belL, AV.bel] using h) (by simp only [mar, AObj.bel, mapB_bel]) (embM_bel _ _) hb
section
variable {p q mr : Nat}
def FitsC (p q mr : Nat) (t u : T) : Prop := ∀ (L : List BT) (v : Nat), L.length + t.size ≤ 1000000 → ∀ F : List AObj, TriD F p q mr →
  DCalls Try.prog 124 [.bptr p 0, emb t.ty, emb u.ty] (hpF F p q mr v L) (.bool (fitsT t u L).2) (hpF F p q mr (v + ((fitsT t u L).1.length - L.length)) (fitsT t u L).1)
def CF : Cfg := { C with inpl := fun d => d == 56 }
theorem CF_ok : CfgOK Try.prog CF := C_ok
theorem CF_ty (t : Nat) : CF.ty t = C.ty t := rfl
theorem CF_inpl (t : Nat) : CF.inpl t = (t == 56) := rfl
theorem fits_var (n : Int) (u : T) : FitsC p q mr (.var n) u := by
  intro L v hb F hD
  have hi := idM_get L n
  have hP := triP hD
  unfold DCalls
  cases hl : lookT L n with
  | some w =>
    rw [hl] at hi
    obtain ⟨i, h1, h2, h3⟩ := hi
    have hr : fitsT (.var n) u L = (L, decide (w = u)) := by simp only [fitsT, hl]
    rw [hr]
    simp only [Nat.sub_self, Nat.add_zero]
    have hg : ((bdL L).map embB).getD i .any = embB ((L.getD i (0, .dyn)).1, w.ty) := by
      rw [← h3]; simp [bdL, h2]
    have hs := same_ok w.ty u.ty
    rw [T.same_ty] at hs
    have hlen := bdL_len L
    refine acallsD_text CF_ok Try.func124 rfl (by decide) (Nat.le_of_ble_eq_true rfl) (by decide) fun ok => ?_
    rw [Try.results124]
    have h := True.intro
    repeat' (first
     | (with_reducible first | apply bA | apply bB | apply bC | apply bD | apply bE | apply bF) <;> intro h
     | ((first | apply bG | apply bH); simp only [AV.norm, AV.normL, W2, W2B, W3, yH, yI, yJ, yK, yL, yM, CF_ty, CF_inpl, hpF, mbx, mar, hP, T.ty, findA_m, foundOr_m, mfind_some, keyOK, h1, h2, hg, hlen, Option.getD_some, Option.isSome_some, List.length_map, embB_cells, emb_bel, AV.belL, AV.bel, retD_ret, retD_normal]; first | refine goCall_p (hs) (.inl rfl) ?_ | refine goDCall_p (hs) (.inl rfl) ?_)
     | refine go_drawF (id := 2) CF_ok (fun _ => trivial) mixed 0 Try.f124.ntmps (by first | (simp; done) | (simp; omega)) rfl (by kernel_rfl) (by decide) ?_
     | refine go_drawF (id := 4) CF_ok (fun _ => trivial) mixed 0 Try.f124.ntmps (by first | (simp; done) | (simp; omega)) rfl (by kernel_rfl) (by decide) ?_
     | refine go_drawF (id := 5) CF_ok (fun _ => trivial) mixed 0 Try.f124.ntmps (by first | (simp; done) | (simp; omega)) rfl (by kernel_rfl) (by decide) ?_
     | refine go_drawF (id := 6) CF_ok (fun _ => trivial) mixed 0 Try.f124.ntmps (by first | (simp; done) | (simp; omega)) rfl (by kernel_rfl) (by decide) ?_
     | refine go_drawF (id := 13) CF_ok (fun _ => trivial) mixed 0 Try.f124.ntmps (by first | (simp; done) | (simp; omega)) rfl (by kernel_rfl) (by decide) ?_
     | refine goRound ?_ CF_ok Try.f124.ntmps rfl (by decide)
     | skip) <;> simp only [h, ↓upd_eq, ↓envL_cons, WY, reduceIte, yA, yB, yC, yD, reduceCtorEq, yE, yF, W1, W1B, WS, W3, yH, yI, yJ, yK, yL, yM, CF_ty, CF_inpl, hpF, mbx, mar, hP, T.ty, findA_m, foundOr_m, mfind_some, keyOK, h1, h2, hg, hlen, Option.getD_some, Option.isSome_some, List.length_map, embB_cells, emb_bel, AV.belL, AV.bel, retD_ret, retD_normal, cutNormal_normal]
  | none =>
    rw [hl] at hi
    simp only at hi
    have hr : fitsT (.var n) u L = (L ++ [(n, u)], u.stat) := by simp only [fitsT, hl]
    rw [hr]
    have hst := static_ok u.ty
    rw [without5] at hst
    have hput : mput (idM L) n L.length = idM (L ++ [(n, u)]) := by rw [mputNew _ _ _ hi, idM_app]
    have hlen := bdL_len L
    have hlen2 := bdL_len (L ++ [(n, u)])
    have r1 : (L.length + 1 ≤ 9223372036854775807) = True := by simp only [eq_iff_iff, iff_true]; omega
    have r2 : ((L.length + 1) * 48 ≤ 140737488355328) = True := by simp only [eq_iff_iff, iff_true]; omega
    have htk : (List.map embB (bdL L)).take L.length = List.map embB (bdL L) := by rw [List.take_of_length_le (by simp [bdL])]
    have happ : List.map embB (bdL L) ++ [embB (n, u.ty)] = List.map embB (bdL (L ++ [(n, u)])) := by simp [bdL]
    have hll : (L ++ [(n, u)]).length - L.length = 1 := by simp
    have hll2 : (L ++ [(n, u)]).length = L.length + 1 := by simp
    rw [hll]
    refine acallsD_text CF_ok Try.func124 rfl (by decide) (Nat.le_of_ble_eq_true rfl) (by decide) fun ok => ?_
    rw [Try.results124]
    have h := True.intro
    repeat' (first
     | (with_reducible first | apply bA | apply bB | apply bC | apply bD | apply bE | apply bF) <;> intro h
     | ((first | apply bG | apply bH); simp only [AV.norm, AV.normL, W2, W2B, W3, yH, yI, yJ, yK, yL, yM, CF_ty, CF_inpl, yG, hpF, mbx, mar, hP, T.ty, findA_m, foundOr_m, mfind_some, mapPut_m, keyOK, hi, hput, hlen, hlen2, r1, r2, htk, happ, hll2, Option.getD_none, Option.isSome_none, List.length_map, embB_cells, emb_bel, AV.belL, AV.bel, implies_true, retD_ret, retD_normal]; first | refine goCall_p (hst) (.inl rfl) ?_ | refine goDCall_p (hst) (.inl rfl) ?_)
     | refine go_drawF (id := 2) CF_ok (fun _ => trivial) mixed 0 Try.f124.ntmps (by first | (simp; done) | (simp; omega)) rfl (by kernel_rfl) (by decide) ?_
     | refine go_drawF (id := 4) CF_ok (fun _ => trivial) mixed 0 Try.f124.ntmps (by first | (simp; done) | (simp; omega)) rfl (by kernel_rfl) (by decide) ?_
     | refine go_drawF (id := 5) CF_ok (fun _ => trivial) mixed 0 Try.f124.ntmps (by first | (simp; done) | (simp; omega)) rfl (by kernel_rfl) (by decide) ?_
     | refine go_drawF (id := 6) CF_ok (fun _ => trivial) mixed 0 Try.f124.ntmps (by first | (simp; done) | (simp; omega)) rfl (by kernel_rfl) (by decide) ?_
     | refine go_drawF (id := 13) CF_ok (fun _ => trivial) mixed 0 Try.f124.ntmps (by first | (simp; done) | (simp; omega)) rfl (by kernel_rfl) (by decide) ?_
     | refine goRound ?_ CF_ok Try.f124.ntmps rfl (by decide)
     | skip) <;> simp only [h, ↓upd_eq, ↓envL_cons, WY, reduceIte, yA, yB, yC, yD, reduceCtorEq, yE, yF, W1, W1B, WS, W3, yH, yI, yJ, yK, yL, yM, CF_ty, CF_inpl, yG, hpF, mbx, mar, hP, T.ty, findA_m, foundOr_m, mfind_some, mapPut_m, keyOK, hi, hput, hlen, hlen2, r1, r2, htk, happ, hll2, Option.getD_none, Option.isSome_none, List.length_map, embB_cells, emb_bel, AV.belL, AV.bel, implies_true, retD_ret, retD_normal, cutNormal_normal]
    refine ⟨fun _ => embB_bel _ _, fun _ => decide_eq_true hD.hq, ?_⟩
    have h := True.intro
    repeat' (first
     | (with_reducible first | apply bA | apply bB | apply bC | apply bD | apply bE | apply bF) <;> intro h
     | ((first | apply bG | apply bH); simp only [AV.norm, AV.normL, W2, W2B, W3, yH, yI, yJ, yK, yL, yM, CF_ty, CF_inpl, yG, hP, retD_ret, retD_normal]; first | refine goCall_p (hst) (.inl rfl) ?_ | refine goDCall_p (hst) (.inl rfl) ?_)
     | refine go_drawF (id := 2) CF_ok (fun _ => trivial) mixed 0 Try.f124.ntmps (by first | (simp; done) | (simp; omega)) rfl (by kernel_rfl) (by decide) ?_
     | refine go_drawF (id := 4) CF_ok (fun _ => trivial) mixed 0 Try.f124.ntmps (by first | (simp; done) | (simp; omega)) rfl (by kernel_rfl) (by decide) ?_
     | refine go_drawF (id := 5) CF_ok (fun _ => trivial) mixed 0 Try.f124.ntmps (by first | (simp; done) | (simp; omega)) rfl (by kernel_rfl) (by decide) ?_
     | refine go_drawF (id := 6) CF_ok (fun _ => trivial) mixed 0 Try.f124.ntmps (by first | (simp; done) | (simp; omega)) rfl (by kernel_rfl) (by decide) ?_
     | refine go_drawF (id := 13) CF_ok (fun _ => trivial) mixed 0 Try.f124.ntmps (by first | (simp; done) | (simp; omega)) rfl (by kernel_rfl) (by decide) ?_
     | refine goRound ?_ CF_ok Try.f124.ntmps rfl (by decide)
     | skip) <;> simp only [h, ↓upd_eq, ↓envL_cons, WY, reduceIte, yA, yB, yC, yD, reduceCtorEq, yE, yF, W1, W1B, WS, W3, yH, yI, yJ, yK, yL, yM, CF_ty, CF_inpl, yG, hP, retD_ret, retD_normal, cutNormal_normal]
    all_goals rfl
theorem fitsT_ne : ∀ {t u : T}, t.ty.kind ≠ u.ty.kind → t.ty.kind ≠ 6 → ∀ L, fitsT t u L = (L, false) := by
  intro t u h h6 L
  cases t <;> cases u <;> first | rfl | exact absurd rfl h6 | exact absurd rfl h | skip
  rename_i k k'
  simp only [fitsT, Prod.mk.injEq, true_and, decide_eq_false_iff_not]
  rintro rfl; exact h rfl
theorem fits_ne {t u : T} (h : t.ty.kind ≠ u.ty.kind) (h6 : t.ty.kind ≠ 6) : FitsC p q mr t u := by
  intro L v hb F hD
  have hP := triP hD
  rw [fitsT_ne h h6]
  simp only [Nat.sub_self, Nat.add_zero]
  have e1 : (t.ty.kind == 6) = false := by rw [beq_eq_false_iff_ne]; exact h6
  have e2 : (t.ty.kind != u.ty.kind) = true := bne_iff_ne.2 h
  unfold DCalls
  refine acallsD_text CF_ok Try.func124 rfl (by decide) (Nat.le_of_ble_eq_true rfl) (by decide) fun ok => ?_
  rw [Try.results124]
  have h := True.intro
  repeat' (first
   | (with_reducible first | apply bA | apply bB | apply bC | apply bD | apply bE | apply bF) <;> intro h
   | refine go_drawF (id := 2) CF_ok (fun _ => trivial) mixed 0 Try.f124.ntmps (by first | (simp; done) | (simp; omega)) rfl (by kernel_rfl) (by decide) ?_
   | refine go_drawF (id := 4) CF_ok (fun _ => trivial) mixed 0 Try.f124.ntmps (by first | (simp; done) | (simp; omega)) rfl (by kernel_rfl) (by decide) ?_
   | refine go_drawF (id := 5) CF_ok (fun _ => trivial) mixed 0 Try.f124.ntmps (by first | (simp; done) | (simp; omega)) rfl (by kernel_rfl) (by decide) ?_
   | refine go_drawF (id := 6) CF_ok (fun _ => trivial) mixed 0 Try.f124.ntmps (by first | (simp; done) | (simp; omega)) rfl (by kernel_rfl) (by decide) ?_
   | refine go_drawF (id := 13) CF_ok (fun _ => trivial) mixed 0 Try.f124.ntmps (by first | (simp; done) | (simp; omega)) rfl (by kernel_rfl) (by decide) ?_
   | refine goRound ?_ CF_ok Try.f124.ntmps rfl (by decide)
   | skip) <;> simp only [h, ↓upd_eq, ↓envL_cons, WY, reduceIte, yA, yB, yC, yD, reduceCtorEq, yE, yF, W1, W1B, WS, W3, yH, yI, yJ, yK, yL, yM, CF_ty, CF_inpl, hpF, mbx, mar, hP, e1, e2, emb_cells, emb_bel, AV.belL, AV.bel, retD_ret, retD_normal, cutNormal_normal]
  all_goals rfl
theorem fits_leaf {k : Int} (h6 : (k == 6) = false) (L : List BT) (v : Nat) {F : List AObj} (hD : TriD F p q mr) : DCalls Try.prog 124 [.bptr p 0, emb (.mk k 0 []), emb (.mk k 0 [])] (hpF F p q mr v L) (.bool true) (hpF F p q mr v L) := by
  have hP := triP hD
  unfold DCalls
  refine acallsD_text CF_ok Try.func124 rfl (by decide) (Nat.le_of_ble_eq_true rfl) (by decide) fun ok => ?_
  rw [Try.results124]
  have h := True.intro
  repeat' (first
   | (with_reducible first | apply bA | apply bB | apply bC | apply bD | apply bE | apply bF) <;> intro h
   | refine go_drawF (id := 2) CF_ok (fun _ => trivial) mixed 0 Try.f124.ntmps (by first | (simp; done) | (simp; omega)) rfl (by kernel_rfl) (by decide) ?_
   | refine go_drawF (id := 4) CF_ok (fun _ => trivial) mixed 0 Try.f124.ntmps (by first | (simp; done) | (simp; omega)) rfl (by kernel_rfl) (by decide) ?_
   | refine go_drawF (id := 5) CF_ok (fun _ => trivial) mixed 0 Try.f124.ntmps (by first | (simp; done) | (simp; omega)) rfl (by kernel_rfl) (by decide) ?_
   | refine go_drawF (id := 6) CF_ok (fun _ => trivial) mixed 0 Try.f124.ntmps (by first | (simp; done) | (simp; omega)) rfl (by kernel_rfl) (by decide) ?_
   | refine go_drawF (id := 13) CF_ok (fun _ => trivial) mixed 0 Try.f124.ntmps (by first | (simp; done) | (simp; omega)) rfl (by kernel_rfl) (by decide) ?_
   | refine goRound ?_ CF_ok Try.f124.ntmps rfl (by decide)
   | skip) <;> simp only [h, ↓upd_eq, ↓envL_cons, WY, reduceIte, yA, yB, yC, yD, reduceCtorEq, yE, yF, W1, W1B, WS, W3, yH, yI, yJ, yK, yL, yM, CF_ty, CF_inpl, hpF, mbx, mar, hP, h6, bne_self_eq_false, emb_cells, emb_bel, AV.belL, AV.bel, retD_ret, retD_normal, cutNormal_normal]
  all_goals rfl
theorem fits_one {k : Int} (h6 : (k == 6) = false) {x y : Ty} {L L' : List BT} {v v' : Nat} {b : Bool} {F : List AObj} (hD : TriD F p q mr)
    (i1 : ∀ F : List AObj, TriD F p q mr → DCalls Try.prog 124 [.bptr p 0, emb x, emb y] (hpF F p q mr v L) (.bool b) (hpF F p q mr v' L')) :
    DCalls Try.prog 124 [.bptr p 0, emb (.mk k 0 [x]), emb (.mk k 0 [y])] (hpF F p q mr v L) (.bool b) (hpF F p q mr v' L') := by
  have hP := triP hD
  unfold DCalls
  cases b
  · refine acallsD_text CF_ok Try.func124 rfl (by decide) (Nat.le_of_ble_eq_true rfl) (by decide) fun ok => ?_
    rw [Try.results124]
    have h := True.intro
    repeat' (first
     | (with_reducible first | apply bA | apply bB | apply bC | apply bD | apply bE | apply bF) <;> intro h
     | ((first | apply bG | apply bH); simp only [AV.norm, AV.normL, W2, W2B, W3, yH, yI, yJ, yK, yL, yM, CF_ty, CF_inpl, hpF, mbx, mar, hP, h6, bne_self_eq_false, emb_cells, emb_bel, AV.belL, AV.bel, retD_ret, retD_normal]; first  | refine goDCall_z rfl trivial (i1 _ (by first | exact hD | exact hD.app _)) (.inl rfl) (fun hb => triB (by first | exact hD | exact hD.app _) hb) ?_)
     | refine go_drawF (id := 2) CF_ok (fun _ => trivial) mixed 0 Try.f124.ntmps (by first | (simp; done) | (simp; omega)) rfl (by kernel_rfl) (by decide) ?_
     | refine go_drawF (id := 4) CF_ok (fun _ => trivial) mixed 0 Try.f124.ntmps (by first | (simp; done) | (simp; omega)) rfl (by kernel_rfl) (by decide) ?_
     | refine go_drawF (id := 5) CF_ok (fun _ => trivial) mixed 0 Try.f124.ntmps (by first | (simp; done) | (simp; omega)) rfl (by kernel_rfl) (by decide) ?_
     | refine go_drawF (id := 6) CF_ok (fun _ => trivial) mixed 0 Try.f124.ntmps (by first | (simp; done) | (simp; omega)) rfl (by kernel_rfl) (by decide) ?_
     | refine go_drawF (id := 13) CF_ok (fun _ => trivial) mixed 0 Try.f124.ntmps (by first | (simp; done) | (simp; omega)) rfl (by kernel_rfl) (by decide) ?_
     | refine goRound ?_ CF_ok Try.f124.ntmps rfl (by decide)
     | skip) <;> simp only [h, ↓upd_eq, ↓envL_cons, WY, reduceIte, yA, yB, yC, yD, reduceCtorEq, yE, yF, W1, W1B, WS, W3, yH, yI, yJ, yK, yL, yM, CF_ty, CF_inpl, hpF, mbx, mar, hP, h6, bne_self_eq_false, emb_cells, emb_bel, AV.belL, AV.bel, retD_ret, retD_normal, cutNormal_normal]
    all_goals rfl
  · refine acallsD_text CF_ok Try.func124 rfl (by decide) (Nat.le_of_ble_eq_true rfl) (by decide) fun ok => ?_
    rw [Try.results124]
    have h := True.intro
    repeat' (first
     | (with_reducible first | apply bA | apply bB | apply bC | apply bD | apply bE | apply bF) <;> intro h
     | ((first | apply bG | apply bH); simp only [AV.norm, AV.normL, W2, W2B, W3, yH, yI, yJ, yK, yL, yM, CF_ty, CF_inpl, hpF, mbx, mar, hP, h6, bne_self_eq_false, emb_cells, emb_bel, AV.belL, AV.bel, retD_ret, retD_normal]; first  | refine goDCall_z rfl trivial (i1 _ (by first | exact hD | exact hD.app _)) (.inl rfl) (fun hb => triB (by first | exact hD | exact hD.app _) hb) ?_)
     | refine go_drawF (id := 2) CF_ok (fun _ => trivial) mixed 0 Try.f124.ntmps (by first | (simp; done) | (simp; omega)) rfl (by kernel_rfl) (by decide) ?_
     | refine go_drawF (id := 4) CF_ok (fun _ => trivial) mixed 0 Try.f124.ntmps (by first | (simp; done) | (simp; omega)) rfl (by kernel_rfl) (by decide) ?_
     | refine go_drawF (id := 5) CF_ok (fun _ => trivial) mixed 0 Try.f124.ntmps (by first | (simp; done) | (simp; omega)) rfl (by kernel_rfl) (by decide) ?_
     | refine go_drawF (id := 6) CF_ok (fun _ => trivial) mixed 0 Try.f124.ntmps (by first | (simp; done) | (simp; omega)) rfl (by kernel_rfl) (by decide) ?_
     | refine go_drawF (id := 13) CF_ok (fun _ => trivial) mixed 0 Try.f124.ntmps (by first | (simp; done) | (simp; omega)) rfl (by kernel_rfl) (by decide) ?_
     | refine goRound ?_ CF_ok Try.f124.ntmps rfl (by decide)
     | skip) <;> simp only [h, ↓upd_eq, ↓envL_cons, WY, reduceIte, yA, yB, yC, yD, reduceCtorEq, yE, yF, W1, W1B, WS, W3, yH, yI, yJ, yK, yL, yM, CF_ty, CF_inpl, hpF, mbx, mar, hP, h6, bne_self_eq_false, emb_cells, emb_bel, AV.belL, AV.bel, retD_ret, retD_normal, cutNormal_normal]
    all_goals rfl
theorem fits_two {k : Int} (h6 : (k == 6) = false) {x y x' y' : Ty} {L L' L2 : List BT} {v v' v2 : Nat} {b : Bool} {F : List AObj} (hD : TriD F p q mr)
    (i1 : ∀ F : List AObj, TriD F p q mr → DCalls Try.prog 124 [.bptr p 0, emb x, emb x'] (hpF F p q mr v L) (.bool true) (hpF F p q mr v' L'))
    (i2 : ∀ F : List AObj, TriD F p q mr → DCalls Try.prog 124 [.bptr p 0, emb y, emb y'] (hpF F p q mr v' L') (.bool b) (hpF F p q mr v2 L2)) :
    DCalls Try.prog 124 [.bptr p 0, emb (.mk k 0 [x, y]), emb (.mk k 0 [x', y'])] (hpF F p q mr v L) (.bool b) (hpF F p q mr v2 L2) := by
  have hP := triP hD
  unfold DCalls
  cases b
  · refine acallsD_text CF_ok Try.func124 rfl (by decide) (Nat.le_of_ble_eq_true rfl) (by decide) fun ok => ?_
    rw [Try.results124]
    have h := True.intro
    repeat' (first
     | (with_reducible first | apply bA | apply bB | apply bC | apply bD | apply bE | apply bF) <;> intro h
     | ((first | apply bG | apply bH); simp only [AV.norm, AV.normL, W2, W2B, W3, yH, yI, yJ, yK, yL, yM, CF_ty, CF_inpl, hpF, mbx, mar, hP, h6, bne_self_eq_false, emb_cells, emb_bel, AV.belL, AV.bel, retD_ret, retD_normal]; first  | refine goDCall_z rfl trivial (i1 _ (by first | exact hD | exact hD.app _)) (.inl rfl) (fun hb => triB (by first | exact hD | exact hD.app _) hb) ?_ | refine goDCall_z rfl trivial (i2 _ (by first | exact hD | exact hD.app _)) (.inl rfl) (fun hb => triB (by first | exact hD | exact hD.app _) hb) ?_)
     | refine go_drawF (id := 2) CF_ok (fun _ => trivial) mixed 0 Try.f124.ntmps (by first | (simp; done) | (simp; omega)) rfl (by kernel_rfl) (by decide) ?_
     | refine go_drawF (id := 4) CF_ok (fun _ => trivial) mixed 0 Try.f124.ntmps (by first | (simp; done) | (simp; omega)) rfl (by kernel_rfl) (by decide) ?_
     | refine go_drawF (id := 5) CF_ok (fun _ => trivial) mixed 0 Try.f124.ntmps (by first | (simp; done) | (simp; omega)) rfl (by kernel_rfl) (by decide) ?_
     | refine go_drawF (id := 6) CF_ok (fun _ => trivial) mixed 0 Try.f124.ntmps (by first | (simp; done) | (simp; omega)) rfl (by kernel_rfl) (by decide) ?_
     | refine go_drawF (id := 13) CF_ok (fun _ => trivial) mixed 0 Try.f124.ntmps (by first | (simp; done) | (simp; omega)) rfl (by kernel_rfl) (by decide) ?_
     | refine goRound ?_ CF_ok Try.f124.ntmps rfl (by decide)
     | skip) <;> simp only [h, ↓upd_eq, ↓envL_cons, WY, reduceIte, yA, yB, yC, yD, reduceCtorEq, yE, yF, W1, W1B, WS, W3, yH, yI, yJ, yK, yL, yM, CF_ty, CF_inpl, hpF, mbx, mar, hP, h6, bne_self_eq_false, emb_cells, emb_bel, AV.belL, AV.bel, retD_ret, retD_normal, cutNormal_normal]
    all_goals rfl
  · refine acallsD_text CF_ok Try.func124 rfl (by decide) (Nat.le_of_ble_eq_true rfl) (by decide) fun ok => ?_
    rw [Try.results124]
    have h := True.intro
    repeat' (first
     | (with_reducible first | apply bA | apply bB | apply bC | apply bD | apply bE | apply bF) <;> intro h
     | ((first | apply bG | apply bH); simp only [AV.norm, AV.normL, W2, W2B, W3, yH, yI, yJ, yK, yL, yM, CF_ty, CF_inpl, hpF, mbx, mar, hP, h6, bne_self_eq_false, emb_cells, emb_bel, AV.belL, AV.bel, retD_ret, retD_normal]; first  | refine goDCall_z rfl trivial (i1 _ (by first | exact hD | exact hD.app _)) (.inl rfl) (fun hb => triB (by first | exact hD | exact hD.app _) hb) ?_ | refine goDCall_z rfl trivial (i2 _ (by first | exact hD | exact hD.app _)) (.inl rfl) (fun hb => triB (by first | exact hD | exact hD.app _) hb) ?_)
     | refine go_drawF (id := 2) CF_ok (fun _ => trivial) mixed 0 Try.f124.ntmps (by first | (simp; done) | (simp; omega)) rfl (by kernel_rfl) (by decide) ?_
     | refine go_drawF (id := 4) CF_ok (fun _ => trivial) mixed 0 Try.f124.ntmps (by first | (simp; done) | (simp; omega)) rfl (by kernel_rfl) (by decide) ?_
     | refine go_drawF (id := 5) CF_ok (fun _ => trivial) mixed 0 Try.f124.ntmps (by first | (simp; done) | (simp; omega)) rfl (by kernel_rfl) (by decide) ?_
     | refine go_drawF (id := 6) CF_ok (fun _ => trivial) mixed 0 Try.f124.ntmps (by first | (simp; done) | (simp; omega)) rfl (by kernel_rfl) (by decide) ?_
     | refine go_drawF (id := 13) CF_ok (fun _ => trivial) mixed 0 Try.f124.ntmps (by first | (simp; done) | (simp; omega)) rfl (by kernel_rfl) (by decide) ?_
     | refine goRound ?_ CF_ok Try.f124.ntmps rfl (by decide)
     | skip) <;> simp only [h, ↓upd_eq, ↓envL_cons, WY, reduceIte, yA, yB, yC, yD, reduceCtorEq, yE, yF, W1, W1B, WS, W3, yH, yI, yJ, yK, yL, yM, CF_ty, CF_inpl, hpF, mbx, mar, hP, h6, bne_self_eq_false, emb_cells, emb_bel, AV.belL, AV.bel, retD_ret, retD_normal, cutNormal_normal]
    all_goals rfl
theorem fits_two0 {k : Int} (h6 : (k == 6) = false) {x y x' y' : Ty} {L L' : List BT} {v v' : Nat} {F : List AObj} (hD : TriD F p q mr)
    (i1 : ∀ F : List AObj, TriD F p q mr → DCalls Try.prog 124 [.bptr p 0, emb x, emb x'] (hpF F p q mr v L) (.bool false) (hpF F p q mr v' L')) :
    DCalls Try.prog 124 [.bptr p 0, emb (.mk k 0 [x, y]), emb (.mk k 0 [x', y'])] (hpF F p q mr v L) (.bool false) (hpF F p q mr v' L') := by
  have hP := triP hD
  unfold DCalls
  refine acallsD_text CF_ok Try.func124 rfl (by decide) (Nat.le_of_ble_eq_true rfl) (by decide) fun ok => ?_
  rw [Try.results124]
  have h := True.intro
  repeat' (first
   | (with_reducible first | apply bA | apply bB | apply bC | apply bD | apply bE | apply bF) <;> intro h
   | ((first | apply bG | apply bH); simp only [AV.norm, AV.normL, W2, W2B, W3, yH, yI, yJ, yK, yL, yM, CF_ty, CF_inpl, hpF, mbx, mar, hP, h6, bne_self_eq_false, emb_cells, emb_bel, AV.belL, AV.bel, retD_ret, retD_normal]; first  | refine goDCall_z rfl trivial (i1 _ (by first | exact hD | exact hD.app _)) (.inl rfl) (fun hb => triB (by first | exact hD | exact hD.app _) hb) ?_)
   | refine go_drawF (id := 2) CF_ok (fun _ => trivial) mixed 0 Try.f124.ntmps (by first | (simp; done) | (simp; omega)) rfl (by kernel_rfl) (by decide) ?_
   | refine go_drawF (id := 4) CF_ok (fun _ => trivial) mixed 0 Try.f124.ntmps (by first | (simp; done) | (simp; omega)) rfl (by kernel_rfl) (by decide) ?_
   | refine go_drawF (id := 5) CF_ok (fun _ => trivial) mixed 0 Try.f124.ntmps (by first | (simp; done) | (simp; omega)) rfl (by kernel_rfl) (by decide) ?_
   | refine go_drawF (id := 6) CF_ok (fun _ => trivial) mixed 0 Try.f124.ntmps (by first | (simp; done) | (simp; omega)) rfl (by kernel_rfl) (by decide) ?_
   | refine go_drawF (id := 13) CF_ok (fun _ => trivial) mixed 0 Try.f124.ntmps (by first | (simp; done) | (simp; omega)) rfl (by kernel_rfl) (by decide) ?_
   | refine goRound ?_ CF_ok Try.f124.ntmps rfl (by decide)
   | skip) <;> simp only [h, ↓upd_eq, ↓envL_cons, WY, reduceIte, yA, yB, yC, yD, reduceCtorEq, yE, yF, W1, W1B, WS, W3, yH, yI, yJ, yK, yL, yM, CF_ty, CF_inpl, hpF, mbx, mar, hP, h6, bne_self_eq_false, emb_cells, emb_bel, AV.belL, AV.bel, retD_ret, retD_normal, cutNormal_normal]
  all_goals rfl
end
end
section
attribute [local irreducible] PCalls ACalls CallK GoCall GoDCall GoIf GoGb GoDGb GoO GoD GoX GoDX GoG GoDG GoGv GoDGv Go ALoop

theorem fits_all {p q mr : Nat} : ∀ t u : T, FitsC p q mr t u := by
  intro t
  induction t with
  | base k =>
    intro u
    by_cases h : (T.base k).ty.kind = u.ty.kind
    · have hu : u = .base k := by
        cases u with
        | base k' => simp only [T.ty, Ty.kind_mk] at h; congr 1; exact (Fin.ext (by omega)).symm
        | _ => exact absurd h (by have := base_ne k; simp only [T.ty, Ty.kind_mk]; omega)
      subst hu
      intro L v hb F hD
      have hr : fitsT (.base k) (.base k) L = (L, true) := by simp [fitsT]
      rw [hr]
      simp only [Nat.sub_self, Nat.add_zero]
      exact fits_leaf (by rw [beq_eq_false_iff_ne]; have := base_ne k; omega) L v hD
    · exact fits_ne h (by have := base_ne k; simp only [T.ty, Ty.kind_mk]; omega)
  | dyn =>
    intro u
    by_cases h : T.dyn.ty.kind = u.ty.kind
    · have hu : u = .dyn := by
        cases u with
        | dyn => rfl
        | base k' => exact absurd h (by have := base_ne k'; simp only [T.ty, Ty.kind_mk]; omega)
        | _ => exact absurd h (by simp only [T.ty, Ty.kind_mk]; omega)
      subst hu
      intro L v hb F hD
      have hr : fitsT .dyn .dyn L = (L, true) := rfl
      rw [hr]
      simp only [Nat.sub_self, Nat.add_zero]
      exact fits_leaf rfl L v hD
    · exact fits_ne h (by simp only [T.ty, Ty.kind_mk]; omega)
  | var n => exact fun u => fits_var n u
  | pair a b ih1 ih2 =>
    intro u
    by_cases h : (T.pair a b).ty.kind = u.ty.kind
    · obtain ⟨c, d, rfl⟩ : ∃ c d, u = .pair c d := by
        cases u with
        | pair c d => exact ⟨c, d, rfl⟩
        | base k' => exact absurd h (by have := base_ne k'; simp only [T.ty, Ty.kind_mk]; omega)
        | _ => exact absurd h (by simp only [T.ty, Ty.kind_mk]; omega)
      intro L v hb F hD
      simp only [T.size] at hb
      have l1 := fits_len a c L
      have l2 := fits_len b d (fitsT a c L).1
      have i1 := fun F hD => ih1 c L v (by omega) F hD
      simp only [fitsT]
      by_cases hok : (fitsT a c L).2 = true
      · rw [hok] at i1
        rw [if_pos hok]
        have i2 := fun F hD => ih2 d (fitsT a c L).1 (v + ((fitsT a c L).1.length - L.length)) (by omega) F hD
        have := fits_two (k := 7) rfl hD i1 i2
        rw [show v + ((fitsT a c L).1.length - L.length) + ((fitsT b d (fitsT a c L).1).1.length - (fitsT a c L).1.length) = v + ((fitsT b d (fitsT a c L).1).1.length - L.length) by omega] at this
        exact this
      · have hok' : (fitsT a c L).2 = false := by simpa using hok
        rw [hok'] at i1
        rw [if_neg hok]
        exact fits_two0 (k := 7) rfl hD i1
    · exact fits_ne h (by simp only [T.ty, Ty.kind_mk]; omega)
  | fn a b ih1 ih2 =>
    intro u
    by_cases h : (T.fn a b).ty.kind = u.ty.kind
    · obtain ⟨c, d, rfl⟩ : ∃ c d, u = .fn c d := by
        cases u with
        | fn c d => exact ⟨c, d, rfl⟩
        | base k' => exact absurd h (by have := base_ne k'; simp only [T.ty, Ty.kind_mk]; omega)
        | _ => exact absurd h (by simp only [T.ty, Ty.kind_mk]; omega)
      intro L v hb F hD
      simp only [T.size] at hb
      have l1 := fits_len a c L
      have l2 := fits_len b d (fitsT a c L).1
      have i1 := fun F hD => ih1 c L v (by omega) F hD
      simp only [fitsT]
      by_cases hok : (fitsT a c L).2 = true
      · rw [hok] at i1
        rw [if_pos hok]
        have i2 := fun F hD => ih2 d (fitsT a c L).1 (v + ((fitsT a c L).1.length - L.length)) (by omega) F hD
        have := fits_two (k := 9) rfl hD i1 i2
        rw [show v + ((fitsT a c L).1.length - L.length) + ((fitsT b d (fitsT a c L).1).1.length - (fitsT a c L).1.length) = v + ((fitsT b d (fitsT a c L).1).1.length - L.length) by omega] at this
        exact this
      · have hok' : (fitsT a c L).2 = false := by simpa using hok
        rw [hok'] at i1
        rw [if_neg hok]
        exact fits_two0 (k := 9) rfl hD i1
    · exact fits_ne h (by simp only [T.ty, Ty.kind_mk]; omega)
  | list a ih1 =>
    intro u
    by_cases h : (T.list a).ty.kind = u.ty.kind
    · obtain ⟨c, rfl⟩ : ∃ c, u = .list c := by
        cases u with
        | list c => exact ⟨c, rfl⟩
        | base k' => exact absurd h (by have := base_ne k'; simp only [T.ty, Ty.kind_mk]; omega)
        | _ => exact absurd h (by simp only [T.ty, Ty.kind_mk]; omega)
      intro L v hb F hD
      simp only [T.size] at hb
      have i1 := fun F hD => ih1 c L v (by omega) F hD
      simp only [fitsT]
      exact fits_one (k := 8) rfl hD i1
    · exact fits_ne h (by simp only [T.ty, Ty.kind_mk]; omega)
noncomputable def matchV (t u : Ty) : AV := if right t = true ∧ right u = true then (match matchT (tOf t) (tOf u) [] with
    | some L => .tup [.sl ((bdL L).map embB) .no, .bool true]
    | none => .tup [.sl [] .no, .bool false]) else .tup [.sl [] .no, .bool false]
theorem matchV_bel (t u : Ty) : (matchV t u).bel 0 = true := by
  unfold matchV
  split
  · split
    · simp [AV.bel, AV.belL, mapB_bel]
    · rfl
  · rfl
theorem match_bad {t u : Ty} (h : ¬ (right t = true ∧ right u = true)) : ∀ F : List AObj, DCalls Try.prog 64 [emb t, emb u] F (.tup [.sl [] .no, .bool false]) F := by
  intro F
  unfold DCalls
  have q1 := check_ok t
  have q2 := check_ok u
  have hb : ((1 : Int) != 0) = true := by decide
  by_cases h1 : right t = true
  · have h2 : ¬ right u = true := fun h2 => h ⟨h1, h2⟩
    rw [if_pos h1] at q1
    rw [if_neg h2] at q2
    refine acallsD_text C_ok Try.func64 rfl (by decide) (Nat.le_of_ble_eq_true rfl) (by decide) fun ok => ?_
    rw [Try.results64]
    have h := True.intro
    repeat' (first
     | (with_reducible first | apply bA | apply bB | apply bC | apply bD | apply bE | apply bF) <;> intro h
     | ((first | apply bG | apply bH); simp only [AV.norm, AV.normL, W2, W2B, hb, bne_self_eq_false, AV.belL, AV.bel, retD_ret, retD_normal]; first | refine goCall_p (q1) (.inl rfl) ?_ | refine goCall_p (q2) (.inl rfl) ?_ | refine goDCall_p (q1) (.inl rfl) ?_ | refine goDCall_p (q2) (.inl rfl) ?_)
     | skip) <;> simp only [h, ↓upd_eq, ↓envL_cons, WY, reduceIte, yA, yB, yC, yD, reduceCtorEq, yE, yF, W1, W1B, WS, hb, bne_self_eq_false, AV.belL, AV.bel, retD_ret, retD_normal]
    all_goals first | exact ⟨rfl, List.take_left' rfl⟩ | exact List.take_left' rfl
  · rw [if_neg h1] at q1
    refine acallsD_text C_ok Try.func64 rfl (by decide) (Nat.le_of_ble_eq_true rfl) (by decide) fun ok => ?_
    rw [Try.results64]
    have h := True.intro
    repeat' (first
     | (with_reducible first | apply bA | apply bB | apply bC | apply bD | apply bE | apply bF) <;> intro h
     | ((first | apply bG | apply bH); simp only [AV.norm, AV.normL, W2, W2B, hb, AV.belL, AV.bel, retD_ret, retD_normal]; first | refine goCall_p (q1) (.inl rfl) ?_ | refine goCall_p (q2) (.inl rfl) ?_ | refine goDCall_p (q1) (.inl rfl) ?_ | refine goDCall_p (q2) (.inl rfl) ?_)
     | skip) <;> simp only [h, ↓upd_eq, ↓envL_cons, WY, reduceIte, yA, yB, yC, yD, reduceCtorEq, yE, yF, W1, W1B, WS, hb, AV.belL, AV.bel, retD_ret, retD_normal]
    all_goals first | exact ⟨rfl, List.take_left' rfl⟩ | exact List.take_left' rfl
def mtJ (F : List AObj) (t u : Ty) (v : Nat) (L : List BT) : List AObj := F ++ [.box [.int .i64 t.kind, .int .i64 t.num, .sl (t.kids.map emb) .no], .box [.int .i64 u.kind, .int .i64 u.num, .sl (u.kids.map emb) .no], .map (embM (idM L)), .box [.ms (F.length + 4) v L.length, .mp (F.length + 2)], .arr v 4 ((bdL L).map embB)]
theorem mtJ_eq (F : List AObj) (t u : Ty) (v v' : Nat) (L L' : List BT) : hpF (mtJ F t u v L) (F.length + 3) (F.length + 4) (F.length + 2) v' L' = mtJ F t u v' L' := by
  unfold hpF tri stF mtJ mbx mar
  rw [app_setkc rfl, app_setkc rfl, app_setkc rfl]
  rfl
theorem mtJ_d (F : List AObj) (t u : Ty) (v : Nat) (L : List BT) : TriD (mtJ F t u v L) (F.length + 3) (F.length + 4) (F.length + 2) := by
  refine ⟨?_, ?_, ?_, by omega, by omega, by omega⟩ <;> simp [mtJ]
theorem match_call (F : List AObj) (t u : T) (hs : t.size ≤ 1000000) :
    ACalls Try.prog 124 [.bptr (F.length + 3) 0, emb t.ty, emb u.ty] (F ++ [.box [.int .i64 t.ty.kind, .int .i64 t.ty.num, .sl (t.ty.kids.map emb) .no], .box [.int .i64 u.ty.kind, .int .i64 u.ty.num, .sl (u.ty.kids.map emb) .no], .map [], .box [.sl [] .full, .mp (F.length + 2)]])
      fun x G => x = .bool (fitsT t u []).2 ∧ G = mtJ F t.ty u.ty (0 + ((fitsT t u []).1.length - 0)) (fitsT t u []).1 := by
  have h := fits_all t u [] 0 (by simpa using hs) (mtJ F t.ty u.ty 0 []) (mtJ_d F t.ty u.ty 0 [])
  rw [mtJ_eq, mtJ_eq] at h
  refine acalls_nil (p := F.length + 3) (off := 0) (size := 4) (cs := [.sl [] .full, .mp (F.length + 2)]) (app_getkc rfl) rfl ?_
  rw [app_setkc rfl, List.append_assoc]
  simp only [List.length_append, List.length_cons, List.length_nil]
  exact h
theorem match_no {t u : T} (ht : t.ok = true) (hu : u.ok = true) (hs : t.size ≤ 1000000) (hm : (fitsT t u []).2 = false) : ∀ F : List AObj, DCalls Try.prog 64 [emb t.ty, emb u.ty] F (.tup [.sl [] .no, .bool false]) F := by
  intro F
  unfold DCalls
  have q1 := check_ok t.ty
  have q2 := check_ok u.ty
  rw [if_pos (by rw [T.right_ty]; exact ht)] at q1
  rw [if_pos (by rw [T.right_ty]; exact hu)] at q2
  have qf := match_call F t u hs
  rw [hm] at qf
  generalize (fitsT t u []).1 = L at *
  refine acallsD_text C_ok Try.func64 rfl (by decide) (Nat.le_of_ble_eq_true rfl) (by decide) fun ok => ?_
  rw [Try.results64]
  have h := True.intro
  repeat' (first
   | (with_reducible first | apply bA | apply bB | apply bC | apply bD | apply bE | apply bF) <;> intro h
   | ((first | apply bG | apply bH); simp only [AV.norm, AV.normL, W2, W2B, bne_self_eq_false, AV.belL, AV.bel, retD_ret, retD_normal]; first | refine goCall_p (q1) (.inl rfl) ?_ | refine goCall_p (q2) (.inl rfl) ?_ | refine goDCall_p (q1) (.inl rfl) ?_ | refine goDCall_p (q2) (.inl rfl) ?_)
   | skip) <;> simp only [h, ↓upd_eq, ↓envL_cons, WY, reduceIte, yA, yB, yC, yD, reduceCtorEq, yE, yF, W1, W1B, WS, bne_self_eq_false, AV.belL, AV.bel, retD_ret, retD_normal]
  refine fsCall qf (.inl rfl) fun x G hG hlen => ?_
  obtain ⟨rfl, rfl⟩ := hG
  refine ⟨fun hbel => ?_, ?_⟩
  · rw [List.take_left' rfl] at hbel
    rw [mtJ, List.take_left' rfl]; exact hbel
  · simp only [mtJ]
    have h := True.intro
    repeat' (first
     | (with_reducible first | apply bA | apply bB | apply bC | apply bD | apply bE | apply bF) <;> intro h
     | skip) <;> simp only [h, ↓upd_eq, ↓envL_cons, WY, reduceIte, yA, yB, yC, yD, reduceCtorEq, yE, yF, W1, W1B, WS, AV.belL, AV.bel, retD_ret, retD_normal]
    all_goals first | exact ⟨rfl, List.take_left' rfl⟩ | exact List.take_left' rfl
theorem match_yes {t u : T} (ht : t.ok = true) (hu : u.ok = true) (hs : t.size ≤ 1000000) (hm : (fitsT t u []).2 = true) : ∀ F : List AObj, DCalls Try.prog 64 [emb t.ty, emb u.ty] F (.tup [.sl ((bdL (fitsT t u []).1).map embB) .no, .bool true]) F := by
  intro F
  have q1 := check_ok t.ty
  have q2 := check_ok u.ty
  rw [if_pos (by rw [T.right_ty]; exact ht)] at q1
  rw [if_pos (by rw [T.right_ty]; exact hu)] at q2
  have qf := match_call F t u hs
  rw [hm] at qf
  generalize (fitsT t u []).1 = L at *
  refine frz_D (q := F.length + 4) (v := 0 + (L.length - 0)) (size := 4) (es := (bdL L).map embB) (n := L.length) (J := [.box [.int .i64 t.ty.kind, .int .i64 t.ty.num, .sl (t.ty.kids.map emb) .no], .box [.int .i64 u.ty.kind, .int .i64 u.ty.num, .sl (u.ty.kids.map emb) .no], .map (embM (idM L)), .box [.ms (F.length + 4) (0 + (L.length - 0)) L.length, .mp (F.length + 2)], .arr (0 + (L.length - 0)) 4 ((bdL L).map embB)])
    (by omega) (app_getkc rfl) (mapB_bel _ _) (by simp [bdL]) ?_
  refine acalls_text C_ok Try.func64 rfl (by decide) (Nat.le_of_ble_eq_true rfl) (by decide) fun ok => ?_
  rw [Try.results64]
  have h := True.intro
  repeat' (first
   | (with_reducible first | apply bA | apply bB | apply bC | apply bD | apply bE | apply bF) <;> intro h
   | ((first | apply bG | apply bH); simp only [AV.norm, AV.normL, W2, W2B, bne_self_eq_false, AV.belL, AV.bel]; first | refine goCall_p (q1) (.inl rfl) ?_ | refine goCall_p (q2) (.inl rfl) ?_ | refine goDCall_p (q1) (.inl rfl) ?_ | refine goDCall_p (q2) (.inl rfl) ?_)
   | skip) <;> simp only [h, ↓upd_eq, ↓envL_cons, WY, reduceIte, yA, yB, yC, yD, reduceCtorEq, yE, yF, W1, W1B, WS, bne_self_eq_false, AV.belL, AV.bel]
  refine fsCall qf (.inl rfl) fun x G hG hlen => ?_
  obtain ⟨rfl, rfl⟩ := hG
  refine ⟨fun hbel => ?_, ?_⟩
  · rw [List.take_left' rfl] at hbel
    rw [mtJ, List.take_left' rfl]; exact hbel
  · simp only [mtJ]
    have h := True.intro
    repeat' (first
     | (with_reducible first | apply bA | apply bB | apply bC | apply bD | apply bE | apply bF) <;> intro h
     | skip) <;> simp only [h, ↓upd_eq, ↓envL_cons, WY, reduceIte, yA, yB, yC, yD, reduceCtorEq, yE, yF, W1, W1B, WS, AV.belL, AV.bel]
theorem match_ok (t u : Ty) (hs : nodes t ≤ 1000000) : PCalls Try.prog 64 [emb t, emb u] (matchV t u) := by
  refine pcalls_of (matchV_bel t u) ?_
  by_cases h : right t = true ∧ right u = true
  · obtain ⟨t, rfl, ht⟩ := T.of_right' h.1
    obtain ⟨u, rfl, hu⟩ := T.of_right' h.2
    rw [nodes_size] at hs
    have e := fits_match t u []
    rw [matchV, if_pos h, tOf_ty, tOf_ty, e]
    by_cases hm : (fitsT t u []).2 = true
    · simp only [if_pos hm]
      exact match_yes ht hu hs hm
    · simp only [if_neg hm]
      exact match_no ht hu hs (by simpa using hm)
  · rw [matchV, if_neg h]
    exact match_bad h
end
section
theorem lookB_nodup : ∀ {L : List Bd}, (L.map Prod.fst).Nodup → ∀ p ∈ L, lookB L p.1 = some p.2 := by
  intro L
  induction L with
  | nil => intro _ p hp; cases hp
  | cons a L ih =>
    intro hn p hp
    rw [List.map_cons, List.nodup_cons] at hn
    rw [lookB]
    rcases List.mem_cons.1 hp with rfl | hp
    · rw [if_pos rfl]
    · rw [if_neg fun e => hn.1 (List.mem_map.2 ⟨p, hp, e.symm⟩)]
      exact ih hn.2 p hp
noncomputable def gT (l : List Ty) (c : Bool) (i : Nat) : T := if l.length = 0 then .base 0 else plainS c (tOf (l.getD (i % l.length) default))
theorem statG_eq (vs : List Int) (l : List Ty) (c : Bool) (i : Nat) : statG vs l c i = (vs.getD i 0, (gT l c i).ty) := by
  unfold statG gT
  split <;> rfl
theorem statB_fst (vs : List Int) (l : List Ty) (c : Bool) : (statB vs l c).map Prod.fst = vs := by
  apply List.ext_getElem (by simp [statB])
  intro i h1 h2
  simp [statB, statG, h2]
theorem plainS_stat (c : Bool) : ∀ x : T, (plainS c x).stat = true := by
  intro x
  induction x <;> cases c <;> simp_all [plainS, T.stat]
theorem gT_stat (l : List Ty) (c : Bool) (i : Nat) : (gT l c i).stat = true := by
  unfold gT
  split
  · rfl
  · exact plainS_stat _ _
theorem sig_stat {vs : List Int} (hn : vs.Nodup) (l : List Ty) (c : Bool) {n : Int} (h : n ∈ vs) : ∃ i, sigB (statB vs l c) n = gT l c i ∧ (n, (gT l c i).ty) ∈ statB vs l c := by
  obtain ⟨i, hi, e⟩ := List.mem_iff_getElem.1 h
  have hm : statG vs l c i ∈ statB vs l c := List.mem_map.2 ⟨i, List.mem_range.2 hi, rfl⟩
  have hl := lookB_nodup (L := statB vs l c) (by rw [statB_fst]; exact hn) _ hm
  rw [statG_eq] at hl hm
  have e1 : vs.getD i 0 = n := by rw [← e]; simp [hi]
  rw [e1] at hl hm
  exact ⟨i, by rw [sigB, hl]; exact tOf_ty _, hm⟩
theorem statB_okBs {x : T} (hx : x.ok = true) {l : List Ty} (hl : ∀ y ∈ l, right y = true) (c : Bool) : okBs (statB (x.varsF []) l c) = true := by
  refine List.all_eq_true.2 fun p hp => ?_
  obtain ⟨i, hi, rfl⟩ := List.mem_map.1 hp
  have hi := List.mem_range.1 hi
  have h1 := has_ok hx ((x.varsF []).getD i 0) (mem_vars0.1 (by simp [hi]))
  have h2 := statG_right (vs := x.varsF []) (c := c) hl i
  have h3 : (statG (x.varsF []) l c i).1 = (x.varsF []).getD i 0 := rfl
  simp only [okBd, h2, Bool.and_true, Bool.and_eq_true]
  rw [h3]
  exact ⟨decide_eq_true h1.1, decide_eq_true h1.2⟩
end
end Go.Proofs.Ytdngjamjccjlmaa
