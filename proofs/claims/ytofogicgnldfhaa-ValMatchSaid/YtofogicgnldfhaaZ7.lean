/- Walks: a pattern held against a value, as the page does it. No condition. -/
import Derived.Test.YtofogicgnldfhaaZ6
import Derived.Test.YtofogicgnldfhaaY22
import Derived.Test.YtofogicgnldfhaaPYh
set_option linter.unusedSimpArgs false
set_option linter.unusedVariables false
set_option maxHeartbeats 4000000
set_option maxRecDepth 100000
namespace Go.Proofs.Ytofogicgnldfhaa
open Go Go.Ab
open Nat (reduceEqDiff reduceAdd reduceLT reduceLeDiff reduceMul reducePow)
attribute [local irreducible] PCalls ACalls CallK GoCall GoDCall GoIf GoGb GoDGb GoO GoD GoX GoDX GoG GoDG GoGv GoDGv Go ALoop

/-- What came of it, as the page's result. -/
def resM : RR → AV
  | .none => .agg [.int .i64 0, .int .i64 0, .int .i64 0, .str ByteArray.empty, .int .i64 0, .int .i64 0, .int .i64 0, .bool false, .sl [] .full, .sl [] .full, .int .i64 0, .bool false, .int .i64 0, .int .i64 0, .int .i64 0]
  | .err => embR 0 0 false
  | .blame l n => embR 2 l n
def errM : RR → Int
  | .err => 8
  | _ => 0
def CM : Cfg := { C with zwr := fun f => f == 64 }
theorem CM_ok : CfgOK Try.prog CM := C_ok
theorem CM_inpl (t : Nat) : CM.inpl t = false := rfl
theorem CM_ty (t : Nat) : CM.ty t = C.ty t := rfl
structure MatR (F : List AObj) (a : AV) (m : MO) (r : AV) (F' : List AObj) : Prop where
  out : ∃ a' es a2, r = .tup [a', .bool m.b, resM m.r, .int .i64 (errM m.r)] ∧ AccR 10 F a es a2 F' ∧ (m.b = true → a' = a2 ∧ es = m.L.map embL2)
/-- What it is boxed in at once. -/
def bx4 (pt : Pt) (w : Vl) : List AObj := [.box (cellsOf (embP pt)), .box (cellsOf (embV w)), .box (cellsOf (resM .none)), .box (cellsOf (resM .none))]
def MatC (pt : Pt) (w : Vl) : Prop := ∀ (L : List Cl) (a : AV) (F : List AObj), L.length + sizeP pt ≤ 1000000 → AccOK 10 F (L.map embL2) a → ∃ r F', DCalls Try.prog 64 [embP pt, embV w, a] F r F' ∧ MatR F a (matP pt w L) r F'
theorem AccR.app0' {sz : Nat} {F : List AObj} (J : List AObj) (x : AV) : AccR sz F (.sl [] .full) [x] (.sl [x] (.own (F.length + J.length))) (F ++ (J ++ [.tok 1 sz])) :=
  ⟨J ++ [.tok 1 sz], rfl, .inr ⟨F.length + J.length, Nat.le_add_right _ _, rfl, by simp⟩⟩
theorem AccR.setJ {sz : Nat} {F F' : List AObj} {es es' : List AV} {a a' : AV} (h : AccOK sz F es a) (hr : AccR sz F a es' a' F') {r : Nat} {y x : AObj} (hle : F.length ≤ r) (hy : F'[r]? = some y) (hn : ∀ m, y ≠ .tok m sz) : AccR sz F a es' a' (F'.set r x) := by
  obtain ⟨J, hr⟩ := hr
  rcases h with ⟨rfl, rfl⟩ | ⟨q, rfl, h⟩
  · obtain ⟨h1, h2⟩ := hr
    refine ⟨J.set (r - F.length) x, by rw [h1, List.set_append_right _ _ hle], ?_⟩
    rcases h2 with h2 | ⟨q, hq, h3, h4⟩
    · exact .inl h2
    · refine .inr ⟨q, hq, h3, ?_⟩
      have hne : r ≠ q := by
        rintro rfl
        rw [hy] at h4
        simp only [Option.some.injEq] at h4
        exact hn _ h4
      rw [List.getElem?_set_ne hne]; exact h4
  · obtain ⟨h1, h2⟩ := hr
    exact ⟨J.set (r - F.length) x, h1, by rw [h2, List.set_append_right _ _ (by simpa using hle)]; simp⟩
theorem resM_shape (r : RR) : ∃ k l n tk, resM r = .agg [.int .i64 k, .int .i64 0, .int .i64 0, .str ByteArray.empty, .int .i64 0, .int .i64 0, .int .i64 0, .bool false, .sl [] tk, .sl [] tk, .int .i64 l, .bool n, .int .i64 0, .int .i64 0, .int .i64 0] ∧ (tk = .full ∨ tk = .no) := by
  cases r
  · exact ⟨_, _, _, _, rfl, .inl rfl⟩
  · exact ⟨_, _, _, _, rfl, .inr rfl⟩
  · exact ⟨_, _, _, _, rfl, .inr rfl⟩
theorem leafP_page {pt : Pt} {w : Vl} (hk : 3 ≤ pt.kind ∧ pt.kind ≤ 9) (h7 : pt.kind ≠ 7 ∧ pt.kind ≠ 9) (ho : okP pt = true) (hr : rightV w = true) (hw : w.kind = pt.kind - 2) :
    leafP pt w = ((pt.kind == 8) || ((w.num == pt.num) && (w.str.toList == pt.str.toList))) := by
  have hv := ownV_one (ownV_of hr)
  simp only [oneV, okP, Bool.and_eq_true] at hv ho
  obtain ⟨⟨⟨⟨_, v1⟩, v2⟩, _⟩, _⟩ := hv
  obtain ⟨⟨⟨⟨⟨_, o1⟩, o2⟩, _⟩, _⟩, _⟩ := ho
  have e0 : ∀ {a b : ByteArray}, a.data.toList = [] → b.data.toList = [] → (a.toList == b.toList) = true := fun h1 h2 => by
    rw [ByteArray.toList_eq, ByteArray.toList_eq, h1, h2]; rfl
  have : pt.kind = 3 ∨ pt.kind = 4 ∨ pt.kind = 5 ∨ pt.kind = 6 ∨ pt.kind = 8 := by omega
  unfold leafP
  rcases this with h | h | h | h | h
  · rw [h] at o1 o2 hw ⊢
    have hw' : w.kind = 1 := by omega
    rw [hw'] at v1 v2 ⊢
    rw [if_neg (by decide), decide_eq_true_eq] at o2 v2
    rw [e0 v2 o2]; simp
  · rw [h] at o1 o2 hw ⊢
    have hw' : w.kind = 2 := by omega
    rw [hw'] at v1 v2 ⊢
    rw [if_neg (by decide), decide_eq_true_eq] at o2 v2
    rw [e0 v2 o2]; simp
  · rw [h] at o1 o2 hw ⊢
    have hw' : w.kind = 3 := by omega
    rw [hw'] at v1 v2 ⊢
    rw [if_neg (by decide), if_neg (by decide), decide_eq_true_eq] at o1
    rw [if_neg (by decide), if_neg (by decide), if_neg (by decide), decide_eq_true_eq] at v1
    rw [o1, v1]; simp
  · rw [h] at o1 o2 hw ⊢
    have hw' : w.kind = 4 := by omega
    rw [hw'] at v1 v2 ⊢
    rw [if_neg (by decide), if_neg (by decide), decide_eq_true_eq] at o1
    rw [if_neg (by decide), if_neg (by decide), if_neg (by decide), decide_eq_true_eq] at v1
    rw [if_neg (by decide), decide_eq_true_eq] at o2 v2
    rw [e0 v2 o2, o1, v1]; simp
  · rw [h] at hw ⊢
    have hw' : w.kind = 6 := by omega
    rw [hw']; simp
theorem rmat_any (pt : Pt) (w : Vl) (hk : pt.kind = 1) : MatC pt w := by
  intro L a F hsz hacc
  have hm : matP pt w L = ⟨L, true, .none⟩ := by rw [matP_eq _ _ _ (by omega), if_pos hk]
  rw [hm]
  have hBE : ∀ j : Int, (pt.kind == j) = ((1 : Int) == j) := fun j => by rw [hk]
  have hb : F.length ≤ F.length := Nat.le_refl _
  refine ⟨.tup [a, .bool true, resM .none, .int .i64 0], F ++ bx4 pt w, ?_, ⟨_, _, _, rfl, AccR.junk hacc _, fun _ => ⟨rfl, rfl⟩⟩⟩
  unfold DCalls
  simp only [bx4, embP_cells, embV_cells, resM, cellsOf_agg]
  refine acalls_text CM_ok Try.func64 rfl (by decide) (Nat.le_of_ble_eq_true rfl) (by decide) fun ok => ?_
  rw [Try.results64]
  have h := True.intro
  repeat' (first
   | (with_reducible first | apply bA | apply bB | apply bC | apply bD | apply bE | apply bF) <;> intro h
   | refine go_drawF (id := 4) CM_ok (fun _ => trivial) mixed 0 Try.f64.ntmps (by first | (simp; done) | (simp; omega)) rfl (by kernel_rfl) (by decide) ?_
   | refine go_drawF (id := 6) CM_ok (fun _ => trivial) mixed 0 Try.f64.ntmps (by first | (simp; done) | (simp; omega)) rfl (by kernel_rfl) (by decide) ?_
   | refine go_drawF (id := 9) CM_ok (fun _ => trivial) mixed 0 Try.f64.ntmps (by first | (simp; done) | (simp; omega)) rfl (by kernel_rfl) (by decide) ?_
   | refine go_drawF (id := 11) CM_ok (fun _ => trivial) mixed 0 Try.f64.ntmps (by first | (simp; done) | (simp; omega)) rfl (by kernel_rfl) (by decide) ?_
   | refine go_drawF (id := 14) CM_ok (fun _ => trivial) mixed 0 Try.f64.ntmps (by first | (simp; done) | (simp; omega)) rfl (by kernel_rfl) (by decide) ?_
   | refine go_drawF (id := 15) CM_ok (fun _ => trivial) mixed 0 Try.f64.ntmps (by first | (simp; done) | (simp; omega)) rfl (by kernel_rfl) (by decide) ?_
   | refine go_drawF (id := 17) CM_ok (fun _ => trivial) mixed 0 Try.f64.ntmps (by first | (simp; done) | (simp; omega)) rfl (by kernel_rfl) (by decide) ?_
   | refine go_drawF (id := 18) CM_ok (fun _ => trivial) mixed 0 Try.f64.ntmps (by first | (simp; done) | (simp; omega)) rfl (by kernel_rfl) (by decide) ?_
   | skip) <;> simp only [h, ↓upd_eq, ↓envL_cons, WY, reduceIte, reduceEqDiff, reduceAdd, reduceLT, reduceLeDiff, reduceCtorEq, reduceMul, reducePow, W1, W1C, W1P, W1V, W1L, fs_frz, fs_frz0, fs_env, fs_b, fs_n, fs_put, fs_put0, fs_tmp, fs_const, fs_func, fs_obj, fs_setObj, fs_new, fs_next, fs_mk, fs_H, le_app, le_set, app_get, app_set, app_get0c, app_getkc, app_set0c, app_setkc, List.append_assoc, not_false_eq_true, not_true_eq_false, retE_ret, retP_ret, List.length_append, List.length_set, Nat.le_succ, CM_ty, CM_inpl, Bool.false_eq_true, hBE, Int.reduceBEq, List.not_mem_nil]
theorem rmat_name (pt : Pt) (w : Vl) (hk : pt.kind = 2) : MatC pt w := by
  intro L a F hsz hacc
  have hm : matP pt w L = ⟨L ++ [(pt.name, w)], true, .none⟩ := by rw [matP_eq _ _ _ (by omega), if_neg (by omega), if_pos hk]
  rw [hm]
  have hBE : ∀ j : Int, (pt.kind == j) = ((2 : Int) == j) := fun j => by rw [hk]
  have hb : F.length ≤ F.length := Nat.le_refl _
  rcases hacc with ⟨e1, rfl⟩ | ⟨q, rfl, hq⟩
  · obtain rfl : L = [] := List.map_eq_nil_iff.1 e1
    refine ⟨.tup [.sl [embL2 (pt.name, w)] (.own (F.length + 4)), .bool true, resM .none, .int .i64 0], F ++ (bx4 pt w ++ [.tok 1 10]), ?_, ⟨_, _, _, rfl, AccR.app0' (bx4 pt w) _, fun _ => ⟨rfl, rfl⟩⟩⟩
    unfold DCalls
    simp only [bx4, embP_cells, embV_cells, resM, cellsOf_agg]
    refine acalls_text CM_ok Try.func64 rfl (by decide) (Nat.le_of_ble_eq_true rfl) (by decide) fun ok => ?_
    rw [Try.results64]
    have h := True.intro
    repeat' (first
     | (with_reducible first | apply bA | apply bB | apply bC | apply bD | apply bE | apply bF) <;> intro h
     | refine go_drawF (id := 4) CM_ok (fun _ => trivial) mixed 0 Try.f64.ntmps (by first | (simp; done) | (simp; omega)) rfl (by kernel_rfl) (by decide) ?_
     | refine go_drawF (id := 6) CM_ok (fun _ => trivial) mixed 0 Try.f64.ntmps (by first | (simp; done) | (simp; omega)) rfl (by kernel_rfl) (by decide) ?_
     | refine go_drawF (id := 9) CM_ok (fun _ => trivial) mixed 0 Try.f64.ntmps (by first | (simp; done) | (simp; omega)) rfl (by kernel_rfl) (by decide) ?_
     | refine go_drawF (id := 11) CM_ok (fun _ => trivial) mixed 0 Try.f64.ntmps (by first | (simp; done) | (simp; omega)) rfl (by kernel_rfl) (by decide) ?_
     | refine go_drawF (id := 14) CM_ok (fun _ => trivial) mixed 0 Try.f64.ntmps (by first | (simp; done) | (simp; omega)) rfl (by kernel_rfl) (by decide) ?_
     | refine go_drawF (id := 15) CM_ok (fun _ => trivial) mixed 0 Try.f64.ntmps (by first | (simp; done) | (simp; omega)) rfl (by kernel_rfl) (by decide) ?_
     | refine go_drawF (id := 17) CM_ok (fun _ => trivial) mixed 0 Try.f64.ntmps (by first | (simp; done) | (simp; omega)) rfl (by kernel_rfl) (by decide) ?_
     | refine go_drawF (id := 18) CM_ok (fun _ => trivial) mixed 0 Try.f64.ntmps (by first | (simp; done) | (simp; omega)) rfl (by kernel_rfl) (by decide) ?_
     | skip) <;> simp only [h, ↓upd_eq, ↓envL_cons, WY, reduceIte, reduceEqDiff, reduceAdd, reduceLT, reduceLeDiff, reduceCtorEq, reduceMul, reducePow, W1, W1C, W1P, W1V, W1L, fs_frz, fs_frz0, fs_env, fs_b, fs_n, fs_put, fs_put0, fs_tmp, fs_const, fs_func, fs_obj, fs_setObj, fs_new, fs_next, fs_mk, fs_H, le_app, le_set, app_get, app_set, app_get0c, app_getkc, app_set0c, app_setkc, List.append_assoc, not_false_eq_true, not_true_eq_false, retE_ret, retP_ret, List.length_append, List.length_set, Nat.le_succ, CM_ty, CM_inpl, Bool.false_eq_true, hBE, Int.reduceBEq, List.not_mem_nil]
  · have hql := get_lt hq
    rw [List.length_map] at hq
    refine ⟨.tup [.sl (L.map embL2 ++ [embL2 (pt.name, w)]) (.own q), .bool true, resM .none, .int .i64 0], F.set q (.tok (L.length + 1) 10) ++ bx4 pt w, ?_,
      ⟨_, (L ++ [(pt.name, w)]).map embL2, .sl ((L ++ [(pt.name, w)]).map embL2) (.own q), rfl, ⟨bx4 pt w, rfl, by rw [List.length_map, List.length_append]; rfl⟩, fun _ => ⟨by simp, rfl⟩⟩⟩
    unfold DCalls
    simp only [bx4, embP_cells, embV_cells, resM, cellsOf_agg]
    refine acalls_text CM_ok Try.func64 rfl (by decide) (Nat.le_of_ble_eq_true rfl) (by decide) fun ok => ?_
    rw [Try.results64]
    have h := True.intro
    repeat' (first
     | (with_reducible first | apply bA | apply bB | apply bC | apply bD | apply bE | apply bF) <;> intro h
     | refine go_drawF (id := 4) CM_ok (fun _ => trivial) mixed 0 Try.f64.ntmps (by first | (simp; done) | (simp; omega)) rfl (by kernel_rfl) (by decide) ?_
     | refine go_drawF (id := 6) CM_ok (fun _ => trivial) mixed 0 Try.f64.ntmps (by first | (simp; done) | (simp; omega)) rfl (by kernel_rfl) (by decide) ?_
     | refine go_drawF (id := 9) CM_ok (fun _ => trivial) mixed 0 Try.f64.ntmps (by first | (simp; done) | (simp; omega)) rfl (by kernel_rfl) (by decide) ?_
     | refine go_drawF (id := 11) CM_ok (fun _ => trivial) mixed 0 Try.f64.ntmps (by first | (simp; done) | (simp; omega)) rfl (by kernel_rfl) (by decide) ?_
     | refine go_drawF (id := 14) CM_ok (fun _ => trivial) mixed 0 Try.f64.ntmps (by first | (simp; done) | (simp; omega)) rfl (by kernel_rfl) (by decide) ?_
     | refine go_drawF (id := 15) CM_ok (fun _ => trivial) mixed 0 Try.f64.ntmps (by first | (simp; done) | (simp; omega)) rfl (by kernel_rfl) (by decide) ?_
     | refine go_drawF (id := 17) CM_ok (fun _ => trivial) mixed 0 Try.f64.ntmps (by first | (simp; done) | (simp; omega)) rfl (by kernel_rfl) (by decide) ?_
     | refine go_drawF (id := 18) CM_ok (fun _ => trivial) mixed 0 Try.f64.ntmps (by first | (simp; done) | (simp; omega)) rfl (by kernel_rfl) (by decide) ?_
     | skip) <;> simp only [h, ↓upd_eq, ↓envL_cons, WY, reduceIte, reduceEqDiff, reduceAdd, reduceLT, reduceLeDiff, reduceCtorEq, reduceMul, reducePow, W1, W1C, W1P, W1V, W1L, fs_frz, fs_frz0, fs_env, fs_b, fs_n, fs_put, fs_put0, fs_tmp, fs_const, fs_func, fs_obj, fs_setObj, fs_new, fs_next, fs_mk, fs_H, le_app, le_set, app_get, app_set, app_get0c, app_getkc, app_set0c, app_setkc, List.append_assoc, not_false_eq_true, not_true_eq_false, retE_ret, retP_ret, List.length_append, List.length_set, Nat.le_succ, CM_ty, CM_inpl, Bool.false_eq_true, hBE, Int.reduceBEq, mapL_norm, app_get hql, app_set hql, hq, all_embL10, List.length_map]
    exact ⟨by omega, by omega⟩
theorem rmat_inj (pt : Pt) (w : Vl) (h1 : pt.kind ≠ 1) (h2 : pt.kind ≠ 2) (hk : 3 ≤ pt.kind ∧ pt.kind ≤ 9) (h5 : w.co.kind = 5) (hl : pt.kind = 7 ∨ pt.kind = 9 → pt.kids.length = 2) : MatC pt w := by
  intro L a F hsz hacc
  have hm : matP pt w L = ⟨L, false, .none⟩ := by rw [matP_eq _ _ _ hl, if_neg h1, if_neg h2, if_pos h5]
  rw [hm]
  have b1 : (pt.kind == 1) = false := by simpa using h1
  have b2 : (pt.kind == 2) = false := by simpa using h2
  have b5 : (w.co.kind == 5) = true := by simpa using h5
  have hb : F.length ≤ F.length := Nat.le_refl _
  refine ⟨.tup [.sl [] .full, .bool false, resM .none, .int .i64 0], F ++ bx4 pt w, ?_, ⟨_, _, _, rfl, AccR.junk hacc _, fun h => (by cases h)⟩⟩
  unfold DCalls
  simp only [bx4, embP_cells, embV_cells, resM, cellsOf_agg]
  refine acalls_text CM_ok Try.func64 rfl (by decide) (Nat.le_of_ble_eq_true rfl) (by decide) fun ok => ?_
  rw [Try.results64]
  have h := True.intro
  repeat' (first
   | (with_reducible first | apply bA | apply bB | apply bC | apply bD | apply bE | apply bF) <;> intro h
   | refine go_drawF (id := 4) CM_ok (fun _ => trivial) mixed 0 Try.f64.ntmps (by first | (simp; done) | (simp; omega)) rfl (by kernel_rfl) (by decide) ?_
   | refine go_drawF (id := 6) CM_ok (fun _ => trivial) mixed 0 Try.f64.ntmps (by first | (simp; done) | (simp; omega)) rfl (by kernel_rfl) (by decide) ?_
   | refine go_drawF (id := 9) CM_ok (fun _ => trivial) mixed 0 Try.f64.ntmps (by first | (simp; done) | (simp; omega)) rfl (by kernel_rfl) (by decide) ?_
   | refine go_drawF (id := 11) CM_ok (fun _ => trivial) mixed 0 Try.f64.ntmps (by first | (simp; done) | (simp; omega)) rfl (by kernel_rfl) (by decide) ?_
   | refine go_drawF (id := 14) CM_ok (fun _ => trivial) mixed 0 Try.f64.ntmps (by first | (simp; done) | (simp; omega)) rfl (by kernel_rfl) (by decide) ?_
   | refine go_drawF (id := 15) CM_ok (fun _ => trivial) mixed 0 Try.f64.ntmps (by first | (simp; done) | (simp; omega)) rfl (by kernel_rfl) (by decide) ?_
   | refine go_drawF (id := 17) CM_ok (fun _ => trivial) mixed 0 Try.f64.ntmps (by first | (simp; done) | (simp; omega)) rfl (by kernel_rfl) (by decide) ?_
   | refine go_drawF (id := 18) CM_ok (fun _ => trivial) mixed 0 Try.f64.ntmps (by first | (simp; done) | (simp; omega)) rfl (by kernel_rfl) (by decide) ?_
   | skip) <;> simp only [h, ↓upd_eq, ↓envL_cons, WY, reduceIte, reduceEqDiff, reduceAdd, reduceLT, reduceLeDiff, reduceCtorEq, reduceMul, reducePow, W1, W1C, W1P, W1V, W1L, fs_frz, fs_frz0, fs_env, fs_b, fs_n, fs_put, fs_put0, fs_tmp, fs_const, fs_func, fs_obj, fs_setObj, fs_new, fs_next, fs_mk, fs_H, le_app, le_set, app_get, app_set, app_get0c, app_getkc, app_set0c, app_setkc, List.append_assoc, not_false_eq_true, not_true_eq_false, retE_ret, retP_ret, List.length_append, List.length_set, Nat.le_succ, CM_ty, CM_inpl, Bool.false_eq_true, b1, b2, b5]
theorem wrap_k {k : Int} (h : 3 ≤ k ∧ k ≤ 9) : IntKind.wrap .i64 (IntKind.wrap .i64 (k - 3) + 1) = k - 2 := by
  have e1 : IntKind.i64.min = -9223372036854775808 := by decide
  have e2 : IntKind.i64.max = 9223372036854775807 := by decide
  rw [wrap_id .i64 (k - 3) (by omega) (by omega), wrap_id .i64 _ (by omega) (by omega)]; omega
theorem rmat_no (pt : Pt) (w : Vl) (hk : 3 ≤ pt.kind ∧ pt.kind ≤ 9) (h5 : w.co.kind ≠ 5) (hw : w.kind ≠ pt.kind - 2) (L : List Cl) (hm : ∃ L', matP pt w L = ⟨L', false, .none⟩) : ∀ (a : AV) (F : List AObj), L.length + sizeP pt ≤ 1000000 → AccOK 10 F (L.map embL2) a → ∃ r F', DCalls Try.prog 64 [embP pt, embV w, a] F r F' ∧ MatR F a (matP pt w L) r F' := by
  intro a F hsz hacc
  obtain ⟨L', hm⟩ := hm
  rw [hm]
  have b1 : (pt.kind == 1) = false := by simp; omega
  have b2 : (pt.kind == 2) = false := by simp; omega
  have b5 : (w.co.kind == 5) = false := by simpa using h5
  have bw : (w.kind != pt.kind - 2) = true := by simpa using hw
  have wk := wrap_k hk
  have hb : F.length ≤ F.length := Nat.le_refl _
  refine ⟨.tup [.sl [] .full, .bool false, resM .none, .int .i64 0], F ++ bx4 pt w, ?_, ⟨_, _, _, rfl, AccR.junk hacc _, fun h => (by cases h)⟩⟩
  unfold DCalls
  simp only [bx4, embP_cells, embV_cells, resM, cellsOf_agg]
  refine acalls_text CM_ok Try.func64 rfl (by decide) (Nat.le_of_ble_eq_true rfl) (by decide) fun ok => ?_
  rw [Try.results64]
  have h := True.intro
  repeat' (first
   | (with_reducible first | apply bA | apply bB | apply bC | apply bD | apply bE | apply bF) <;> intro h
   | refine go_drawF (id := 4) CM_ok (fun _ => trivial) mixed 0 Try.f64.ntmps (by first | (simp; done) | (simp; omega)) rfl (by kernel_rfl) (by decide) ?_
   | refine go_drawF (id := 6) CM_ok (fun _ => trivial) mixed 0 Try.f64.ntmps (by first | (simp; done) | (simp; omega)) rfl (by kernel_rfl) (by decide) ?_
   | refine go_drawF (id := 9) CM_ok (fun _ => trivial) mixed 0 Try.f64.ntmps (by first | (simp; done) | (simp; omega)) rfl (by kernel_rfl) (by decide) ?_
   | refine go_drawF (id := 11) CM_ok (fun _ => trivial) mixed 0 Try.f64.ntmps (by first | (simp; done) | (simp; omega)) rfl (by kernel_rfl) (by decide) ?_
   | refine go_drawF (id := 14) CM_ok (fun _ => trivial) mixed 0 Try.f64.ntmps (by first | (simp; done) | (simp; omega)) rfl (by kernel_rfl) (by decide) ?_
   | refine go_drawF (id := 15) CM_ok (fun _ => trivial) mixed 0 Try.f64.ntmps (by first | (simp; done) | (simp; omega)) rfl (by kernel_rfl) (by decide) ?_
   | refine go_drawF (id := 17) CM_ok (fun _ => trivial) mixed 0 Try.f64.ntmps (by first | (simp; done) | (simp; omega)) rfl (by kernel_rfl) (by decide) ?_
   | refine go_drawF (id := 18) CM_ok (fun _ => trivial) mixed 0 Try.f64.ntmps (by first | (simp; done) | (simp; omega)) rfl (by kernel_rfl) (by decide) ?_
   | skip) <;> simp only [h, ↓upd_eq, ↓envL_cons, WY, reduceIte, reduceEqDiff, reduceAdd, reduceLT, reduceLeDiff, reduceCtorEq, reduceMul, reducePow, W1, W1C, W1P, W1V, W1L, fs_frz, fs_frz0, fs_env, fs_b, fs_n, fs_put, fs_put0, fs_tmp, fs_const, fs_func, fs_obj, fs_setObj, fs_new, fs_next, fs_mk, fs_H, le_app, le_set, app_get, app_set, app_get0c, app_getkc, app_set0c, app_setkc, List.append_assoc, not_false_eq_true, not_true_eq_false, retE_ret, retP_ret, List.length_append, List.length_set, Nat.le_succ, CM_ty, CM_inpl, Bool.false_eq_true, b1, b2, b5, wk, bw]
theorem rmat_leaf (pt : Pt) (w : Vl) (hk : 3 ≤ pt.kind ∧ pt.kind ≤ 9) (h7 : pt.kind ≠ 7 ∧ pt.kind ≠ 9) (ho : okP pt = true) (hr : rightV w = true) (h5 : w.co.kind ≠ 5) (hw : w.kind = pt.kind - 2) (L : List Cl) : ∀ (a : AV) (F : List AObj), L.length + sizeP pt ≤ 1000000 → AccOK 10 F (L.map embL2) a → ∃ r F', DCalls Try.prog 64 [embP pt, embV w, a] F r F' ∧ MatR F a (matP pt w L) r F' := by
  intro a F hsz hacc
  have hm : matP pt w L = ⟨L, leafP pt w, .none⟩ := by rw [matP_eq _ _ _ (by omega), if_neg (by omega), if_neg (by omega), if_neg h5, if_pos h7]
  have hlf : leafP pt w = ((pt.kind == 8) || ((w.num == pt.num) && (w.str.toList == pt.str.toList))) := leafP_page hk h7 ho hr hw
  rw [hm, hlf]
  refine ⟨.tup [a, .bool ((pt.kind == 8) || ((w.num == pt.num) && (w.str.toList == pt.str.toList))), resM .none, .int .i64 0], F ++ bx4 pt w, ?_, ⟨_, _, _, rfl, AccR.junk hacc _, fun _ => ⟨rfl, rfl⟩⟩⟩
  unfold DCalls
  simp only [bx4, embP_cells, embV_cells, resM, cellsOf_agg]
  have b1 : (pt.kind == 1) = false := by simp; omega
  have b2 : (pt.kind == 2) = false := by simp; omega
  have b5 : (w.co.kind == 5) = false := by simpa using h5
  have bw : (w.kind != pt.kind - 2) = false := by simpa using hw
  have b7 : (pt.kind != 7) = true := by simpa using h7.1
  have b9 : (pt.kind != 9) = true := by simpa using h7.2
  have wk := wrap_k hk
  have hb : F.length ≤ F.length := Nat.le_refl _
  cases h8 : (pt.kind == 8)
  all_goals cases hn : (w.num == pt.num)
  all_goals
    refine acalls_text CM_ok Try.func64 rfl (by decide) (Nat.le_of_ble_eq_true rfl) (by decide) fun ok => ?_
    rw [Try.results64]
    have h := True.intro
    repeat' (first
     | (with_reducible first | apply bA | apply bB | apply bC | apply bD | apply bE | apply bF) <;> intro h
     | refine go_drawF (id := 4) CM_ok (fun _ => trivial) mixed 0 Try.f64.ntmps (by first | (simp; done) | (simp; omega)) rfl (by kernel_rfl) (by decide) ?_
     | refine go_drawF (id := 6) CM_ok (fun _ => trivial) mixed 0 Try.f64.ntmps (by first | (simp; done) | (simp; omega)) rfl (by kernel_rfl) (by decide) ?_
     | refine go_drawF (id := 9) CM_ok (fun _ => trivial) mixed 0 Try.f64.ntmps (by first | (simp; done) | (simp; omega)) rfl (by kernel_rfl) (by decide) ?_
     | refine go_drawF (id := 11) CM_ok (fun _ => trivial) mixed 0 Try.f64.ntmps (by first | (simp; done) | (simp; omega)) rfl (by kernel_rfl) (by decide) ?_
     | refine go_drawF (id := 14) CM_ok (fun _ => trivial) mixed 0 Try.f64.ntmps (by first | (simp; done) | (simp; omega)) rfl (by kernel_rfl) (by decide) ?_
     | refine go_drawF (id := 15) CM_ok (fun _ => trivial) mixed 0 Try.f64.ntmps (by first | (simp; done) | (simp; omega)) rfl (by kernel_rfl) (by decide) ?_
     | refine go_drawF (id := 17) CM_ok (fun _ => trivial) mixed 0 Try.f64.ntmps (by first | (simp; done) | (simp; omega)) rfl (by kernel_rfl) (by decide) ?_
     | refine go_drawF (id := 18) CM_ok (fun _ => trivial) mixed 0 Try.f64.ntmps (by first | (simp; done) | (simp; omega)) rfl (by kernel_rfl) (by decide) ?_
     | skip) <;> simp only [h, ↓upd_eq, ↓envL_cons, WY, reduceIte, reduceEqDiff, reduceAdd, reduceLT, reduceLeDiff, reduceCtorEq, reduceMul, reducePow, W1, W1C, W1P, W1V, W1L, fs_frz, fs_frz0, fs_env, fs_b, fs_n, fs_put, fs_put0, fs_tmp, fs_const, fs_func, fs_obj, fs_setObj, fs_new, fs_next, fs_mk, fs_H, le_app, le_set, app_get, app_set, app_get0c, app_getkc, app_set0c, app_setkc, List.append_assoc, not_false_eq_true, not_true_eq_false, retE_ret, retP_ret, List.length_append, List.length_set, Nat.le_succ, CM_ty, CM_inpl, Bool.false_eq_true, b1, b2, b5, wk, bw, b7, b9, h8, hn]
    all_goals simp
/-- Pairs and rows. -/
theorem rmat_two (pt : Pt) (w : Vl) (hk : pt.kind = 7 ∨ pt.kind = 9) (hl : pt.kids.length = 2) (hr : rightV w = true) (h5 : w.co.kind ≠ 5) (hw : w.kind = pt.kind - 2) (ho : ∀ x ∈ pt.kids, okA x = true)
    (ih : ∀ x ∈ pt.kids, ∀ y, rightV y = true → MatC x y) : MatC pt w := by
  intro L a F hsz hacc
  have hmis : ¬ ((pt.kind = 7 ∧ w.kind ≠ 5) ∨ (pt.kind = 9 ∧ w.kind ≠ 7)) := by omega
  have hm := matP_eq pt w L (fun _ => hl)
  rw [if_neg (by omega), if_neg (by omega), if_neg h5, if_neg (by omega), if_neg hmis] at hm
  have b1 : (pt.kind == 1) = false := by simp; omega
  have b2 : (pt.kind == 2) = false := by simp; omega
  have b5 : (w.co.kind == 5) = false := by simpa using h5
  have bw : (w.kind != pt.kind - 2) = false := by simpa using hw
  have wk := wrap_k (k := pt.kind) (by omega)
  have b79 : ((pt.kind != 7) = false ∧ True) ∨ ((pt.kind != 7) = true ∧ (pt.kind != 9) = false) := by rcases hk with h | h <;> simp [h]
  have qt := rParts_ok w hr
  have g0 : (pt.kids.map embP).getD 0 .any = embP (pt.kid 0) := mapP_kid (by omega)
  have g1 : (pt.kids.map embP).getD 1 .any = embP (pt.kid 1) := mapP_kid (by omega)
  have c0 : ((0 : Int) < (2 : Nat)) = True := by simp
  have c1 : ((1 : Int) < (2 : Nat)) = True := by simp
  have t0 : Int.toNat 0 = 0 := rfl
  have t1 : Int.toNat 1 = 1 := rfl
  have z1 : ((0 : Int) ≤ 1) = True := by simp
  have n8 : ((8 : Int) != 0) = true := rfl
  have n2 : ((2 : Int) != 0) = true := rfl
  have n0 : ((0 : Int) != 0) = false := rfl
  have hb : F.length ≤ F.length := Nat.le_refl _
  cases ht : twoV w with
  | err =>
    rw [ht] at qt hm
    rw [hm]
    simp only [resP, embR] at qt
    refine ⟨.tup [.sl [] .full, .bool false, resM .err, .int .i64 8], F ++ [.box (cellsOf (embP pt)), .box (cellsOf (embV w)), .box (cellsOf (resM .err)), .box (cellsOf (resM .none)), .box (cellsOf (embV noneV)), .box (cellsOf (embV noneV)), .box (cellsOf (resM .err))], ?_, ⟨_, _, _, rfl, AccR.junk hacc _, fun h => (by cases h)⟩⟩
    unfold DCalls
    simp only [embP_cells, embV_cells, resM, embR, cellsOf_agg]
    rcases b79 with ⟨b7, b9⟩ | ⟨b7, b9⟩
    all_goals
      refine acalls_text CM_ok Try.func64 rfl (by decide) (Nat.le_of_ble_eq_true rfl) (by decide) fun ok => ?_
      rw [Try.results64]
      have h := True.intro
      repeat' (first
       | (with_reducible first | apply bA | apply bB | apply bC | apply bD | apply bE | apply bF) <;> intro h
       | ((first | refine goCall_norm ?_ | refine goDCall_norm ?_); simp only [AV.norm, AV.normL, W2, W2C, W2P, W2V, W2L, CM_ty, CM_inpl, Bool.false_eq_true, b1, b2, b5, wk, bw, b7, b9, n8, n2, n0]; first | refine goCall_p (qt) (.inl rfl) ?_ | refine goDCall_p (qt) (.inl rfl) ?_)
       | refine go_drawF (id := 4) CM_ok (fun _ => trivial) mixed 0 Try.f64.ntmps (by first | (simp; done) | (simp; omega)) rfl (by kernel_rfl) (by decide) ?_
       | refine go_drawF (id := 6) CM_ok (fun _ => trivial) mixed 0 Try.f64.ntmps (by first | (simp; done) | (simp; omega)) rfl (by kernel_rfl) (by decide) ?_
       | refine go_drawF (id := 9) CM_ok (fun _ => trivial) mixed 0 Try.f64.ntmps (by first | (simp; done) | (simp; omega)) rfl (by kernel_rfl) (by decide) ?_
       | refine go_drawF (id := 11) CM_ok (fun _ => trivial) mixed 0 Try.f64.ntmps (by first | (simp; done) | (simp; omega)) rfl (by kernel_rfl) (by decide) ?_
       | refine go_drawF (id := 14) CM_ok (fun _ => trivial) mixed 0 Try.f64.ntmps (by first | (simp; done) | (simp; omega)) rfl (by kernel_rfl) (by decide) ?_
       | refine go_drawF (id := 15) CM_ok (fun _ => trivial) mixed 0 Try.f64.ntmps (by first | (simp; done) | (simp; omega)) rfl (by kernel_rfl) (by decide) ?_
       | refine go_drawF (id := 17) CM_ok (fun _ => trivial) mixed 0 Try.f64.ntmps (by first | (simp; done) | (simp; omega)) rfl (by kernel_rfl) (by decide) ?_
       | refine go_drawF (id := 18) CM_ok (fun _ => trivial) mixed 0 Try.f64.ntmps (by first | (simp; done) | (simp; omega)) rfl (by kernel_rfl) (by decide) ?_
       | skip) <;> simp only [h, ↓upd_eq, ↓envL_cons, WY, reduceIte, reduceEqDiff, reduceAdd, reduceLT, reduceLeDiff, reduceCtorEq, reduceMul, reducePow, W1, W1C, W1P, W1V, W1L, fs_frz, fs_frz0, fs_env, fs_b, fs_n, fs_put, fs_put0, fs_tmp, fs_const, fs_func, fs_obj, fs_setObj, fs_new, fs_next, fs_mk, fs_H, le_app, le_set, app_get, app_set, app_get0c, app_getkc, app_set0c, app_setkc, List.append_assoc, not_false_eq_true, not_true_eq_false, retE_ret, retP_ret, List.length_append, List.length_set, Nat.le_succ, CM_ty, CM_inpl, Bool.false_eq_true, b1, b2, b5, wk, bw, b7, b9, n8, n2, n0]
  | blame l n =>
    rw [ht] at qt hm
    rw [hm]
    simp only [resP, embR] at qt
    refine ⟨.tup [.sl [] .full, .bool false, resM (.blame l n), .int .i64 0], F ++ [.box (cellsOf (embP pt)), .box (cellsOf (embV w)), .box (cellsOf (resM (.blame l n))), .box (cellsOf (resM .none)), .box (cellsOf (embV noneV)), .box (cellsOf (embV noneV)), .box (cellsOf (resM (.blame l n)))], ?_, ⟨_, _, _, rfl, AccR.junk hacc _, fun h => (by cases h)⟩⟩
    unfold DCalls
    simp only [embP_cells, embV_cells, resM, embR, cellsOf_agg]
    rcases b79 with ⟨b7, b9⟩ | ⟨b7, b9⟩
    all_goals
      refine acalls_text CM_ok Try.func64 rfl (by decide) (Nat.le_of_ble_eq_true rfl) (by decide) fun ok => ?_
      rw [Try.results64]
      have h := True.intro
      repeat' (first
       | (with_reducible first | apply bA | apply bB | apply bC | apply bD | apply bE | apply bF) <;> intro h
       | ((first | refine goCall_norm ?_ | refine goDCall_norm ?_); simp only [AV.norm, AV.normL, W2, W2C, W2P, W2V, W2L, CM_ty, CM_inpl, Bool.false_eq_true, b1, b2, b5, wk, bw, b7, b9, n8, n2, n0]; first | refine goCall_p (qt) (.inl rfl) ?_ | refine goDCall_p (qt) (.inl rfl) ?_)
       | refine go_drawF (id := 4) CM_ok (fun _ => trivial) mixed 0 Try.f64.ntmps (by first | (simp; done) | (simp; omega)) rfl (by kernel_rfl) (by decide) ?_
       | refine go_drawF (id := 6) CM_ok (fun _ => trivial) mixed 0 Try.f64.ntmps (by first | (simp; done) | (simp; omega)) rfl (by kernel_rfl) (by decide) ?_
       | refine go_drawF (id := 9) CM_ok (fun _ => trivial) mixed 0 Try.f64.ntmps (by first | (simp; done) | (simp; omega)) rfl (by kernel_rfl) (by decide) ?_
       | refine go_drawF (id := 11) CM_ok (fun _ => trivial) mixed 0 Try.f64.ntmps (by first | (simp; done) | (simp; omega)) rfl (by kernel_rfl) (by decide) ?_
       | refine go_drawF (id := 14) CM_ok (fun _ => trivial) mixed 0 Try.f64.ntmps (by first | (simp; done) | (simp; omega)) rfl (by kernel_rfl) (by decide) ?_
       | refine go_drawF (id := 15) CM_ok (fun _ => trivial) mixed 0 Try.f64.ntmps (by first | (simp; done) | (simp; omega)) rfl (by kernel_rfl) (by decide) ?_
       | refine go_drawF (id := 17) CM_ok (fun _ => trivial) mixed 0 Try.f64.ntmps (by first | (simp; done) | (simp; omega)) rfl (by kernel_rfl) (by decide) ?_
       | refine go_drawF (id := 18) CM_ok (fun _ => trivial) mixed 0 Try.f64.ntmps (by first | (simp; done) | (simp; omega)) rfl (by kernel_rfl) (by decide) ?_
       | skip) <;> simp only [h, ↓upd_eq, ↓envL_cons, WY, reduceIte, reduceEqDiff, reduceAdd, reduceLT, reduceLeDiff, reduceCtorEq, reduceMul, reducePow, W1, W1C, W1P, W1V, W1L, fs_frz, fs_frz0, fs_env, fs_b, fs_n, fs_put, fs_put0, fs_tmp, fs_const, fs_func, fs_obj, fs_setObj, fs_new, fs_next, fs_mk, fs_H, le_app, le_set, app_get, app_set, app_get0c, app_getkc, app_set0c, app_setkc, List.append_assoc, not_false_eq_true, not_true_eq_false, retE_ret, retP_ret, List.length_append, List.length_set, Nat.le_succ, CM_ty, CM_inpl, Bool.false_eq_true, b1, b2, b5, wk, bw, b7, b9, n8, n2, n0]
  | ok x y =>
    rw [ht] at qt hm
    simp only at hm
    simp only [resP, embR] at qt
    obtain ⟨rx, ry⟩ := rightV_two hr ht
    have hs1 : sizeP (pt.kid 0) + sizeP (pt.kid 1) + 1 ≤ sizeP pt := sizeP_two hl
    have m0 := ptkid_mem (p := pt) (i := 0) (by omega)
    have m1 := ptkid_mem (p := pt) (i := 1) (by omega)
    have hlen := (matP_len (pt.kid 0) (ho _ m0) x L).2
    obtain ⟨F1, hF1⟩ : ∃ F1, F1 = F ++ [AObj.box (cellsOf (embP pt)), .box (cellsOf (embV w)), .box (cellsOf (resM .none)), .box (cellsOf (resM .none)), .box (cellsOf (embV x)), .box (cellsOf (embV y)), .box (cellsOf (resM .err))] := ⟨_, rfl⟩
    have hj1 : AccR 10 F a (L.map embL2) a F1 := by rw [hF1]; exact AccR.junk hacc _
    have hacc1 := AccR.ok hacc hj1
    have hl1 : F1.length = F.length + 7 := by rw [hF1]; simp
    obtain ⟨r1, F2, d1, h1⟩ := ih _ m0 x rx L a F1 (by omega) hacc1
    obtain ⟨a1, es1, a2, rfl, hr1, hy1⟩ := h1.out
    have g2 : ∀ i z, F1[F.length + i]? = some z → (∀ m, z ≠ .tok m 10) → F2[F.length + i]? = some z := fun i z h h' => hr1.get hacc1 h h'
    have hle2 := hr1.len
    have f0 := g2 0 (.box (cellsOf (embP pt))) (by rw [hF1]; simp) (by intro m; simp)
    have f2 := g2 2 (.box (cellsOf (resM .none))) (by rw [hF1]; simp) (by intro m; simp)
    have f5 := g2 5 (.box (cellsOf (embV y))) (by rw [hF1]; simp) (by intro m; simp)
    have f6 := g2 6 (.box (cellsOf (resM .err))) (by rw [hF1]; simp) (by intro m; simp)
    have hb2 : (∀ x ∈ F1.take F.length, x.bel F.length = true) → ∀ x ∈ F2.take F.length, x.bel F.length = true := fun h => hr1.bel hacc1 (by omega) h
    cases hb1 : (matP (pt.kid 0) x L).b with
    | false =>
      rw [hb1] at d1
      simp only [hb1, Bool.false_eq_true, if_false] at hm
      rw [hm]
      obtain ⟨k, l, n, tk, he, htk⟩ := resM_shape (matP (pt.kid 0) x L).r
      refine ⟨.tup [.sl [] .full, .bool false, resM (matP (pt.kid 0) x L).r, .int .i64 (errM (matP (pt.kid 0) x L).r)], (F2.set (F.length + 6) (.box (cellsOf (resM (matP (pt.kid 0) x L).r)))).set (F.length + 2) (.box (cellsOf (resM (matP (pt.kid 0) x L).r))), ?_,
        ⟨_, _, _, by rw [hb1], AccR.setJ hacc (AccR.setJ hacc (hj1.trans hacc hr1) (by omega) f6 (by intro m; simp)) (by omega) (by rw [List.getElem?_set_ne (by omega)]; exact f2) (by intro m; simp), fun h => (by rw [hb1] at h; cases h)⟩⟩
      unfold DCalls
      rw [he] at d1 ⊢
      rw [hF1] at d1 hb2
      simp only [embP_cells, embV_cells, resM, embR, cellsOf_agg] at d1 hb2 f0 f2 f5 f6 ⊢
      have g6 : ∀ z, (F2.set (F.length + 6) z)[F.length + 6]? = some z := fun z => set_get0 (get_lt f6)
      have g2' : ∀ z, (F2.set (F.length + 6) z)[F.length + 2]? = F2[F.length + 2]? := fun z => List.getElem?_set_ne (by omega)
      have g22 : ∀ z z', ((F2.set (F.length + 6) z).set (F.length + 2) z')[F.length + 2]? = some z' := fun z z' => set_get0 (by rw [List.length_set]; exact get_lt f2)
      rcases b79 with ⟨b7, b9⟩ | ⟨b7, b9⟩ <;> rcases htk with rfl | rfl
      all_goals
        refine acalls_text CM_ok Try.func64 rfl (by decide) (Nat.le_of_ble_eq_true rfl) (by decide) fun ok => ?_
        rw [Try.results64]
        have h := True.intro
        repeat' (first
         | (with_reducible first | apply bA | apply bB | apply bC | apply bD | apply bE | apply bF) <;> intro h
         | ((first | refine goCall_norm ?_ | refine goDCall_norm ?_); simp only [AV.norm, AV.normL, W2, W2C, W2P, W2V, W2L, CM_ty, CM_inpl, Bool.false_eq_true, b1, b2, b5, wk, bw, b7, b9, n8, n2, n0, g0, g1, c0, c1, t0, t1, z1, hl, Int.le_refl]; first | refine goCall_p (qt) (.inl rfl) ?_ | refine goDCall_p (qt) (.inl rfl) ?_)
         | refine go_drawF (id := 4) CM_ok (fun _ => trivial) mixed 0 Try.f64.ntmps (by first | (simp; done) | (simp; omega)) rfl (by kernel_rfl) (by decide) ?_
         | refine go_drawF (id := 6) CM_ok (fun _ => trivial) mixed 0 Try.f64.ntmps (by first | (simp; done) | (simp; omega)) rfl (by kernel_rfl) (by decide) ?_
         | refine go_drawF (id := 9) CM_ok (fun _ => trivial) mixed 0 Try.f64.ntmps (by first | (simp; done) | (simp; omega)) rfl (by kernel_rfl) (by decide) ?_
         | refine go_drawF (id := 11) CM_ok (fun _ => trivial) mixed 0 Try.f64.ntmps (by first | (simp; done) | (simp; omega)) rfl (by kernel_rfl) (by decide) ?_
         | refine go_drawF (id := 14) CM_ok (fun _ => trivial) mixed 0 Try.f64.ntmps (by first | (simp; done) | (simp; omega)) rfl (by kernel_rfl) (by decide) ?_
         | refine go_drawF (id := 15) CM_ok (fun _ => trivial) mixed 0 Try.f64.ntmps (by first | (simp; done) | (simp; omega)) rfl (by kernel_rfl) (by decide) ?_
         | refine go_drawF (id := 17) CM_ok (fun _ => trivial) mixed 0 Try.f64.ntmps (by first | (simp; done) | (simp; omega)) rfl (by kernel_rfl) (by decide) ?_
         | refine go_drawF (id := 18) CM_ok (fun _ => trivial) mixed 0 Try.f64.ntmps (by first | (simp; done) | (simp; omega)) rfl (by kernel_rfl) (by decide) ?_
         | skip) <;> simp only [h, ↓upd_eq, ↓envL_cons, WY, reduceIte, reduceEqDiff, reduceAdd, reduceLT, reduceLeDiff, reduceCtorEq, reduceMul, reducePow, W1, W1C, W1P, W1V, W1L, fs_frz, fs_frz0, fs_env, fs_b, fs_n, fs_put, fs_put0, fs_tmp, fs_const, fs_func, fs_obj, fs_setObj, fs_new, fs_next, fs_mk, fs_H, le_app, le_set, app_get, app_set, app_get0c, app_getkc, app_set0c, app_setkc, List.append_assoc, not_false_eq_true, not_true_eq_false, retE_ret, retP_ret, List.length_append, List.length_set, Nat.le_succ, CM_ty, CM_inpl, Bool.false_eq_true, b1, b2, b5, wk, bw, b7, b9, n8, n2, n0, g0, g1, c0, c1, t0, t1, z1, hl, Int.le_refl]
        refine goDCall_z rfl trivial d1 (.inl rfl) (fun hb => hb2 hb) ?_
        have h := True.intro
        repeat' (first
         | (with_reducible first | apply bA | apply bB | apply bC | apply bD | apply bE | apply bF) <;> intro h
         | refine go_drawF (id := 4) CM_ok (fun _ => trivial) mixed 0 Try.f64.ntmps (by first | (simp; done) | (simp; omega)) rfl (by kernel_rfl) (by decide) ?_
         | refine go_drawF (id := 6) CM_ok (fun _ => trivial) mixed 0 Try.f64.ntmps (by first | (simp; done) | (simp; omega)) rfl (by kernel_rfl) (by decide) ?_
         | refine go_drawF (id := 9) CM_ok (fun _ => trivial) mixed 0 Try.f64.ntmps (by first | (simp; done) | (simp; omega)) rfl (by kernel_rfl) (by decide) ?_
         | refine go_drawF (id := 11) CM_ok (fun _ => trivial) mixed 0 Try.f64.ntmps (by first | (simp; done) | (simp; omega)) rfl (by kernel_rfl) (by decide) ?_
         | refine go_drawF (id := 14) CM_ok (fun _ => trivial) mixed 0 Try.f64.ntmps (by first | (simp; done) | (simp; omega)) rfl (by kernel_rfl) (by decide) ?_
         | refine go_drawF (id := 15) CM_ok (fun _ => trivial) mixed 0 Try.f64.ntmps (by first | (simp; done) | (simp; omega)) rfl (by kernel_rfl) (by decide) ?_
         | refine go_drawF (id := 17) CM_ok (fun _ => trivial) mixed 0 Try.f64.ntmps (by first | (simp; done) | (simp; omega)) rfl (by kernel_rfl) (by decide) ?_
         | refine go_drawF (id := 18) CM_ok (fun _ => trivial) mixed 0 Try.f64.ntmps (by first | (simp; done) | (simp; omega)) rfl (by kernel_rfl) (by decide) ?_
         | skip) <;> simp only [h, ↓upd_eq, ↓envL_cons, WY, reduceIte, reduceEqDiff, reduceAdd, reduceLT, reduceLeDiff, reduceCtorEq, reduceMul, reducePow, W1, W1C, W1P, W1V, W1L, fs_frz, fs_frz0, fs_env, fs_b, fs_n, fs_put, fs_put0, fs_tmp, fs_const, fs_func, fs_obj, fs_setObj, fs_new, fs_next, fs_mk, fs_H, le_app, le_set, app_get, app_set, app_get0c, app_getkc, app_set0c, app_setkc, List.append_assoc, not_false_eq_true, not_true_eq_false, retE_ret, retP_ret, List.length_append, List.length_set, Nat.le_succ, CM_ty, CM_inpl, Bool.false_eq_true, f6, f2, g6, g2', g22]
    | true =>
      have hn := matP_none (pt.kid 0) (ho _ m0) x L hb1
      rw [hb1, hn] at d1
      obtain ⟨rfl, rfl⟩ := hy1 hb1
      simp only [hb1, if_true] at hm
      rw [hm]
      have hj3 := AccR.setJ (x := .box (cellsOf (resM .none))) hacc (hj1.trans hacc hr1) (r := F.length + 6) (by omega) f6 (by intro m; simp)
      have hacc3 := AccR.ok hacc hj3
      have hlen2 := (matP_len (pt.kid 0) (ho _ m0) x L).2
      generalize hF3 : F2.set (F.length + 6) (.box (cellsOf (resM .none))) = F3 at hj3 hacc3
      have hl3 : F3.length = F2.length := by rw [← hF3, List.length_set]
      obtain ⟨r2, F4, d2, h2⟩ := ih _ m1 y ry (matP (pt.kid 0) x L).L a1 F3 (by omega) hacc3
      obtain ⟨a3, es3, a4, rfl, hr2, hy2⟩ := h2.out
      have k2 : F4[F.length + 2]? = some (.box (cellsOf (resM .none))) := hr2.get hacc3 (by rw [← hF3, List.getElem?_set_ne (by omega)]; exact f2) (by intro m; simp)
      have hb4 : (∀ x ∈ F3.take F.length, x.bel F.length = true) → ∀ x ∈ F4.take F.length, x.bel F.length = true := fun h => hr2.bel hacc3 (by omega) h
      obtain ⟨k, l, n, tk, he, htk⟩ := resM_shape (matP (pt.kid 1) y (matP (pt.kid 0) x L).L).r
      refine ⟨.tup [a3, .bool (matP (pt.kid 1) y (matP (pt.kid 0) x L).L).b, resM (matP (pt.kid 1) y (matP (pt.kid 0) x L).L).r, .int .i64 (errM (matP (pt.kid 1) y (matP (pt.kid 0) x L).L).r)], F4.set (F.length + 2) (.box (cellsOf (resM (matP (pt.kid 1) y (matP (pt.kid 0) x L).L).r))), ?_,
        ⟨_, _, _, rfl, AccR.setJ hacc (hj3.trans hacc hr2) (by omega) k2 (by intro m; simp), hy2⟩⟩
      unfold DCalls
      rw [he] at d2 ⊢
      rw [hF1] at d1 hb2
      rw [← hF3] at d2 hb4
      generalize (matP (pt.kid 1) y (matP (pt.kid 0) x L).L).b = b3 at *
      generalize errM (matP (pt.kid 1) y (matP (pt.kid 0) x L).L).r = e3 at *
      simp only [embP_cells, embV_cells, resM, embR, errM, cellsOf_agg] at d1 d2 hb2 hb4 f0 f2 f5 f6 k2 ⊢
      have g6 : ∀ z, (F2.set (F.length + 6) z)[F.length + 6]? = some z := fun z => set_get0 (get_lt f6)
      have g0' : ∀ z, (F2.set (F.length + 6) z)[F.length]? = F2[F.length + 0]? := fun z => List.getElem?_set_ne (by omega)
      have g5' : ∀ z, (F2.set (F.length + 6) z)[F.length + 5]? = F2[F.length + 5]? := fun z => List.getElem?_set_ne (by omega)
      have g22 : ∀ z, (F4.set (F.length + 2) z)[F.length + 2]? = some z := fun z => set_get0 (get_lt k2)
      rw [Nat.add_zero] at f0 g0'
      rcases b79 with ⟨b7, b9⟩ | ⟨b7, b9⟩ <;> rcases htk with rfl | rfl
      all_goals
        refine acalls_text CM_ok Try.func64 rfl (by decide) (Nat.le_of_ble_eq_true rfl) (by decide) fun ok => ?_
        rw [Try.results64]
        have h := True.intro
        repeat' (first
         | (with_reducible first | apply bA | apply bB | apply bC | apply bD | apply bE | apply bF) <;> intro h
         | ((first | refine goCall_norm ?_ | refine goDCall_norm ?_); simp only [AV.norm, AV.normL, W2, W2C, W2P, W2V, W2L, CM_ty, CM_inpl, Bool.false_eq_true, b1, b2, b5, wk, bw, b7, b9, n8, n2, n0, g0, g1, c0, c1, t0, t1, z1, hl, Int.le_refl]; first | refine goCall_p (qt) (.inl rfl) ?_ | refine goDCall_p (qt) (.inl rfl) ?_)
         | refine go_drawF (id := 4) CM_ok (fun _ => trivial) mixed 0 Try.f64.ntmps (by first | (simp; done) | (simp; omega)) rfl (by kernel_rfl) (by decide) ?_
         | refine go_drawF (id := 6) CM_ok (fun _ => trivial) mixed 0 Try.f64.ntmps (by first | (simp; done) | (simp; omega)) rfl (by kernel_rfl) (by decide) ?_
         | refine go_drawF (id := 9) CM_ok (fun _ => trivial) mixed 0 Try.f64.ntmps (by first | (simp; done) | (simp; omega)) rfl (by kernel_rfl) (by decide) ?_
         | refine go_drawF (id := 11) CM_ok (fun _ => trivial) mixed 0 Try.f64.ntmps (by first | (simp; done) | (simp; omega)) rfl (by kernel_rfl) (by decide) ?_
         | refine go_drawF (id := 14) CM_ok (fun _ => trivial) mixed 0 Try.f64.ntmps (by first | (simp; done) | (simp; omega)) rfl (by kernel_rfl) (by decide) ?_
         | refine go_drawF (id := 15) CM_ok (fun _ => trivial) mixed 0 Try.f64.ntmps (by first | (simp; done) | (simp; omega)) rfl (by kernel_rfl) (by decide) ?_
         | refine go_drawF (id := 17) CM_ok (fun _ => trivial) mixed 0 Try.f64.ntmps (by first | (simp; done) | (simp; omega)) rfl (by kernel_rfl) (by decide) ?_
         | refine go_drawF (id := 18) CM_ok (fun _ => trivial) mixed 0 Try.f64.ntmps (by first | (simp; done) | (simp; omega)) rfl (by kernel_rfl) (by decide) ?_
         | skip) <;> simp only [h, ↓upd_eq, ↓envL_cons, WY, reduceIte, reduceEqDiff, reduceAdd, reduceLT, reduceLeDiff, reduceCtorEq, reduceMul, reducePow, W1, W1C, W1P, W1V, W1L, fs_frz, fs_frz0, fs_env, fs_b, fs_n, fs_put, fs_put0, fs_tmp, fs_const, fs_func, fs_obj, fs_setObj, fs_new, fs_next, fs_mk, fs_H, le_app, le_set, app_get, app_set, app_get0c, app_getkc, app_set0c, app_setkc, List.append_assoc, not_false_eq_true, not_true_eq_false, retE_ret, retP_ret, List.length_append, List.length_set, Nat.le_succ, CM_ty, CM_inpl, Bool.false_eq_true, b1, b2, b5, wk, bw, b7, b9, n8, n2, n0, g0, g1, c0, c1, t0, t1, z1, hl, Int.le_refl]
        refine goDCall_z rfl trivial d1 (.inl rfl) (fun hb => hb2 hb) ?_
        have h := True.intro
        repeat' (first
         | (with_reducible first | apply bA | apply bB | apply bC | apply bD | apply bE | apply bF) <;> intro h
         | refine go_drawF (id := 4) CM_ok (fun _ => trivial) mixed 0 Try.f64.ntmps (by first | (simp; done) | (simp; omega)) rfl (by kernel_rfl) (by decide) ?_
         | refine go_drawF (id := 6) CM_ok (fun _ => trivial) mixed 0 Try.f64.ntmps (by first | (simp; done) | (simp; omega)) rfl (by kernel_rfl) (by decide) ?_
         | refine go_drawF (id := 9) CM_ok (fun _ => trivial) mixed 0 Try.f64.ntmps (by first | (simp; done) | (simp; omega)) rfl (by kernel_rfl) (by decide) ?_
         | refine go_drawF (id := 11) CM_ok (fun _ => trivial) mixed 0 Try.f64.ntmps (by first | (simp; done) | (simp; omega)) rfl (by kernel_rfl) (by decide) ?_
         | refine go_drawF (id := 14) CM_ok (fun _ => trivial) mixed 0 Try.f64.ntmps (by first | (simp; done) | (simp; omega)) rfl (by kernel_rfl) (by decide) ?_
         | refine go_drawF (id := 15) CM_ok (fun _ => trivial) mixed 0 Try.f64.ntmps (by first | (simp; done) | (simp; omega)) rfl (by kernel_rfl) (by decide) ?_
         | refine go_drawF (id := 17) CM_ok (fun _ => trivial) mixed 0 Try.f64.ntmps (by first | (simp; done) | (simp; omega)) rfl (by kernel_rfl) (by decide) ?_
         | refine go_drawF (id := 18) CM_ok (fun _ => trivial) mixed 0 Try.f64.ntmps (by first | (simp; done) | (simp; omega)) rfl (by kernel_rfl) (by decide) ?_
         | skip) <;> simp only [h, ↓upd_eq, ↓envL_cons, WY, reduceIte, reduceEqDiff, reduceAdd, reduceLT, reduceLeDiff, reduceCtorEq, reduceMul, reducePow, W1, W1C, W1P, W1V, W1L, fs_frz, fs_frz0, fs_env, fs_b, fs_n, fs_put, fs_put0, fs_tmp, fs_const, fs_func, fs_obj, fs_setObj, fs_new, fs_next, fs_mk, fs_H, le_app, le_set, app_get, app_set, app_get0c, app_getkc, app_set0c, app_setkc, List.append_assoc, not_false_eq_true, not_true_eq_false, retE_ret, retP_ret, List.length_append, List.length_set, Nat.le_succ, CM_ty, CM_inpl, Bool.false_eq_true, f6, f5, f0, g6, g0', g5', g0, g1, c0, c1, t0, t1, z1, hl, Int.le_refl]
        refine goDCall_z rfl trivial d2 (.inl rfl) (fun hb => hb4 hb) ?_
        have h := True.intro
        repeat' (first
         | (with_reducible first | apply bA | apply bB | apply bC | apply bD | apply bE | apply bF) <;> intro h
         | refine go_drawF (id := 4) CM_ok (fun _ => trivial) mixed 0 Try.f64.ntmps (by first | (simp; done) | (simp; omega)) rfl (by kernel_rfl) (by decide) ?_
         | refine go_drawF (id := 6) CM_ok (fun _ => trivial) mixed 0 Try.f64.ntmps (by first | (simp; done) | (simp; omega)) rfl (by kernel_rfl) (by decide) ?_
         | refine go_drawF (id := 9) CM_ok (fun _ => trivial) mixed 0 Try.f64.ntmps (by first | (simp; done) | (simp; omega)) rfl (by kernel_rfl) (by decide) ?_
         | refine go_drawF (id := 11) CM_ok (fun _ => trivial) mixed 0 Try.f64.ntmps (by first | (simp; done) | (simp; omega)) rfl (by kernel_rfl) (by decide) ?_
         | refine go_drawF (id := 14) CM_ok (fun _ => trivial) mixed 0 Try.f64.ntmps (by first | (simp; done) | (simp; omega)) rfl (by kernel_rfl) (by decide) ?_
         | refine go_drawF (id := 15) CM_ok (fun _ => trivial) mixed 0 Try.f64.ntmps (by first | (simp; done) | (simp; omega)) rfl (by kernel_rfl) (by decide) ?_
         | refine go_drawF (id := 17) CM_ok (fun _ => trivial) mixed 0 Try.f64.ntmps (by first | (simp; done) | (simp; omega)) rfl (by kernel_rfl) (by decide) ?_
         | refine go_drawF (id := 18) CM_ok (fun _ => trivial) mixed 0 Try.f64.ntmps (by first | (simp; done) | (simp; omega)) rfl (by kernel_rfl) (by decide) ?_
         | skip) <;> simp only [h, ↓upd_eq, ↓envL_cons, WY, reduceIte, reduceEqDiff, reduceAdd, reduceLT, reduceLeDiff, reduceCtorEq, reduceMul, reducePow, W1, W1C, W1P, W1V, W1L, fs_frz, fs_frz0, fs_env, fs_b, fs_n, fs_put, fs_put0, fs_tmp, fs_const, fs_func, fs_obj, fs_setObj, fs_new, fs_next, fs_mk, fs_H, le_app, le_set, app_get, app_set, app_get0c, app_getkc, app_set0c, app_setkc, List.append_assoc, not_false_eq_true, not_true_eq_false, retE_ret, retP_ret, List.length_append, List.length_set, Nat.le_succ, CM_ty, CM_inpl, Bool.false_eq_true, k2, g22]
        all_goals trace_state
        all_goals sorry

end Go.Proofs.Ytofogicgnldfhaa
