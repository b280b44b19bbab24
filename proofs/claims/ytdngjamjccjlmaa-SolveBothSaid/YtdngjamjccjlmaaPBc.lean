/- Lemmas: rows of pairs, walked. No condition. -/
import Derived.Test.YtdngjamjccjlmaaEmb
import Derived.Test.YtdngjamjccjlmaaPW
import Derived.Test.YtdngjamjccjlmaaPCa

set_option linter.defProp false
set_option linter.unusedSimpArgs false
set_option linter.unusedVariables false
set_option maxHeartbeats 4000000
set_option maxRecDepth 100000
namespace Go.Proofs.Ytdngjamjccjlmaa
open Go Go.Ab
open Nat renaming reduceEqDiff → yA, reduceAdd → yB, reduceLT → yC, reduceLeDiff → yD, reduceMul → yE, reducePow → yF, reduceBEq → yG
open Int renaming reduceAdd → yH, reduceLT → yI, reduceToNat → yJ, reduceBEq → yK, reduceBNe → yL, reduceLE → yM
section
abbrev Pr := Ty × Ty
def embQ (p : Pr) : AV := .agg [.int .i64 p.1.kind, .int .i64 p.1.num, .sl (p.1.kids.map emb) .no, .int .i64 p.2.kind, .int .i64 p.2.num, .sl (p.2.kids.map emb) .no]
theorem embQ_mk (k n k' n' : Int) (l l' : List Ty) : AV.agg [.int .i64 k, .int .i64 n, .sl (l.map emb) .no, .int .i64 k', .int .i64 n', .sl (l'.map emb) .no] = embQ (.mk k n l, .mk k' n' l') := rfl
theorem embQ_cells (p : Pr) : cellsOf (embQ p) = [.int .i64 p.1.kind, .int .i64 p.1.num, .sl (p.1.kids.map emb) .no, .int .i64 p.2.kind, .int .i64 p.2.num, .sl (p.2.kids.map emb) .no] := rfl
theorem embQ_solid (p : Pr) : (embQ p).solid = true := rfl
theorem all_embQ6 (l : List Pr) : (∀ y, y ∈ l.map embQ → (cellsOf y).length = 6) = True := by
  simp only [eq_iff_iff, iff_true]; intro y hy; obtain ⟨t, _, rfl⟩ := List.mem_map.1 hy; rw [embQ_cells]; rfl
theorem embQ_norm (p : Pr) : (embQ p).norm = embQ p := by simp only [embQ, AV.norm, AV.normL, map_norm]
theorem embQ_bel (m : Nat) (p : Pr) : (embQ p).bel m = true := by simp only [embQ, AV.bel, AV.belL, map_bel, Bool.and_self]
theorem mapQ_norm (l : List Pr) : AV.normL (l.map embQ) = l.map embQ := by
  induction l with
  | nil => rfl
  | cons a l ih => simp only [List.map_cons, AV.normL, embQ_norm, ih]
theorem mapQ_bel (m : Nat) (l : List Pr) : AV.belL m (l.map embQ) = true := by
  induction l with
  | nil => rfl
  | cons a l ih => simp only [List.map_cons, AV.belL, embQ_bel, ih, Bool.and_self]
theorem mapQ_get {l : List Pr} {i : Nat} (h : i < l.length) : (l.map embQ).getD i .any = embQ (l.getD i default) := by simp [h]

def W1Qd := cjI @all_embQ6 (cjI @embQ_solid (cjI @embQ_cells (cjI @embQ_mk (cjI @embQ_norm (@mapQ_norm)))))
theorem W1Q : type_of% W1Qd := W1Qd
def W2Qd := cjI @embQ_norm (cjI @mapQ_norm (@embQ_mk))
theorem W2Q : type_of% W2Qd := W2Qd
end
section
attribute [local irreducible] PCalls ACalls CallK GoCall GoDCall GoIf GoGb GoDGb GoO GoD GoX GoDX GoG GoDG GoGv GoDGv Go ALoop

def smallQ (p : Pr) : Bool := small [p.1, p.2] && right p.1 && right p.2
def sizesQ : List Pr → Nat
  | [] => 0
  | p :: l => nodes p.1 + nodes p.2 + sizesQ l
def rowQ : List Pr → Ty
  | [] => leafT 4
  | p :: l => twoT 7 (twoT 7 p.1 p.2) (rowQ l)
def small13 (l : List Pr) : Bool := decide (l.length ≤ 12) && allN l.length (fun i => smallQ (l.getD i default)) && decide (sizesQ l ≤ 200) && decide ((varsT (rowQ l)).length ≤ 12)
theorem sizesQ_take : ∀ (l : List Pr) (i : Nat), i < l.length → sizesQ (l.take (i + 1)) = sizesQ (l.take i) + nodes (l.getD i default).1 + nodes (l.getD i default).2
  | p :: l, 0, _ => by simp [sizesQ]
  | p :: l, i + 1, h => by
    have := sizesQ_take l i (by simpa using h)
    simp only [List.take_succ_cons, sizesQ, List.getD_cons_succ, this]; omega
theorem smallQ_nodes {p : Pr} (h : smallQ p = true) : nodes p.1 ≤ 600 ∧ nodes p.2 ≤ 600 := by
  simp only [smallQ, Bool.and_eq_true] at h
  exact ⟨small1_nodes (small_mem h.1.1 (by simp)), small1_nodes (small_mem h.1.1 (by simp))⟩
theorem sizesQ_le : ∀ (l : List Pr) (i : Nat), i ≤ l.length → (∀ j, j < i → smallQ (l.getD j default) = true) → sizesQ (l.take i) ≤ 1200 * i
  | l, 0, _, _ => by simp [sizesQ]
  | l, i + 1, h, hs => by
    have h1 := sizesQ_le l i (by omega) fun j hj => hs j (by omega)
    have h2 := smallQ_nodes (hs i (by omega))
    rw [sizesQ_take l i h]; omega
theorem rowQ_nodes : ∀ l : List Pr, nodes (rowQ l) = sizesQ l + 2 * l.length + 1
  | [] => rfl
  | p :: l => by
    have := rowQ_nodes l
    simp only [rowQ, twoT, nodes, nodesL, sizesQ, List.length_cons, this]; omega
def idxR : Nat → Int
  | 0 => -1
  | k + 1 => k
theorem idxR_eq (k : Nat) : idxR k = (k : Int) - 1 := by cases k <;> simp [idxR] <;> omega
theorem rowQ_drop {l : List Pr} {k : Nat} (h : k < l.length) : rowQ (l.drop k) = twoT 7 (twoT 7 (l.getD k default).1 (l.getD k default).2) (rowQ (l.drop (k + 1))) := by
  rw [List.drop_eq_getElem_cons h, rowQ]; simp [h]
theorem row_ok (l : List Pr) (hl : l.length ≤ 1000) : PCalls Try.prog 63 [.sl (l.map embQ) .no] (emb (rowQ l)) := by
  have w0 : IntKind.wrap .i64 ((l.length : Int) - 1) = idxR l.length := by rw [idxR_eq]; exact wrap_i (by omega) (by omega)
  refine pcalls_text C_ok Try.func63 rfl (by decide) (Nat.le_of_ble_eq_true rfl) (by decide) (emb_bel _ _) fun ok H => ?_
  rw [Try.results63]
  have h := True.intro
  repeat' (first
   | (with_reducible first | apply bA | apply bB | apply bC | apply bD | apply bE | apply bF) <;> intro h
   | ((first | apply bG | apply bH); simp only [AV.norm, AV.normL, W2, W2Q, List.length_map, w0]; first | refine goCall_p (leaf_ok 4) (.inl rfl) ?_ | refine goDCall_p (leaf_ok 4) (.inl rfl) ?_)
   | refine go_draw (id := 5) C_ok (fun _ => trivial) mixed 0 Try.f63.ntmps rfl (by kernel_rfl) (by decide) ?_
   | skip) <;> simp only [h, ↓upd_eq, ↓envL_cons, WZ, reduceIte, yA, yB, yC, yD, reduceCtorEq, yE, yF, W1, W1Q, List.length_map, w0]
  refine aloop_trim [4, 0, 2, 3] ?_
  simp only [List.map_cons, List.map_nil, ↓upd_eq, ↓envL_cons, WZ, reduceIte, yA, yB, yC, yD, reduceCtorEq, yE, yF, W1, W1Q]
  refine goLoopP 1 1 (fun k : Nat => [(4, .int .i64 (idxR k))]) (fun k => [.box [.int .i64 (rowQ (l.drop k)).kind, .int .i64 (rowQ (l.drop k)).num, .sl ((rowQ (l.drop k)).kids.map emb) .no]]) (fun k => k ≤ l.length) (fun k => k) C_ok l.length rfl (by rw [List.drop_length]; rfl) (Nat.le_refl _) (by decide) ?_
  rintro (_ | k) hk
  · simp only [List.drop_succ_cons, List.drop_zero, List.cons_append, List.nil_append, List.take_succ_cons, List.take_zero, idxR]
    have c0 : ((-1 : Int) ≥ 0) = False := by simp
    have h := True.intro
    repeat' (first
     | (with_reducible first | apply bA | apply bB | apply bC | apply bD | apply bE | apply bF) <;> intro h
     | refine go_draw (id := 5) C_ok (fun _ => trivial) mixed 0 Try.f63.ntmps rfl (by kernel_rfl) (by decide) ?_
     | skip) <;> simp only [h, ↓upd_eq, ↓envL_cons, WZ, reduceIte, yA, yB, yC, yD, reduceCtorEq, yE, yF, W1, W1Q, c0]
  · simp only [List.drop_succ_cons, List.drop_zero, List.cons_append, List.nil_append, List.take_succ_cons, List.take_zero]
    have hlt : k < l.length := hk
    have c0 : ((k : Int) ≥ 0) = True := by simp
    have w1 : IntKind.wrap .i64 ((k : Int) - 1) = idxR k := by rw [idxR_eq]; exact wrap_i (by omega) (by omega)
    have e := rowQ_drop hlt
    generalize rowQ (l.drop (k + 1)) = t at *
    simp only [idxR]
    have h := True.intro
    repeat' (first
     | (with_reducible first | apply bA | apply bB | apply bC | apply bD | apply bE | apply bF) <;> intro h
     | ((first | apply bG | apply bH); simp only [AV.norm, AV.normL, W2, W2Q, hlt, c0, w1, mapQ_get hlt, List.length_map]; first | refine goCall_p (two_ok 7 _ _) (.inl rfl) ?_ | refine goDCall_p (two_ok 7 _ _) (.inl rfl) ?_)
     | refine go_draw (id := 5) C_ok (fun _ => trivial) mixed 0 Try.f63.ntmps rfl (by kernel_rfl) (by decide) ?_
     | skip) <;> simp only [h, ↓upd_eq, ↓envL_cons, WZ, reduceIte, yA, yB, yC, yD, reduceCtorEq, yE, yF, W1, W1Q, hlt, c0, w1, mapQ_get hlt, List.length_map]
    refine ⟨k, by omega, by omega, ?_⟩
    rw [e]
    refine weak_drop rfl rfl rfl ?_ ?_ ?_ ?_ <;> simp only [WK, ↓upd_eq, ↓envL_cons, yA, reduceIte, AV.bel, AV.belL, AObj.bel, AV.norm, AV.normL, yB, yC, map_bel, mapQ_bel, AV.belL]
    exact .inl rfl
theorem small13_ok (l : List Pr) : PCalls Try.prog 44 [.sl (l.map embQ) .no] (.bool (small13 l)) := by
  by_cases h12 : l.length ≤ 12
  · have c12 : ((l.length : Int) > 12) = False := by simp only [eq_iff_iff, iff_false]; omega
    have hmax : l.length ≤ maxLen := by rw [maxLen_val]; omega
    have hfalse : ∀ i, i < l.length → smallQ (l.getD i default) = false → small13 l = false := fun i h1 h2 => by
      rw [small13, allN_false (g := fun i => smallQ (l.getD i default)) h1 h2]; simp
    refine pcalls_text C_ok Try.func44 rfl (by decide) (Nat.le_of_ble_eq_true rfl) (by decide) rfl fun ok H => ?_
    rw [Try.results44]
    have h := True.intro
    repeat' (first
     | (with_reducible first | apply bA | apply bB | apply bC | apply bD | apply bE | apply bF) <;> intro h
     | refine go_draw (id := 7) C_ok (fun _ => trivial) mixed 0 Try.f44.ntmps rfl (by kernel_rfl) (by decide) ?_
     | refine go_draw (id := 9) C_ok (fun _ => trivial) mixed 0 Try.f44.ntmps rfl (by kernel_rfl) (by decide) ?_
     | skip) <;> simp only [h, ↓upd_eq, ↓envL_cons, WZ, reduceIte, yA, yB, yC, yD, reduceCtorEq, yE, yF, W1, W1Q, List.length_map, c12]
    refine aloop_trim [3, 4, 0] ?_
    simp only [List.map_cons, List.map_nil, ↓upd_eq, ↓envL_cons, WZ, reduceIte, yA, yB, yC, yD, reduceCtorEq, yE, yF, W1, W1Q]
    refine goLoopS 2 (fun i : Nat => [(3, .int .i64 (sizesQ (l.take i) : Nat)), (4, .int .i64 i)]) (fun _ => _) (fun i => i ≤ l.length ∧ ∀ j, j < i → smallQ (l.getD j default) = true) (fun i => l.length - i) C_ok 0 rfl rfl ⟨Nat.zero_le _, by simp⟩ (by decide) ?_
    rintro i ⟨hi, hall⟩
    simp only [List.drop_succ_cons, List.drop_zero, List.cons_append, List.nil_append]
    simp only [↓upd_eq, ↓envL_cons, WZ, reduceIte, yA, yB, yC, yD, reduceCtorEq, yE, yF, W1, W1Q]
    have hsz := sizesQ_le l i hi hall
    refine goIf_d (fun hlt => ?_) (fun hlt => ?_)
    · cases hs : smallQ (l.getD i default) with
      | false =>
        have hf := hfalse i hlt hs
        rw [hf]
        have h := True.intro
        repeat' (first
         | (with_reducible first | apply bA | apply bB | apply bC | apply bD | apply bE | apply bF) <;> intro h
         | ((first | apply bG | apply bH); simp only [AV.norm, AV.normL, W2, W2Q, hlt, mapQ_get hlt, List.length_map]; first | refine goCall_p (smallW_ok [(l.getD i default).1, (l.getD i default).2]) (.inl rfl) ?_ | refine goCall_p (rright_ok _) (.inl rfl) ?_ | refine goDCall_p (smallW_ok [(l.getD i default).1, (l.getD i default).2]) (.inl rfl) ?_ | refine goDCall_p (rright_ok _) (.inl rfl) ?_)
         | refine go_draw (id := 7) C_ok (fun _ => trivial) mixed 0 Try.f44.ntmps rfl (by kernel_rfl) (by decide) ?_
         | refine go_draw (id := 9) C_ok (fun _ => trivial) mixed 0 Try.f44.ntmps rfl (by kernel_rfl) (by decide) ?_
         | skip) <;> simp only [h, ↓upd_eq, ↓envL_cons, WZ, reduceIte, yA, yB, yC, yD, reduceCtorEq, yE, yF, W1, W1Q, hlt, mapQ_get hlt, List.length_map]
        all_goals (exfalso; simp_all [smallQ])
      | true =>
        obtain ⟨n1, n2⟩ := smallQ_nodes hs
        have z1 := rsize_ok (l.getD i default).1 (by omega)
        have z2 := rsize_ok (l.getD i default).2 (by omega)
        have hs' := hs
        simp only [smallQ, Bool.and_eq_true] at hs'
        have e := sizesQ_take l i hlt
        have w1 : IntKind.wrap .i64 ((sizesQ (l.take i) : Int) + (nodes (l.getD i default).1 : Nat)) = ((sizesQ (l.take i) + nodes (l.getD i default).1 : Nat) : Int) := wrap_nat2 (by omega)
        have w2 : IntKind.wrap .i64 (((sizesQ (l.take i) + nodes (l.getD i default).1 : Nat) : Int) + (nodes (l.getD i default).2 : Nat)) = ((sizesQ (l.take (i + 1)) : Nat) : Int) := by rw [e]; exact wrap_nat2 (by omega)
        have h := True.intro
        repeat' (first
         | (with_reducible first | apply bA | apply bB | apply bC | apply bD | apply bE | apply bF) <;> intro h
         | ((first | apply bG | apply bH); simp only [AV.norm, AV.normL, W2, W2Q, hlt, mapQ_get hlt, hs', w1, w2, List.length_map]; first | refine goCall_p (smallW_ok [(l.getD i default).1, (l.getD i default).2]) (.inl rfl) ?_ | refine goCall_p (rright_ok _) (.inl rfl) ?_ | refine goCall_p (z1) (.inl rfl) ?_ | refine goCall_p (z2) (.inl rfl) ?_ | refine goDCall_p (smallW_ok [(l.getD i default).1, (l.getD i default).2]) (.inl rfl) ?_ | refine goDCall_p (rright_ok _) (.inl rfl) ?_ | refine goDCall_p (z1) (.inl rfl) ?_ | refine goDCall_p (z2) (.inl rfl) ?_)
         | refine go_draw (id := 7) C_ok (fun _ => trivial) mixed 0 Try.f44.ntmps rfl (by kernel_rfl) (by decide) ?_
         | refine go_draw (id := 9) C_ok (fun _ => trivial) mixed 0 Try.f44.ntmps rfl (by kernel_rfl) (by decide) ?_
         | skip) <;> simp only [h, ↓upd_eq, ↓envL_cons, WZ, reduceIte, yA, yB, yC, yD, reduceCtorEq, yE, yF, W1, W1Q, hlt, mapQ_get hlt, hs', w1, w2, List.length_map]
        refine ⟨i + 1, ⟨hlt, fun j hj => ?_⟩, by omega, weak_drop rfl rfl rfl rfl ?_ ?_ ?_⟩
        · by_cases e : j = i
          · rw [e]; exact hs
          · exact hall j (by omega)
        all_goals simp only [WK, ↓upd_eq, ↓envL_cons, yA, reduceIte, AV.bel, AV.belL, AObj.bel, AV.norm, AV.normL, yB, yC, wrap_succ hlt hmax, mapQ_bel, AV.belL, List.length_map]
    · have he : i = l.length := by omega
      subst he
      rw [List.take_length]
      rw [List.take_length] at hsz
      have r1 := row_ok l (by omega)
      have r2 := rVars_ok (rowQ l) (by rw [rowQ_nodes]; omega)
      have hs : small13 l = (decide (sizesQ l ≤ 200) && decide ((varsT (rowQ l)).length ≤ 12)) := by
        rw [small13, allN_true (g := fun i => smallQ (l.getD i default)) hall]; simp [h12]
      have b1 : ((sizesQ l : Int) ≤ 200) = (sizesQ l ≤ 200) := by simp only [eq_iff_iff]; omega
      have b2 : (((varsT (rowQ l)).length : Int) ≤ 12) = ((varsT (rowQ l)).length ≤ 12) := by simp only [eq_iff_iff]; omega
      have h := True.intro
      repeat' (first
       | (with_reducible first | apply bA | apply bB | apply bC | apply bD | apply bE | apply bF) <;> intro h
       | ((first | apply bG | apply bH); simp only [AV.norm, AV.normL, W2, W2Q, b1, b2, List.length_map]; first | refine goCall_p (r1) (.inl rfl) ?_ | refine goCall_p (r2) (.inl rfl) ?_ | refine goDCall_p (r1) (.inl rfl) ?_ | refine goDCall_p (r2) (.inl rfl) ?_)
       | refine go_draw (id := 7) C_ok (fun _ => trivial) mixed 0 Try.f44.ntmps rfl (by kernel_rfl) (by decide) ?_
       | refine go_draw (id := 9) C_ok (fun _ => trivial) mixed 0 Try.f44.ntmps rfl (by kernel_rfl) (by decide) ?_
       | skip) <;> simp only [h, ↓upd_eq, ↓envL_cons, WZ, reduceIte, yA, yB, yC, yD, reduceCtorEq, yE, yF, W1, W1Q, b1, b2, List.length_map]
      · rw [hs, decide_eq_true h]; simp
      · rw [hs, decide_eq_false h]; rfl
  · have c12 : ((l.length : Int) > 12) = True := by simp only [eq_iff_iff, iff_true]; omega
    have e : small13 l = false := by rw [small13]; simp [h12]
    rw [e]
    refine pcalls_text C_ok Try.func44 rfl (by decide) (Nat.le_of_ble_eq_true rfl) (by decide) rfl fun ok H => ?_
    rw [Try.results44]
    have h := True.intro
    repeat' (first
     | (with_reducible first | apply bA | apply bB | apply bC | apply bD | apply bE | apply bF) <;> intro h
     | refine go_draw (id := 7) C_ok (fun _ => trivial) mixed 0 Try.f44.ntmps rfl (by kernel_rfl) (by decide) ?_
     | refine go_draw (id := 9) C_ok (fun _ => trivial) mixed 0 Try.f44.ntmps rfl (by kernel_rfl) (by decide) ?_
     | skip) <;> simp only [h, ↓upd_eq, ↓envL_cons, WZ, reduceIte, yA, yB, yC, yD, reduceCtorEq, yE, yF, W1, W1Q, List.length_map, c12]
end
end Go.Proofs.Ytdngjamjccjlmaa
