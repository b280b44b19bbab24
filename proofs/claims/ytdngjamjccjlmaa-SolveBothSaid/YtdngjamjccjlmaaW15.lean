/- Walks: what is put into a store. No condition. -/
import Derived.Test.YtdngjamjccjlmaaW14
set_option linter.unusedSimpArgs false
set_option linter.unusedVariables false
set_option maxHeartbeats 4000000
set_option maxRecDepth 100000
namespace Go.Proofs.Ytdngjamjccjlmaa
open Go Go.Ab
open Nat renaming reduceEqDiff → yA, reduceAdd → yB, reduceLT → yC, reduceLeDiff → yD, reduceMul → yE, reducePow → yF, reduceBEq → yG
open Int renaming reduceAdd → yH, reduceLT → yI, reduceToNat → yJ, reduceBEq → yK, reduceBNe → yL, reduceLE → yM
attribute [local irreducible] PCalls ACalls CallK GoCall GoDCall GoIf GoGb GoDGb GoO GoD GoX GoDX GoG GoDG GoGv GoDGv Go ALoop

section
variable {F : List AObj} {s r v v1 v2 : Nat} {L L1 L2 : Mem} {lim cnt cnt1 cnt2 rd : Int}
theorem put_leaf0 (hs : s < F.length) (hr : r < F.length) (hne : r ≠ s) (k n : Int) (w : IntKind.wrap .i64 (k - 1) = k - 1) : DCalls Try.prog 97 [.bptr s 0, emb (.mk k n [])] (hpS F s r v L lim cnt rd) (.int .i64 (k - 1)) (hpS F s r v L lim cnt rd) := by
  unfold DCalls
  refine acallsD_text C_ok Try.func97 rfl (by decide) (Nat.le_of_ble_eq_true rfl) (by decide) fun ok => ?_
  rw [Try.results97]
  have h := True.intro
  repeat' (first
   | (with_reducible first | apply bA | apply bB | apply bC | apply bD | apply bE | apply bF) <;> intro h
   | refine goRound ?_ C_ok Try.f97.ntmps rfl (by decide)
   | skip) <;> simp only [h, ↓upd_eq, ↓envL_cons, WY, reduceIte, yA, yB, yC, yD, reduceCtorEq, yE, yF, W1, WS, W3, yH, yI, yJ, yK, yL, yM, hpS, bxS, arS, stP hs hr hne, retD_ret, retD_normal, AV.bel, mapN_len, w, emb_cells, emb_solid, emb_bel, implies_true, cutNormal_normal]
theorem put_two (hs : s < F.length) (hr : r < F.length) (hne : r ≠ s) {x y : Ty} {i j : Nat} (k n : Int)
    (i1 : ∀ F : List AObj, s < F.length → r < F.length → DCalls Try.prog 97 [.bptr s 0, emb x] (hpS F s r v L lim cnt rd) (.int .i64 i) (hpS F s r v1 L1 lim cnt1 rd))
    (i2 : ∀ F : List AObj, s < F.length → r < F.length → DCalls Try.prog 97 [.bptr s 0, emb y] (hpS F s r v1 L1 lim cnt1 rd) (.int .i64 j) (hpS F s r v2 L2 lim cnt2 rd))
    (hL : L2.length ≤ 1000000) (hc : 0 ≤ cnt2 ∧ cnt2 ≤ 1000000) :
    DCalls Try.prog 97 [.bptr s 0, emb (.mk k n [x, y])] (hpS F s r v L lim cnt rd) (.int .i64 L2.length) (hpS F s r (v2 + 1) (L2 ++ [(⟨k, 0, none, [i, j]⟩, 0)]) lim (cnt2 + 1) rd) := by
  unfold DCalls
  refine acallsD_text C_ok Try.func97 rfl (by decide) (Nat.le_of_ble_eq_true rfl) (by decide) fun ok => ?_
  rw [Try.results97]
  have h := True.intro
  repeat' (first
   | (with_reducible first | apply bA | apply bB | apply bC | apply bD | apply bE | apply bF) <;> intro h
   | ((first | apply bG | apply bH); simp only [AV.norm, AV.normL, W2, W3, yH, yI, yJ, yK, yL, yM, hpS, bxS, arS, stP hs hr hne, retD_ret, retD_normal, AV.bel, mapN_len, emb_cells, emb_solid, emb_bel, implies_true]; first  | refine fsCallD (i1 _ (by first|exact hs|simp<;>omega) (by first|exact hr|simp<;>omega)) (.inl rfl) (fun hb => hpS_bel (by first|exact hs|simp<;>omega) (by first|exact hr|simp<;>omega) hne hb) ?_ | refine fsCallD (i2 _ (by first|exact hs|simp<;>omega) (by first|exact hr|simp<;>omega)) (.inl rfl) (fun hb => hpS_bel (by first|exact hs|simp<;>omega) (by first|exact hr|simp<;>omega) hne hb) ?_ | refine fsCallD (add_ok (by first|exact hs|simp<;>omega) (by first|exact hr|simp<;>omega) hne k 0 0 0 [i, j] hL hc) (.inl rfl) (fun hb => hpS_bel (by first|exact hs|simp<;>omega) (by first|exact hr|simp<;>omega) hne hb) ?_)
   | refine goRound ?_ C_ok Try.f97.ntmps rfl (by decide)
   | skip) <;> simp only [h, ↓upd_eq, ↓envL_cons, WY, reduceIte, yA, yB, yC, yD, reduceCtorEq, yE, yF, W1, WS, W3, yH, yI, yJ, yK, yL, yM, hpS, bxS, arS, stP hs hr hne, retD_ret, retD_normal, AV.bel, mapN_len, emb_cells, emb_solid, emb_bel, implies_true, cutNormal_normal]
theorem put_one (hs : s < F.length) (hr : r < F.length) (hne : r ≠ s) {x : Ty} {i : Nat} (k n : Int)
    (i1 : ∀ F : List AObj, s < F.length → r < F.length → DCalls Try.prog 97 [.bptr s 0, emb x] (hpS F s r v L lim cnt rd) (.int .i64 i) (hpS F s r v1 L1 lim cnt1 rd))
    (hL : L1.length ≤ 1000000) (hc : 0 ≤ cnt1 ∧ cnt1 ≤ 1000000) :
    DCalls Try.prog 97 [.bptr s 0, emb (.mk k n [x])] (hpS F s r v L lim cnt rd) (.int .i64 L1.length) (hpS F s r (v1 + 1) (L1 ++ [(⟨k, 0, none, [i]⟩, 0)]) lim (cnt1 + 1) rd) := by
  unfold DCalls
  refine acallsD_text C_ok Try.func97 rfl (by decide) (Nat.le_of_ble_eq_true rfl) (by decide) fun ok => ?_
  rw [Try.results97]
  have h := True.intro
  repeat' (first
   | (with_reducible first | apply bA | apply bB | apply bC | apply bD | apply bE | apply bF) <;> intro h
   | ((first | apply bG | apply bH); simp only [AV.norm, AV.normL, W2, W3, yH, yI, yJ, yK, yL, yM, hpS, bxS, arS, stP hs hr hne, retD_ret, retD_normal, AV.bel, mapN_len, emb_cells, emb_solid, emb_bel, implies_true]; first  | refine fsCallD (i1 _ (by first|exact hs|simp<;>omega) (by first|exact hr|simp<;>omega)) (.inl rfl) (fun hb => hpS_bel (by first|exact hs|simp<;>omega) (by first|exact hr|simp<;>omega) hne hb) ?_ | refine fsCallD (add_ok (by first|exact hs|simp<;>omega) (by first|exact hr|simp<;>omega) hne k 0 0 0 [i] hL hc) (.inl rfl) (fun hb => hpS_bel (by first|exact hs|simp<;>omega) (by first|exact hr|simp<;>omega) hne hb) ?_)
   | refine goRound ?_ C_ok Try.f97.ntmps rfl (by decide)
   | skip) <;> simp only [h, ↓upd_eq, ↓envL_cons, WY, reduceIte, yA, yB, yC, yD, reduceCtorEq, yE, yF, W1, WS, W3, yH, yI, yJ, yK, yL, yM, hpS, bxS, arS, stP hs hr hne, retD_ret, retD_normal, AV.bel, mapN_len, emb_cells, emb_solid, emb_bel, implies_true, cutNormal_normal]
end
theorem sput_ok {s r : Nat} {lim rd : Int} (hne : r ≠ s) : ∀ (t : T) (F : List AObj) (v : Nat) (L : Mem) (cnt : Int), s < F.length → r < F.length → t.closed = true → L.length + t.inner ≤ 1000000 → 0 ≤ cnt → cnt + t.inner ≤ 1000000 →
    DCalls Try.prog 97 [.bptr s 0, emb t.ty] (hpS F s r v L lim cnt rd) (.int .i64 ((putM t L).2 : Nat)) (hpS F s r (v + t.inner) (putM t L).1 lim (cnt + (t.inner : Nat)) rd) := by
  intro t
  induction t with
  | base k =>
    intro F v L cnt hs hr hcl h1 h2 h3
    have := put_leaf0 (v := v) (L := L) (lim := lim) (cnt := cnt) (rd := rd) hs hr hne (k.val + 1) 0 (wrap_i (by omega) (by omega))
    rw [show ((k.val : Int) + 1 - 1) = (k.val : Int) by omega] at this
    simpa only [T.ty, putM, T.inner, Int.natCast_zero, Int.add_zero, Nat.add_zero] using this
  | dyn =>
    intro F v L cnt hs hr hcl h1 h2 h3
    have := put_leaf0 (v := v) (L := L) (lim := lim) (cnt := cnt) (rd := rd) hs hr hne 5 0 (wrap_i (by omega) (by omega))
    rw [show (5 : Int) - 1 = ((4 : Nat) : Int) by decide] at this
    simpa only [T.ty, putM, T.inner, Int.natCast_zero, Int.add_zero, Nat.add_zero] using this
  | var n => intro F v L cnt hs hr hcl; cases hcl
  | pair a b ih1 ih2 =>
    intro F v L cnt hs hr hcl h1 h2 h3
    simp only [T.closed, Bool.and_eq_true] at hcl
    simp only [T.inner] at h1 h3
    have l1 := putM_len a L
    have l2 := putM_len b (putM a L).1
    have := put_two (F := F) (s := s) (r := r) hs hr hne 7 0 (fun F hs hr => ih1 F v L cnt hs hr hcl.1 (by omega) h2 (by omega)) (fun F hs hr => ih2 F (v + a.inner) (putM a L).1 (cnt + (a.inner : Nat)) hs hr hcl.2 (by omega) (by omega) (by omega)) (by omega) ⟨by omega, by omega⟩
    rw [show v + a.inner + b.inner + 1 = v + (a.inner + b.inner + 1) by omega, show cnt + (a.inner : Nat) + (b.inner : Nat) + 1 = cnt + ((a.inner + b.inner + 1 : Nat) : Int) by omega] at this
    exact this
  | fn a b ih1 ih2 =>
    intro F v L cnt hs hr hcl h1 h2 h3
    simp only [T.closed, Bool.and_eq_true] at hcl
    simp only [T.inner] at h1 h3
    have l1 := putM_len a L
    have l2 := putM_len b (putM a L).1
    have := put_two (F := F) (s := s) (r := r) hs hr hne 9 0 (fun F hs hr => ih1 F v L cnt hs hr hcl.1 (by omega) h2 (by omega)) (fun F hs hr => ih2 F (v + a.inner) (putM a L).1 (cnt + (a.inner : Nat)) hs hr hcl.2 (by omega) (by omega) (by omega)) (by omega) ⟨by omega, by omega⟩
    rw [show v + a.inner + b.inner + 1 = v + (a.inner + b.inner + 1) by omega, show cnt + (a.inner : Nat) + (b.inner : Nat) + 1 = cnt + ((a.inner + b.inner + 1 : Nat) : Int) by omega] at this
    exact this
  | list a ih1 =>
    intro F v L cnt hs hr hcl h1 h2 h3
    simp only [T.closed] at hcl
    simp only [T.inner] at h1 h3
    have l1 := putM_len a L
    have := put_one (F := F) (s := s) (r := r) hs hr hne 8 0 (fun F hs hr => ih1 F v L cnt hs hr hcl (by omega) h2 (by omega)) (by omega) ⟨by omega, by omega⟩
    rw [show v + a.inner + 1 = v + (a.inner + 1) by omega, show cnt + (a.inner : Nat) + 1 = cnt + ((a.inner + 1 : Nat) : Int) by omega] at this
    exact this
section
variable {F : List AObj} {s r v : Nat} {L : Mem} {lim cnt rd : Int}
theorem put_done (hs : s < F.length) (hr : r < F.length) (hne : r ≠ s) (t : T) (ho : t.ok = true) (hcl : t.closed = true) (hc : 0 ≤ cnt ∧ cnt ≤ lim ∧ lim ≤ 65536) (hL : L.length + t.inner ≤ 1000000) (h : (t.inner : Int) ≤ lim - cnt) : DCalls Try.prog 42 [.bptr s 0, emb t.ty] (hpS F s r v L lim cnt rd) (.tup [.int .i64 ((putM t L).2 : Nat), .int .i64 0]) (hpS F s r (v + t.inner) (putM t L).1 lim (cnt + (t.inner : Nat)) rd) := by
  obtain ⟨m, hm⟩ : ∃ m : Nat, lim - cnt = (m : Int) := ⟨(lim - cnt).toNat, by omega⟩
  have w1 : IntKind.wrap .i64 (lim - cnt) = (m : Int) := by rw [wrap_i (by omega) (by omega)]; exact hm
  have q := made_ok t m (by omega) (by omega)
  have h0 := madeC_ok t m
  have hlt : ¬ m < madeC t m := by omega
  have h1 : right t.ty = true := by rw [T.right_ty]; exact ho
  have h2 : without 6 t.ty = true := by rw [T.closed_ty]; exact hcl
  have q2 := fun F hs hr => sput_ok (s := s) (r := r) (lim := lim) (rd := rd) hne t F v L cnt hs hr hcl hL hc.1 (by omega)
  unfold DCalls
  refine acallsD_text C_ok Try.func42 rfl (by decide) (Nat.le_of_ble_eq_true rfl) (by decide) fun ok => ?_
  rw [Try.results42]
  have h := True.intro
  repeat' (first
   | (with_reducible first | apply bA | apply bB | apply bC | apply bD | apply bE | apply bF) <;> intro h
   | ((first | apply bG | apply bH); simp only [AV.norm, AV.normL, W2, hpS, bxS, arS, stP hs hr hne, retD_ret, retD_normal, AV.bel, mapN_len, h1, h2, w1, hlt, emb_cells, emb_solid, emb_bel, implies_true, AV.belL, if_true, bne_self_eq_false]; first | refine goCall_p (check_ok t.ty) (.inl rfl) ?_ | refine goCall_p (closed_ok t.ty) (.inl rfl) ?_ | refine goCall_p (q) (.inl rfl) ?_ | refine goDCall_p (check_ok t.ty) (.inl rfl) ?_ | refine goDCall_p (closed_ok t.ty) (.inl rfl) ?_ | refine goDCall_p (q) (.inl rfl) ?_ | refine fsCallD (q2 _ (by first|exact hs|simp<;>omega) (by first|exact hr|simp<;>omega)) (.inl rfl) (fun hb => hpS_bel (by first|exact hs|simp<;>omega) (by first|exact hr|simp<;>omega) hne hb) ?_)
   | refine go_drawF (id := 3) C_ok (fun _ => trivial) mixed 0 Try.f42.ntmps (by first | (simp; done) | (simp; omega)) rfl (by kernel_rfl) (by decide) ?_
   | skip) <;> simp only [h, ↓upd_eq, ↓envL_cons, WY, reduceIte, yA, yB, yC, yD, reduceCtorEq, yE, yF, W1, WS, hpS, bxS, arS, stP hs hr hne, retD_ret, retD_normal, AV.bel, mapN_len, h1, h2, w1, hlt, emb_cells, emb_solid, emb_bel, implies_true, AV.belL, if_true, bne_self_eq_false]
end

end Go.Proofs.Ytdngjamjccjlmaa
