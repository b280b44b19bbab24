/- Lemmas: a variable becomes a node, first part. No condition. -/
import Derived.Test.YtdngjamjccjlmaaPNa
import Derived.Test.YtdngjamjccjlmaaW27
import Derived.Test.YtdngjamjccjlmaaPWa

set_option linter.unusedSimpArgs false
set_option linter.unusedVariables false
set_option maxHeartbeats 4000000
set_option maxRecDepth 100000
namespace Go.Proofs.Ytdngjamjccjlmaa
open Go Go.Ab
open Nat renaming reduceEqDiff → yA, reduceAdd → yB, reduceLT → yC, reduceLeDiff → yD, reduceMul → yE, reducePow → yF, reduceBEq → yG
open Int renaming reduceAdd → yH, reduceLT → yI, reduceToNat → yJ, reduceBEq → yK, reduceBNe → yL, reduceLE → yM
section
attribute [local irreducible] PCalls ACalls CallK GoCall GoDCall GoIf GoGb GoDGb GoO GoD GoX GoDX GoG GoDG GoGv GoDGv Go ALoop

structure LiveS (σ : Sto) : Prop where
  si : SI σ.L σ.rd
  len : σ.L.length ≤ 900000
  rdb : σ.rd ≤ 90000000000
section
variable {F : List AObj} {s r : Nat} {lim : Int}
theorem link_S (hs : s < F.length) (hr : r < F.length) (hne : r ≠ s) {σ : Sto} (h : LiveS σ) {x y : Nat} (hx : x < σ.L.length) (hy : y < σ.L.length) (ex : σ.L.st.root x = x) (ey : σ.L.st.root y = y) (h6 : σ.L.st.kind x = 6) (hxy : x ≠ y) :
    DCalls Try.prog 25 [.bptr s 0, .int .i64 x, .int .i64 y] (σ.heap F s r lim) (.int .i64 (σ.link x y).1) ((σ.link x y).2.heap F s r lim) := by
  have hL : σ.L.length ≤ 1000000 := by have := h.len; omega
  have h0 := h.si.rd0
  have h1 := h.rdb
  unfold Sto.link Sto.heap
  by_cases hin : x ∈ σ.L.st.all y
  · rw [if_pos hin]
    have q := link_loop (F := F) (v := σ.v) (lim := lim) (cnt := σ.cnt) hs hr hne h.si.wf h.si.mb hL ⟨h0, by omega⟩ x y hx hy (by rw [ex]; exact h6) (by rw [ex, ey]; exact hxy) (by rw [ex, ey]; exact hin)
    rw [ey] at q
    exact q
  · rw [if_neg hin]
    have q := link_ok (F := F) (v := σ.v) (lim := lim) (cnt := σ.cnt) hs hr hne h.si.wf h.si.mb hL ⟨h0, by omega⟩ x y hx hy (by rw [ex]; exact h6) (by rw [ex, ey]; exact hxy) (by rw [ex, ey]; exact hin)
    rw [ex, ey] at q
    exact q
theorem Sto.mark_st (σ : Sto) (n : Nat) : (σ.mark n).L.st = σ.L.st := mkL_st _ _ _
theorem Sto.mark_len (σ : Sto) (n : Nat) : (σ.mark n).L.length = σ.L.length := mkL_len _ _ _
theorem LiveS.mark {σ : Sto} (h : LiveS σ) (hb : σ.rd + 1 ≤ 90000000000) (n : Nat) : LiveS (σ.mark n) := ⟨h.si.mark _, by rw [Sto.mark_len]; exact h.len, hb⟩
theorem LiveS.st {σ : Sto} {n : Nat} : (σ.mark n).L.st = σ.L.st := mkL_st _ _ _
theorem become_link (hs : s < F.length) (hr : r < F.length) (hne : r ≠ s) {σ : Sto} (h : LiveS σ) {x y : Nat} (hx : x < σ.L.length) (hy : y < σ.L.length) (ex : σ.L.st.root x = x) (ey : σ.L.st.root y = y) (h6 : σ.L.st.kind x = 6) (hxy : x ≠ y) (hk : σ.L.st.kind y = 6) :
    DCalls Try.prog 98 [.bptr s 0, .int .i64 x, .int .i64 y] (σ.heap F s r lim) (.tup [.int .i64 (-1), .int .i64 (σ.link x y).1]) ((σ.link x y).2.heap F s r lim) := by
  have q1 := kind_in (F := F) (v := σ.v) (lim := lim) (cnt := σ.cnt) (rd := σ.rd) hs hr hne h.si.wf y hy
  rw [ey, hk] at q1
  have q2 := link_S (lim := lim) hs hr hne h hx hy ex ey h6 hxy
  have b6 : ((6 : Int) == 6) = true := rfl
  generalize σ.link x y = p at *
  obtain ⟨e, σ'⟩ := p
  unfold Sto.heap at q2 ⊢
  simp only at q2 ⊢
  unfold DCalls
  refine acallsD_text C_ok Try.func98 rfl (by decide) (Nat.le_of_ble_eq_true rfl) (by decide) fun ok => ?_
  rw [Try.results98]
  have h := True.intro
  repeat' (first
   | (with_reducible first | apply bA | apply bB | apply bC | apply bD | apply bE | apply bF) <;> intro h
   | ((first | apply bG | apply bH); simp only [AV.norm, AV.normL, W2, hpS, bxS, arS, stP hs hr hne, retD_ret, retD_normal, AV.bel, mapN_len, b6, AV.belL]; first  | refine fsCallR (q1) (.inl rfl) ?_ | refine fsCallD (q2) (.inl rfl) (fun hb => hpS_bel (by first|exact hs|simp<;>omega) (by first|exact hr|simp<;>omega) hne hb) ?_)
   | refine go_drawF (id := 14) C_ok (fun _ => trivial) mixed 0 Try.f98.ntmps (by first | (simp; done) | (simp; omega)) rfl (by kernel_rfl) (by decide) ?_
   | skip) <;> simp only [h, ↓upd_eq, ↓envL_cons, WY, reduceIte, yA, yB, yC, yD, reduceCtorEq, yE, yF, W1, WS, hpS, bxS, arS, stP hs hr hne, retD_ret, retD_normal, AV.bel, mapN_len, b6, AV.belL]
theorem static_S (hs : s < F.length) (hr : r < F.length) (hne : r ≠ s) {σ : Sto} (h : LiveS σ) {y : Nat} (hy : y < σ.L.length) : DCalls Try.prog 33 [.bptr s 0, .int .i64 y] (σ.heap F s r lim) (.bool (!decide (4 ∈ σ.L.st.all y))) ((σ.mark y).heap F s r lim) :=
  static_in hs hr hne h.si.wf h.si.mb (by have := h.len; omega) ⟨h.si.rd0, by have := h.rdb; omega⟩ y hy
theorem within_S (hs : s < F.length) (hr : r < F.length) (hne : r ≠ s) {σ : Sto} (h : LiveS σ) {x y : Nat} (hx : x < σ.L.length) (hy : y < σ.L.length) (ex : σ.L.st.root x = x) : DCalls Try.prog 28 [.bptr s 0, .int .i64 x, .int .i64 y] (σ.heap F s r lim) (.bool (decide (x ∈ σ.L.st.all y))) ((σ.mark y).heap F s r lim) := by
  have := within_ok (F := F) (v := σ.v) (lim := lim) (cnt := σ.cnt) hs hr hne h.si.wf h.si.mb (by have := h.len; omega) ⟨h.si.rd0, by have := h.rdb; omega⟩ x y hx hy
  rw [ex] at this
  exact this
theorem become_stat (hs : s < F.length) (hr : r < F.length) (hne : r ≠ s) {σ : Sto} (h : LiveS σ) (hb : σ.rd + 1 ≤ 90000000000) {x y : Nat} (hx : x < σ.L.length) (hy : y < σ.L.length) (ex : σ.L.st.root x = x) (ey : σ.L.st.root y = y) (h6 : σ.L.st.kind x = 6) (hxy : x ≠ y) (hk : σ.L.st.kind y ≠ 6) (h4 : 4 ∉ σ.L.st.all y) :
    DCalls Try.prog 98 [.bptr s 0, .int .i64 x, .int .i64 y] (σ.heap F s r lim) (.tup [.int .i64 (-1), .int .i64 ((σ.mark y).link x y).1]) (((σ.mark y).link x y).2.heap F s r lim) := by
  have q1 := kind_in (F := F) (v := σ.v) (lim := lim) (cnt := σ.cnt) (rd := σ.rd) hs hr hne h.si.wf y hy
  rw [ey] at q1
  have q2 := static_S (F := F) (lim := lim) hs hr hne h hy
  rw [decide_eq_false h4, Bool.not_false] at q2
  have hm := h.mark hb y
  have q3 := link_S (F := F) (lim := lim) hs hr hne hm (x := x) (y := y) (by rw [Sto.mark_len]; exact hx) (by rw [Sto.mark_len]; exact hy) (by rw [Sto.mark_st]; exact ex) (by rw [Sto.mark_st]; exact ey) (by rw [Sto.mark_st]; exact h6) hxy
  have b6 : (σ.L.st.kind y == 6) = false := by simpa using hk
  generalize (σ.mark y).link x y = p at *
  obtain ⟨e, σ'⟩ := p
  generalize σ.mark y = σ1 at *
  unfold Sto.heap at q2 q3 ⊢
  simp only at q2 q3 ⊢
  unfold DCalls
  refine acallsD_text C_ok Try.func98 rfl (by decide) (Nat.le_of_ble_eq_true rfl) (by decide) fun ok => ?_
  rw [Try.results98]
  have h := True.intro
  repeat' (first
   | (with_reducible first | apply bA | apply bB | apply bC | apply bD | apply bE | apply bF) <;> intro h
   | ((first | apply bG | apply bH); simp only [AV.norm, AV.normL, W2, hpS, bxS, arS, stP hs hr hne, retD_ret, retD_normal, AV.bel, mapN_len, b6, AV.belL]; first  | refine fsCallR (q1) (.inl rfl) ?_ | refine fsCallD (q2) (.inl rfl) (fun hb => hpS_bel (by first|exact hs|simp<;>omega) (by first|exact hr|simp<;>omega) hne hb) ?_ | refine fsCallD (q3) (.inl rfl) (fun hb => hpS_bel (by first|exact hs|simp<;>omega) (by first|exact hr|simp<;>omega) hne hb) ?_)
   | refine go_drawF (id := 14) C_ok (fun _ => trivial) mixed 0 Try.f98.ntmps (by first | (simp; done) | (simp; omega)) rfl (by kernel_rfl) (by decide) ?_
   | skip) <;> simp only [h, ↓upd_eq, ↓envL_cons, WY, reduceIte, yA, yB, yC, yD, reduceCtorEq, yE, yF, W1, WS, hpS, bxS, arS, stP hs hr hne, retD_ret, retD_normal, AV.bel, mapN_len, b6, AV.belL]
theorem become_loop (hs : s < F.length) (hr : r < F.length) (hne : r ≠ s) {σ : Sto} (h : LiveS σ) (hb : σ.rd + 1 ≤ 90000000000) {x y : Nat} (hx : x < σ.L.length) (hy : y < σ.L.length) (ex : σ.L.st.root x = x) (ey : σ.L.st.root y = y) (hk : σ.L.st.kind y ≠ 6) (h4 : 4 ∈ σ.L.st.all y) (hin : x ∈ σ.L.st.all y) :
    DCalls Try.prog 98 [.bptr s 0, .int .i64 x, .int .i64 y] (σ.heap F s r lim) (.tup [.int .i64 (-1), .int .i64 5]) (((σ.mark y).mark y).heap F s r lim) := by
  have q1 := kind_in (F := F) (v := σ.v) (lim := lim) (cnt := σ.cnt) (rd := σ.rd) hs hr hne h.si.wf y hy
  rw [ey] at q1
  have q2 := static_S (F := F) (lim := lim) hs hr hne h hy
  rw [decide_eq_true h4, Bool.not_true] at q2
  have hm := h.mark hb y
  have q3 := within_S (F := F) (lim := lim) hs hr hne hm (x := x) (y := y) (by rw [Sto.mark_len]; exact hx) (by rw [Sto.mark_len]; exact hy) (by rw [Sto.mark_st]; exact ex)
  rw [Sto.mark_st, decide_eq_true hin] at q3
  have b6 : (σ.L.st.kind y == 6) = false := by simpa using hk
  generalize (σ.mark y).mark y = σ2 at *
  generalize σ.mark y = σ1 at *
  unfold Sto.heap at q2 q3 ⊢
  unfold DCalls
  refine acallsD_text C_ok Try.func98 rfl (by decide) (Nat.le_of_ble_eq_true rfl) (by decide) fun ok => ?_
  rw [Try.results98]
  have h := True.intro
  repeat' (first
   | (with_reducible first | apply bA | apply bB | apply bC | apply bD | apply bE | apply bF) <;> intro h
   | ((first | apply bG | apply bH); simp only [AV.norm, AV.normL, W2, hpS, bxS, arS, stP hs hr hne, retD_ret, retD_normal, AV.bel, mapN_len, b6, AV.belL]; first  | refine fsCallR (q1) (.inl rfl) ?_ | refine fsCallD (q2) (.inl rfl) (fun hb => hpS_bel (by first|exact hs|simp<;>omega) (by first|exact hr|simp<;>omega) hne hb) ?_ | refine fsCallD (q3) (.inl rfl) (fun hb => hpS_bel (by first|exact hs|simp<;>omega) (by first|exact hr|simp<;>omega) hne hb) ?_)
   | refine go_drawF (id := 14) C_ok (fun _ => trivial) mixed 0 Try.f98.ntmps (by first | (simp; done) | (simp; omega)) rfl (by kernel_rfl) (by decide) ?_
   | skip) <;> simp only [h, ↓upd_eq, ↓envL_cons, WY, reduceIte, yA, yB, yC, yD, reduceCtorEq, yE, yF, W1, WS, hpS, bxS, arS, stP hs hr hne, retD_ret, retD_normal, AV.bel, mapN_len, b6, AV.belL]
end
end
section
attribute [local irreducible] PCalls ACalls CallK GoCall GoDCall GoIf GoGb GoDGb GoO GoD GoX GoDX GoG GoDG GoGv GoDGv Go ALoop

section
variable {F : List AObj} {s r v : Nat} {L : Mem} {lim cnt rd : Int}
theorem kind_q {e : Nat → AV} {b m : Nat} {G : List AObj} (hs : s < F.length) (hr : r < F.length) (hne : r ≠ s) (hw : Wf L.st) (n : Nat) (hn : n < L.length) (hG : G[s]? = some (bxS r v L.length lim cnt rd) ∧ G[r]? = some (arS v L)) : QCalls Try.prog 32 [.bptr s 0, .int .i64 n] (.int .i64 (L.st.kind (L.st.root n))) (FS e G b m).obj :=
  qcalls_st (s := s) (r := r) (bx := bxS r v L.length lim cnt rd) (ar := arS v L) (fun F' h1 h2 => kind_in h1 h2 hne hw n hn) (by rw [fs_obj]; exact hG.1) (by rw [fs_obj]; exact hG.2) rfl rfl
theorem make_full (hs : s < F.length) (hr : r < F.length) (hne : r ≠ s) (kd : Int) (a b : Nat) (hk : kd = 7 ∨ kd = 9) (ha : a < L.length) (hb' : b < L.length) (hc : (cnt == lim) = true) :
    DCalls Try.prog 82 [.bptr s 0, .int .i64 kd, .int .i64 a, .int .i64 b] (hpS F s r v L lim cnt rd) (.tup [.int .i64 0, .int .i64 7]) (hpS F s r v L lim cnt rd) := by
  have i1 := is_ok (v := v) (L := L) (lim := lim) (cnt := cnt) (rd := rd) hs hr hne (a : Int)
  have i2 := is_ok (v := v) (L := L) (lim := lim) (cnt := cnt) (rd := rd) hs hr hne (b : Int)
  rw [show (decide (0 ≤ (a : Int)) && decide ((a : Int) < L.length)) = true by simp; omega] at i1
  rw [show (decide (0 ≤ (b : Int)) && decide ((b : Int) < L.length)) = true by simp; omega] at i2
  unfold DCalls
  rcases hk with rfl | rfl
  · refine acallsD_text C_ok Try.func82 rfl (by decide) (Nat.le_of_ble_eq_true rfl) (by decide) fun ok => ?_
    rw [Try.results82]
    have h := True.intro
    repeat' (first
     | (with_reducible first | apply bA | apply bB | apply bC | apply bD | apply bE | apply bF) <;> intro h
     | ((first | apply bG | apply bH); simp only [AV.norm, AV.normL, W2, W3, yH, yI, yJ, yK, yL, yM, hpS, bxS, arS, stP hs hr hne, retD_ret, retD_normal, AV.bel, mapN_len, hc, AV.belL]; first  | refine fsCallR (i1) (.inl rfl) ?_ | refine fsCallR (i2) (.inl rfl) ?_)
     | refine go_drawF (id := 14) C_ok (fun _ => trivial) mixed 0 Try.f82.ntmps (by first | (simp; done) | (simp; omega)) rfl (by kernel_rfl) (by decide) ?_
     | refine goRound ?_ C_ok Try.f82.ntmps rfl (by decide)
     | skip) <;> simp only [h, ↓upd_eq, ↓envL_cons, WY, reduceIte, yA, yB, yC, yD, reduceCtorEq, yE, yF, W1, WS, W3, yH, yI, yJ, yK, yL, yM, hpS, bxS, arS, stP hs hr hne, retD_ret, retD_normal, AV.bel, mapN_len, hc, AV.belL, cutNormal_normal]
  · refine acallsD_text C_ok Try.func82 rfl (by decide) (Nat.le_of_ble_eq_true rfl) (by decide) fun ok => ?_
    rw [Try.results82]
    have h := True.intro
    repeat' (first
     | (with_reducible first | apply bA | apply bB | apply bC | apply bD | apply bE | apply bF) <;> intro h
     | ((first | apply bG | apply bH); simp only [AV.norm, AV.normL, W2, W3, yH, yI, yJ, yK, yL, yM, hpS, bxS, arS, stP hs hr hne, retD_ret, retD_normal, AV.bel, mapN_len, hc, AV.belL]; first  | refine fsCallR (i1) (.inl rfl) ?_ | refine fsCallR (i2) (.inl rfl) ?_)
     | refine go_drawF (id := 14) C_ok (fun _ => trivial) mixed 0 Try.f82.ntmps (by first | (simp; done) | (simp; omega)) rfl (by kernel_rfl) (by decide) ?_
     | refine goRound ?_ C_ok Try.f82.ntmps rfl (by decide)
     | skip) <;> simp only [h, ↓upd_eq, ↓envL_cons, WY, reduceIte, yA, yB, yC, yD, reduceCtorEq, yE, yF, W1, WS, W3, yH, yI, yJ, yK, yL, yM, hpS, bxS, arS, stP hs hr hne, retD_ret, retD_normal, AV.bel, mapN_len, hc, AV.belL, cutNormal_normal]
theorem make_fullL (hs : s < F.length) (hr : r < F.length) (hne : r ≠ s) (a : Nat) (b : Int) (ha : a < L.length) (hc : (cnt == lim) = true) :
    DCalls Try.prog 82 [.bptr s 0, .int .i64 8, .int .i64 a, .int .i64 b] (hpS F s r v L lim cnt rd) (.tup [.int .i64 0, .int .i64 7]) (hpS F s r v L lim cnt rd) := by
  have i1 := is_ok (v := v) (L := L) (lim := lim) (cnt := cnt) (rd := rd) hs hr hne (a : Int)
  rw [show (decide (0 ≤ (a : Int)) && decide ((a : Int) < L.length)) = true by simp; omega] at i1
  unfold DCalls
  refine acallsD_text C_ok Try.func82 rfl (by decide) (Nat.le_of_ble_eq_true rfl) (by decide) fun ok => ?_
  rw [Try.results82]
  have h := True.intro
  repeat' (first
   | (with_reducible first | apply bA | apply bB | apply bC | apply bD | apply bE | apply bF) <;> intro h
   | ((first | apply bG | apply bH); simp only [AV.norm, AV.normL, W2, W3, yH, yI, yJ, yK, yL, yM, hpS, bxS, arS, stP hs hr hne, retD_ret, retD_normal, AV.bel, mapN_len, hc, AV.belL]; first  | refine fsCallR (i1) (.inl rfl) ?_)
   | refine go_drawF (id := 14) C_ok (fun _ => trivial) mixed 0 Try.f82.ntmps (by first | (simp; done) | (simp; omega)) rfl (by kernel_rfl) (by decide) ?_
   | refine goRound ?_ C_ok Try.f82.ntmps rfl (by decide)
   | skip) <;> simp only [h, ↓upd_eq, ↓envL_cons, WY, reduceIte, yA, yB, yC, yD, reduceCtorEq, yE, yF, W1, WS, W3, yH, yI, yJ, yK, yL, yM, hpS, bxS, arS, stP hs hr hne, retD_ret, retD_normal, AV.bel, mapN_len, hc, AV.belL, cutNormal_normal]
end
end
end Go.Proofs.Ytdngjamjccjlmaa
