/- Layer 13: two types are made to agree in both orders, or in neither. No condition. -/
import Derived.Test.YtdngjamjccjlmaaNJ
import Derived.Test.YtdngjamjccjlmaaBC
set_option linter.unusedSimpArgs false
set_option linter.unusedVariables false
set_option maxHeartbeats 4000000
set_option maxRecDepth 100000
namespace Go.Proofs.Ytdngjamjccjlmaa
open Go Go.Ab
open Nat renaming reduceEqDiff → yA, reduceAdd → yB, reduceLT → yC, reduceLeDiff → yD, reduceMul → yE, reducePow → yF, reduceBEq → yG
open Int renaming reduceAdd → yH, reduceLT → yI, reduceToNat → yJ, reduceBEq → yK, reduceBNe → yL, reduceLE → yM
attribute [local irreducible] PCalls ACalls CallK GoCall GoDCall GoIf GoGb GoDGb GoO GoD GoX GoDX GoG GoDG GoGv GoDGv Go ALoop

theorem small_swap {a b : T} (h : Small13 [(a, b)]) : Small13 [(b, a)] := by
  obtain ⟨h1, h2, h3, h4⟩ := h
  refine ⟨h1, ?_, ?_, ?_⟩
  · simp only [rowOf, T.size] at h2 ⊢; omega
  · simp only [rowOf, T.ok, Bool.and_eq_true] at h3 ⊢; exact ⟨⟨h3.1.2, h3.1.1⟩, h3.2⟩
  · have p : ((rowOf [(b, a)]).varsF []).Perm ((rowOf [(a, b)]).varsF []) := by
      refine (List.perm_ext_iff_of_nodup (nodup_varsF _ [] List.nodup_nil) (nodup_varsF _ [] List.nodup_nil)).2 fun z => ?_
      rw [mem_vars0, mem_vars0]
      exact ⟨swap_has, swap_has⟩
    rw [p.length_eq]; exact h4
theorem bel_low {G G' : List AObj} {s r b : Nat} {bx ar bx' ar' : AObj} (hs : b ≤ s) (hr : b ≤ r) (h : G'.take b = G.take b) (hb : ∀ x ∈ (stF G s r bx ar).take b, x.bel b = true) : ∀ x ∈ (stF G' s r bx' ar').take b, x.bel b = true := by
  have e : ∀ (G : List AObj) (bx ar : AObj), (stF G s r bx ar).take b = G.take b := fun G bx ar => by
    unfold stF
    rw [List.take_set, List.take_set, List.set_eq_of_length_le (by simp; omega), List.set_eq_of_length_le (by simp; omega)]
  rw [e] at hb ⊢
  rw [h]; exact hb
theorem stF_at {X : List AObj} {s r : Nat} {bx ar : AObj} (h1 : X[s]? = some bx) (h2 : X[r]? = some ar) : stF X s r bx ar = X := by
  unfold stF; rw [set_same h1, set_same h2]
theorem kid_read {F : List AObj} {s r : Nat} (hs : s < F.length) (hr : r < F.length) (hne : r ≠ s) {l : List (T × T)} {n : Nat} {Z : List (Int × Int)} {σ0 : Sto} {ps : List (Nat × Nat)} {e : Int} {σ : Sto} (hF : SolvedF l n Z σ0 ps e σ) {k : Nat} (hk : k < σ.L.st.length) :
    DCalls Try.prog 30 [.bptr s 0, .int .i64 (k : Nat)] (hpS F s r σ.v σ.L 65536 σ.cnt σ.rd) (if ((σ.L.st.tT k).size : Int) ≤ 65536 - σ.cnt then .tup [emb (σ.L.st.tT k).ty, .int .i64 0] else .tup [emb (.mk 0 0 []), .int .i64 7])
      (hpS F s r σ.v σ.L 65536 (if ((σ.L.st.tT k).size : Int) ≤ 65536 - σ.cnt then σ.cnt + (σ.L.st.tT k).size else σ.cnt) σ.rd) := by
  have h1 := hF.cnt1
  have h2 := hF.cnt2
  have h := read_gen (F := F) (s := s) (r := r) (v := σ.v) (L := σ.L) (lim := 65536) (cnt := σ.cnt) (rd := σ.rd) hs hr hne hF.good.si.wf k (by rw [Mem.st_len] at hk; exact hk) ⟨h1, by omega, by omega⟩
  rw [hF.good.si.wf.tT_ty k hk, nodes_size] at h
  exact h
theorem solveBoth_ok (a b : Ty) : PCalls Try.prog 13 [emb a, emb b] (.bool true) := by
  have qm := small13_ok [(a, b)]
  simp only [List.map_cons, List.map_nil] at qm
  cases h1 : small13 [(a, b)] with
  | false =>
    rw [h1] at qm
    refine pcalls_text C_ok Try.func13 rfl (by decide) (Nat.le_of_ble_eq_true rfl) (by decide) rfl fun ok H => ?_
    rw [Try.results13]
    have h := True.intro
    repeat' (first
     | (with_reducible first | apply bA | apply bB | apply bC | apply bD | apply bE | apply bF) <;> intro h
     | ((first | apply bG | apply bH); simp only [AV.norm, AV.normL, W2, W2Q, W2B, List.length_map]; first | refine goCall_p (qm) (.inl rfl) ?_ | refine goDCall_p (qm) (.inl rfl) ?_)
     | refine go_draw (id := 1) C_ok (fun _ => trivial) mixed 0 Try.f13.ntmps rfl (by kernel_rfl) (by decide) ?_
     | refine go_draw (id := 20) C_ok (fun _ => trivial) mixed 1 Try.f13.ntmps rfl (by kernel_rfl) (by decide) ?_
     | skip) <;> simp only [h, ↓upd_eq, ↓envL_cons, WZ, reduceIte, yA, yB, yC, yD, reduceCtorEq, yE, yF, W1, W1Q, W1B, List.length_map]
  | true =>
  rw [h1] at qm
  obtain ⟨l', hl', hsm⟩ := small13_T h1
  obtain ⟨ta, tb, rfl, rfl, rfl⟩ : ∃ ta tb : T, a = ta.ty ∧ b = tb.ty ∧ l' = [(ta, tb)] := by
    match l', hl' with
    | [p], h => simp only [List.map_cons, List.map_nil, List.cons.injEq, and_true, tyQ, Prod.mk.injEq] at h; exact ⟨p.1, p.2, h.1, h.2, rfl⟩
  clear hl'
  have hsm2 := small_swap hsm
  refine pcalls_text C_ok Try.func13 rfl (by decide) (Nat.le_of_ble_eq_true rfl) (by decide) rfl fun ok H => ?_
  rw [Try.results13]
  rw [initS_fs]
  have h := True.intro
  repeat' (first
   | (with_reducible first | apply bA | apply bB | apply bC | apply bD | apply bE | apply bF) <;> intro h
   | ((first | apply bG | apply bH); simp only [AV.norm, AV.normL, W2, W2Q, W2B, emb_bel, emb_solid, implies_true]; first | refine goCall_p (qm) (.inl rfl) ?_ | refine goDCall_p (qm) (.inl rfl) ?_)
   | refine go_drawF (id := 1) C_ok (fun _ => trivial) mixed 0 Try.f13.ntmps (by first | (simp; done) | (simp; omega)) rfl (by kernel_rfl) (by decide) ?_
   | refine go_drawF (id := 20) C_ok (fun _ => trivial) mixed 1 Try.f13.ntmps (by first | (simp; done) | (simp; omega)) rfl (by kernel_rfl) (by decide) ?_
   | skip) <;> simp only [h, ↓upd_eq, ↓envL_cons, WY, reduceIte, yA, yB, yC, yD, reduceCtorEq, yE, yF, W1, W1Q, W1B, WS, emb_bel, emb_solid, implies_true]
  obtain ⟨B0, hB0⟩ : ∃ B0 : List AObj, B0 = [AObj.box [.int .i64 ta.ty.kind, .int .i64 ta.ty.num, .sl (ta.ty.kids.map emb) .no], AObj.box [.int .i64 tb.ty.kind, .int .i64 tb.ty.num, .sl (tb.ty.kids.map emb) .no]] := ⟨_, rfl⟩
  rw [← hB0]
  obtain ⟨G, s, r, n, Z, σ0, ps, e, σ, hs, hr, hne, hl, ht, hbs, hbr, hsol, hF⟩ := solved_st (H ++ B0) _ hsm
  obtain ⟨G2, s2, r2, m, Z2, τ0, ps2, e2, τ, hs2, hr2, hne2, hl2, ht2, hbs2, hbr2, hsol2, hF2⟩ := solved_st (σ.heap G s r 65536) _ hsm2
  have hGl : (σ.heap G s r 65536).length = G.length := by unfold Sto.heap hpS; rw [stF_len]
  rw [hGl] at hl2 ht2 hbs2 hbr2
  rw [List.length_append] at hl hbs hbr
  have x1 : G2[s]? = some (bxS r σ.v σ.L.length 65536 σ.cnt σ.rd) := by
    have : (σ.heap G s r 65536)[s]? = some (bxS r σ.v σ.L.length 65536 σ.cnt σ.rd) := by unfold Sto.heap hpS; exact stF_s hs hne
    rw [← ht2, List.getElem?_take_of_lt hs] at this; exact this
  have x2 : G2[r]? = some (arS σ.v σ.L) := by
    have : (σ.heap G s r 65536)[r]? = some (arS σ.v σ.L) := by unfold Sto.heap hpS; exact stF_r hr
    rw [← ht2, List.getElem?_take_of_lt hr] at this; exact this
  have hH1 : (σ.heap G s r 65536).take H.length = H := by
    unfold Sto.heap hpS
    refine st_take (by omega) (by omega) ?_
    refine take_low (F := H ++ B0) ht (by simp) (List.take_left' rfl)
  have hH2 : G2.take H.length = H := take_low (F := σ.heap G s r 65536) (by rw [hGl]; exact ht2) (by rw [hGl]; omega) hH1
  have n1 : s2 ≠ s ∧ s2 ≠ r ∧ r2 ≠ s ∧ r2 ≠ r := ⟨by omega, by omega, by omega, by omega⟩
  simp only [List.map_cons, List.map_nil, tyQ] at hsol hsol2
  unfold Sto.heap at hsol hsol2
  have hb0 : H.length ≤ H.length := Nat.le_refl _
  have hl0 : H.length ≤ G.length := by omega
  have hle : ∀ k, (H.length ≤ G.length + k) = True := fun k => by simp only [eq_iff_iff, iff_true]; omega
  have hl02 : H.length ≤ G2.length := by omega
  have hle2 : ∀ k, (H.length ≤ G2.length + k) = True := fun k => by simp only [eq_iff_iff, iff_true]; omega
  refine goCall_norm ?_
  simp only [AV.norm, AV.normL, W2, W2Q, W2B]
  refine fsCallD hsol (.inl rfl) (fun hb => ?_) ?_
  · refine new_bel (F := H ++ B0) (by simp) (by simpa using hbs) (by simpa using hbr) (by simpa using ht) hb
  have h := True.intro
  repeat' (first
   | (with_reducible first | apply bA | apply bB | apply bC | apply bD | apply bE | apply bF) <;> intro h
   | refine go_drawF (id := 1) C_ok (fun _ => trivial) mixed 0 Try.f13.ntmps (by first | (simp; done) | (simp; omega)) rfl (by kernel_rfl) (by decide) ?_
   | refine go_drawF (id := 20) C_ok (fun _ => trivial) mixed 1 Try.f13.ntmps (by first | (simp; done) | (simp; omega)) rfl (by kernel_rfl) (by decide) ?_
   | skip) <;> simp only [h, ↓upd_eq, ↓envL_cons, WY, reduceIte, yA, yB, yC, yD, reduceCtorEq, yE, yF, W1, W1Q, W1B, WS, hpS, bxS, arS, stP hs hr hne, mapN_len, hl0, hle, emb_bel, emb_solid, implies_true]
  refine goCall_norm ?_
  simp only [AV.norm, AV.normL, W2, W2Q, W2B]
  refine fsCallD hsol2 (.inl rfl) (fun hb => ?_) ?_
  · exact new_bel (by rw [stF_len]; omega) (by rw [stF_len]; exact hbs2) (by rw [stF_len]; exact hbr2) (by rw [stF_len]; exact ht2) hb
  have hs2H : H.length ≤ s2 := by omega
  have hr2H : H.length ≤ r2 := by omega
  rcases solB_ok hF hF2 with ⟨h0, h02⟩ | ⟨rfl, rfl, A, B, A', B', e1, e2, hcan⟩
  · have b1 : (e == 0) = false := by rw [beq_eq_false_iff_ne]; exact h0
    have b2 : (e2 == 0) = false := by rw [beq_eq_false_iff_ne]; exact h02
    have b3 : (e != 0) = true := by rw [bne_iff_ne]; exact h0
    clear hsol hsol2 qm
    have h := True.intro
    repeat' (first
     | (with_reducible first | apply bA | apply bB | apply bC | apply bD | apply bE | apply bF) <;> intro h
     | ((first | apply bG | apply bH); simp only [AV.norm, AV.normL, W2, W2Q, W2B, hpS, bxS, arS, stP hs2 hr2 hne2, mapN_len, hl02, hle2, b1, b2, b3, bne_self_eq_false, emb_bel, emb_solid, implies_true]; first | refine goCall_p (wakes13_ok) (.inl rfl) ?_ | refine goDCall_p (wakes13_ok) (.inl rfl) ?_)
     | refine go_drawF (id := 1) C_ok (fun _ => trivial) mixed 0 Try.f13.ntmps (by first | (simp; done) | (simp; omega)) rfl (by kernel_rfl) (by decide) ?_
     | refine go_drawF (id := 20) C_ok (fun _ => trivial) mixed 1 Try.f13.ntmps (by first | (simp; done) | (simp; omega)) rfl (by kernel_rfl) (by decide) ?_
     | skip) <;> simp only [h, ↓upd_eq, ↓envL_cons, WY, reduceIte, yA, yB, yC, yD, reduceCtorEq, yE, yF, W1, W1Q, W1B, WS, hpS, bxS, arS, stP hs2 hr2 hne2, mapN_len, hl02, hle2, b1, b2, b3, bne_self_eq_false, emb_bel, emb_solid, implies_true]
    all_goals exact st_take hs2H hr2H hH2
  obtain ⟨i, j, k1, k2, il, jl, ti, _⟩ := tT_pair hF.good.si.wf (Nat.lt_of_lt_of_le (by rw [Mem.st_len]; exact hF.hn) hF.ext.len) e1
  obtain ⟨i2, j2, k3, k4, il2, jl2, ti2, _⟩ := tT_pair hF2.good.si.wf (Nat.lt_of_lt_of_le (by rw [Mem.st_len]; exact hF2.hn) hF2.ext.len) e2
  have hX1 : (hpS G2 s2 r2 τ.v τ.L 65536 τ.cnt τ.rd)[s]? = some (bxS r σ.v σ.L.length 65536 σ.cnt σ.rd) := by unfold hpS; rw [stF_o n1.1 n1.2.2.1]; exact x1
  have hX2 : (hpS G2 s2 r2 τ.v τ.L 65536 τ.cnt τ.rd)[r]? = some (arS σ.v σ.L) := by unfold hpS; rw [stF_o n1.2.1 n1.2.2.2]; exact x2
  have hXs := get_lt hX1
  have hXr := get_lt hX2
  have hnl : n < σ.L.length := by have := hF.ext.len; rw [Mem.st_len, Mem.st_len] at this; have := hF.hn; omega
  have hml : m < τ.L.length := by have := hF2.ext.len; rw [Mem.st_len, Mem.st_len] at this; have := hF2.hn; omega
  have q1 := kids_in (v := σ.v) (lim := 65536) (cnt := σ.cnt) (rd := σ.rd) hXs hXr hne hF.good.si.wf n hnl (by rw [k2]; simp) (by rw [k2]; simp)
  rw [k2] at q1
  have hXe : hpS (hpS G2 s2 r2 τ.v τ.L 65536 τ.cnt τ.rd) s r σ.v σ.L 65536 σ.cnt σ.rd = hpS G2 s2 r2 τ.v τ.L 65536 τ.cnt τ.rd := by
    conv => lhs; unfold hpS
    exact stF_at hX1 hX2
  rw [hXe] at q1
  have q2 := fun (F : List AObj) (hs : s2 < F.length) (hr : r2 < F.length) => kids_in (F := F) (v := τ.v) (lim := 65536) (cnt := τ.cnt) (rd := τ.rd) hs hr hne2 hF2.good.si.wf m hml (by rw [k4]; simp) (by rw [k4]; simp)
  rw [k4] at q2
  have q3 := kid_read hXs hXr hne hF il
  rw [hXe, ti] at q3
  have hXc : ∀ c, hpS (hpS G2 s2 r2 τ.v τ.L 65536 τ.cnt τ.rd) s r σ.v σ.L 65536 c σ.rd = hpS (G2.set s (bxS r σ.v σ.L.length 65536 c σ.rd)) s2 r2 τ.v τ.L 65536 τ.cnt τ.rd := fun c => by
    have : hpS (hpS G2 s2 r2 τ.v τ.L 65536 τ.cnt τ.rd) s r σ.v σ.L 65536 c σ.rd = (hpS G2 s2 r2 τ.v τ.L 65536 τ.cnt τ.rd).set s (bxS r σ.v σ.L.length 65536 c σ.rd) := by
      conv => lhs; unfold hpS stF
      exact set_same (by rw [set_get (fun h => hne h.symm)]; exact hX2)
    rw [this]
    unfold hpS
    rw [stF_set_o n1.1 n1.2.2.1]
  rw [hXc] at q3
  obtain ⟨G3, hG3⟩ : ∃ G3, G3 = G2.set s (bxS r σ.v σ.L.length 65536 (if (((T.pair A B).size : Nat) : Int) ≤ 65536 - σ.cnt then σ.cnt + ((T.pair A B).size : Nat) else σ.cnt) σ.rd) := ⟨_, rfl⟩
  rw [← hG3] at q3
  have oA : (T.pair A B).ok = true := by rw [← ti]; exact hF.good.si.wf.tT_ok (by have := hF.len; rw [Mem.st_len]; omega) il
  have oB : (T.pair B' A').ok = true := by rw [← ti2]; exact hF2.good.si.wf.tT_ok (by have := hF2.len; rw [Mem.st_len]; omega) il2
  have cc1 := hF.cnt1
  have cc2 := hF2.cnt1
  have hG3l : G3.length = G2.length := by rw [hG3, List.length_set]
  have hs3 : s2 < G3.length := by omega
  have hr3 : r2 < G3.length := by omega
  have hl03 : H.length ≤ G3.length := by omega
  have hle3 : ∀ k, (H.length ≤ G3.length + k) = True := fun k => by simp only [eq_iff_iff, iff_true]; omega
  have hH3' : G3.take H.length = G2.take H.length := by rw [hG3, List.take_set, List.set_eq_of_length_le (by simp; omega)]
  have hH3 : G3.take H.length = H := by rw [hH3', hH2]
  have q4 := fun (F : List AObj) (hs : s2 < F.length) (hr : r2 < F.length) => kid_read (F := F) hs hr hne2 hF2 il2
  simp only [ti2] at q4
  simp only [kidI, List.map_cons, List.map_nil, I64] at q1 q2
  clear hsol hsol2 qm hX1 hX2 hXe hXc hG3 x1 x2 e1 e2 ti ti2 k1 k2 k3 k4
  have h := True.intro
  repeat' (first
   | (with_reducible first | apply bA | apply bB | apply bC | apply bD | apply bE | apply bF) <;> intro h
   | ((first | apply bG | apply bH); simp only [AV.norm, AV.normL, W2, W2Q, W2B, W3, yH, yI, yJ, yK, yL, yM, hpS, bxS, arS, stP hs2 hr2 hne2, mapN_len, hl02, hle2, beq_self_eq_true, bne_self_eq_false, List.length_cons, List.length_nil, emb_bel, emb_solid, implies_true]; first  | refine fsCallR (q1) (.inl rfl) ?_ | refine fsCallR (q2 _ hs2 hr2) (.inl rfl) ?_)
   | refine go_drawF (id := 1) C_ok (fun _ => trivial) mixed 0 Try.f13.ntmps (by first | (simp; done) | (simp; omega)) rfl (by kernel_rfl) (by decide) ?_
   | refine go_drawF (id := 20) C_ok (fun _ => trivial) mixed 1 Try.f13.ntmps (by first | (simp; done) | (simp; omega)) rfl (by kernel_rfl) (by decide) ?_
   | refine goRound ?_ C_ok Try.f13.ntmps rfl (by decide)
   | skip) <;> simp only [h, ↓upd_eq, ↓envL_cons, WY, reduceIte, yA, yB, yC, yD, reduceCtorEq, yE, yF, W1, W1Q, W1B, WS, W3, yH, yI, yJ, yK, yL, yM, hpS, bxS, arS, stP hs2 hr2 hne2, mapN_len, hl02, hle2, beq_self_eq_true, bne_self_eq_false, List.length_cons, List.length_nil, emb_bel, emb_solid, implies_true, cutNormal_normal]
  refine fsCallD q3 (.inl rfl) (fun hb => bel_low hs2H hr2H hH3' hb) ?_
  clear q1 q2
  have b7 : ((7 : Int) != 0) = true := rfl
  have b0 : ((7 : Int) == 7) = true := rfl
  have b70 : ((0 : Int) == 7) = false := rfl
  by_cases hf1 : (((T.pair A B).size : Nat) : Int) ≤ 65536 - σ.cnt
  · simp only [if_pos hf1]
    by_cases hf2 : (((T.pair B' A').size : Nat) : Int) ≤ 65536 - τ.cnt
    · simp only [if_pos hf2] at q4
      replace hs := hs3
      replace hr := hr3
      replace hne := hne2
      have cr : ∀ x : T, x.ok = true → x.size ≤ 1000000 → PCalls Try.prog 61 [emb x.ty] (.tup [emb (canonT x).ty, .int .i64 0]) := fun x hx hs => by
        have := canon_ok x.ty (by rw [nodes_size]; omega)
        rw [canonR, if_pos (by rw [T.right_ty]; exact hx), tOf_ty] at this; exact this
      have r1 := cr _ oA (by omega)
      have r2' : PCalls Try.prog 61 [emb (twoT 7 A'.ty B'.ty)] (.tup [emb (canonT (.pair A' B')).ty, .int .i64 0]) := cr (.pair A' B') (by simp only [T.ok, Bool.and_eq_true] at oB ⊢; exact oB.symm) (by simp only [T.size] at hf2 ⊢; omega)
      rw [← hcan] at r2'
      have rs := ksame_ok (canonT (.pair A B)).ty (canonT (.pair A B)).ty
      rw [same_refl] at rs
      rw [show (T.pair B' A').ty = .mk 7 0 [B'.ty, A'.ty] from rfl] at q4
      generalize (canonT (.pair A B)).ty = tc at *
      generalize (T.pair A B).ty = t1 at *
      generalize B'.ty = tb' at *
      generalize A'.ty = ta' at *
      have h := True.intro
      repeat' (first
       | (with_reducible first | apply bA | apply bB | apply bC | apply bD | apply bE | apply bF) <;> intro h
       | ((first | apply bG | apply bH); simp only [AV.norm, AV.normL, W2, W2Q, W2B, W3, yH, yI, yJ, yK, yL, yM, hpS, bxS, arS, stP hs3 hr3 hne2, mapN_len, hl03, hle3, b7, b0, b70, beq_self_eq_true, bne_self_eq_false, emb_cells, emb_bel, emb_solid, List.map_cons, List.map_nil, List.length_cons, List.length_nil, implies_true, AV.belL]; first | refine goCall_p (r1) (.inl rfl) ?_ | refine goCall_p (two_ok 7 _ _) (.inl rfl) ?_ | refine goCall_p (r2') (.inl rfl) ?_ | refine goCall_p (rs) (.inl rfl) ?_ | refine goCall_p (wakes13_ok) (.inl rfl) ?_ | refine goDCall_p (r1) (.inl rfl) ?_ | refine goDCall_p (two_ok 7 _ _) (.inl rfl) ?_ | refine goDCall_p (r2') (.inl rfl) ?_ | refine goDCall_p (rs) (.inl rfl) ?_ | refine goDCall_p (wakes13_ok) (.inl rfl) ?_ | refine fsCallD (q4 _ (by first|exact hs|simp<;>omega) (by first|exact hr|simp<;>omega)) (.inl rfl) (fun hb => hpS_bel (by first|exact hs|simp<;>omega) (by first|exact hr|simp<;>omega) hne hb) ?_)
       | refine go_drawF (id := 1) C_ok (fun _ => trivial) mixed 0 Try.f13.ntmps (by first | (simp; done) | (simp; omega)) rfl (by kernel_rfl) (by decide) ?_
       | refine go_drawF (id := 20) C_ok (fun _ => trivial) mixed 1 Try.f13.ntmps (by first | (simp; done) | (simp; omega)) rfl (by kernel_rfl) (by decide) ?_
       | refine goRound ?_ C_ok Try.f13.ntmps rfl (by decide)
       | skip) <;> simp only [h, ↓upd_eq, ↓envL_cons, WY, reduceIte, yA, yB, yC, yD, reduceCtorEq, yE, yF, W1, W1Q, W1B, WS, W3, yH, yI, yJ, yK, yL, yM, hpS, bxS, arS, stP hs3 hr3 hne2, mapN_len, hl03, hle3, b7, b0, b70, beq_self_eq_true, bne_self_eq_false, emb_cells, emb_bel, emb_solid, List.map_cons, List.map_nil, List.length_cons, List.length_nil, implies_true, AV.belL, cutNormal_normal]
      all_goals exact stJ_take hs2H hr2H hl03 hH3
    · simp only [if_neg hf2] at q4
      replace hs := hs3
      replace hr := hr3
      replace hne := hne2
      generalize (T.pair A B).ty = t1 at *
      generalize (T.pair B' A').ty = t2 at *
      have h := True.intro
      repeat' (first
       | (with_reducible first | apply bA | apply bB | apply bC | apply bD | apply bE | apply bF) <;> intro h
       | ((first | apply bG | apply bH); simp only [AV.norm, AV.normL, W2, W2Q, W2B, W3, yH, yI, yJ, yK, yL, yM, hpS, bxS, arS, stP hs3 hr3 hne2, mapN_len, hl03, hle3, b7, b0, b70, beq_self_eq_true, bne_self_eq_false, emb_bel, emb_solid, implies_true, AV.belL]; first | refine goCall_p (wakes13_ok) (.inl rfl) ?_ | refine goDCall_p (wakes13_ok) (.inl rfl) ?_ | refine fsCallD (q4 _ (by first|exact hs|simp<;>omega) (by first|exact hr|simp<;>omega)) (.inl rfl) (fun hb => hpS_bel (by first|exact hs|simp<;>omega) (by first|exact hr|simp<;>omega) hne hb) ?_)
       | refine go_drawF (id := 1) C_ok (fun _ => trivial) mixed 0 Try.f13.ntmps (by first | (simp; done) | (simp; omega)) rfl (by kernel_rfl) (by decide) ?_
       | refine go_drawF (id := 20) C_ok (fun _ => trivial) mixed 1 Try.f13.ntmps (by first | (simp; done) | (simp; omega)) rfl (by kernel_rfl) (by decide) ?_
       | refine goRound ?_ C_ok Try.f13.ntmps rfl (by decide)
       | skip) <;> simp only [h, ↓upd_eq, ↓envL_cons, WY, reduceIte, yA, yB, yC, yD, reduceCtorEq, yE, yF, W1, W1Q, W1B, WS, W3, yH, yI, yJ, yK, yL, yM, hpS, bxS, arS, stP hs3 hr3 hne2, mapN_len, hl03, hle3, b7, b0, b70, beq_self_eq_true, bne_self_eq_false, emb_bel, emb_solid, implies_true, AV.belL, cutNormal_normal]
      all_goals exact stJ_take hs2H hr2H hl03 hH3
  · simp only [if_neg hf1]
    by_cases hf2 : (((T.pair B' A').size : Nat) : Int) ≤ 65536 - τ.cnt
    · simp only [if_pos hf2] at q4
      replace hs := hs3
      replace hr := hr3
      replace hne := hne2
      generalize (T.pair A B).ty = t1 at *
      generalize (T.pair B' A').ty = t2 at *
      have h := True.intro
      repeat' (first
       | (with_reducible first | apply bA | apply bB | apply bC | apply bD | apply bE | apply bF) <;> intro h
       | ((first | apply bG | apply bH); simp only [AV.norm, AV.normL, W2, W2Q, W2B, W3, yH, yI, yJ, yK, yL, yM, hpS, bxS, arS, stP hs3 hr3 hne2, mapN_len, hl03, hle3, b7, b0, b70, beq_self_eq_true, bne_self_eq_false, emb_bel, emb_solid, implies_true, AV.belL]; first | refine goCall_p (wakes13_ok) (.inl rfl) ?_ | refine goDCall_p (wakes13_ok) (.inl rfl) ?_ | refine fsCallD (q4 _ (by first|exact hs|simp<;>omega) (by first|exact hr|simp<;>omega)) (.inl rfl) (fun hb => hpS_bel (by first|exact hs|simp<;>omega) (by first|exact hr|simp<;>omega) hne hb) ?_)
       | refine go_drawF (id := 1) C_ok (fun _ => trivial) mixed 0 Try.f13.ntmps (by first | (simp; done) | (simp; omega)) rfl (by kernel_rfl) (by decide) ?_
       | refine go_drawF (id := 20) C_ok (fun _ => trivial) mixed 1 Try.f13.ntmps (by first | (simp; done) | (simp; omega)) rfl (by kernel_rfl) (by decide) ?_
       | refine goRound ?_ C_ok Try.f13.ntmps rfl (by decide)
       | skip) <;> simp only [h, ↓upd_eq, ↓envL_cons, WY, reduceIte, yA, yB, yC, yD, reduceCtorEq, yE, yF, W1, W1Q, W1B, WS, W3, yH, yI, yJ, yK, yL, yM, hpS, bxS, arS, stP hs3 hr3 hne2, mapN_len, hl03, hle3, b7, b0, b70, beq_self_eq_true, bne_self_eq_false, emb_bel, emb_solid, implies_true, AV.belL, cutNormal_normal]
      all_goals exact stJ_take hs2H hr2H hl03 hH3
    · simp only [if_neg hf2] at q4
      replace hs := hs3
      replace hr := hr3
      replace hne := hne2
      generalize (T.pair A B).ty = t1 at *
      generalize (T.pair B' A').ty = t2 at *
      have h := True.intro
      repeat' (first
       | (with_reducible first | apply bA | apply bB | apply bC | apply bD | apply bE | apply bF) <;> intro h
       | ((first | apply bG | apply bH); simp only [AV.norm, AV.normL, W2, W2Q, W2B, W3, yH, yI, yJ, yK, yL, yM, hpS, bxS, arS, stP hs3 hr3 hne2, mapN_len, hl03, hle3, b7, b0, b70, beq_self_eq_true, bne_self_eq_false, emb_bel, emb_solid, implies_true, AV.belL]; first | refine goCall_p (wakes13_ok) (.inl rfl) ?_ | refine goDCall_p (wakes13_ok) (.inl rfl) ?_ | refine fsCallD (q4 _ (by first|exact hs|simp<;>omega) (by first|exact hr|simp<;>omega)) (.inl rfl) (fun hb => hpS_bel (by first|exact hs|simp<;>omega) (by first|exact hr|simp<;>omega) hne hb) ?_)
       | refine go_drawF (id := 1) C_ok (fun _ => trivial) mixed 0 Try.f13.ntmps (by first | (simp; done) | (simp; omega)) rfl (by kernel_rfl) (by decide) ?_
       | refine go_drawF (id := 20) C_ok (fun _ => trivial) mixed 1 Try.f13.ntmps (by first | (simp; done) | (simp; omega)) rfl (by kernel_rfl) (by decide) ?_
       | refine goRound ?_ C_ok Try.f13.ntmps rfl (by decide)
       | skip) <;> simp only [h, ↓upd_eq, ↓envL_cons, WY, reduceIte, yA, yB, yC, yD, reduceCtorEq, yE, yF, W1, W1Q, W1B, WS, W3, yH, yI, yJ, yK, yL, yM, hpS, bxS, arS, stP hs3 hr3 hne2, mapN_len, hl03, hle3, b7, b0, b70, beq_self_eq_true, bne_self_eq_false, emb_bel, emb_solid, implies_true, AV.belL, cutNormal_normal]
      all_goals exact stJ_take hs2H hr2H hl03 hH3

end Go.Proofs.Ytdngjamjccjlmaa
