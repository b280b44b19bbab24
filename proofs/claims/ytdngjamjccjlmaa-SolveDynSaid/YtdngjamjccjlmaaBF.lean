/- Layer 13: what agrees with ? has variables of level zero alone. No condition. -/
import Derived.Test.YtdngjamjccjlmaaNL
import Derived.Test.YtdngjamjccjlmaaPBd
set_option linter.unusedSimpArgs false
set_option linter.unusedVariables false
set_option maxHeartbeats 4000000
set_option maxRecDepth 100000
namespace Go.Proofs.Ytdngjamjccjlmaa
open Go Go.Ab
open Nat (reduceEqDiff reduceAdd reduceLT reduceLeDiff reduceMul reducePow)
attribute [local irreducible] PCalls ACalls CallK GoCall GoDCall GoIf GoGb GoDGb GoO GoD GoX GoDX GoG GoDG GoGv GoDGv Go ALoop

/-- The level of a free variable. -/
theorem level_free {F : List AObj} {s r : Nat} (hs : s < F.length) (hr : r < F.length) (hne : r ≠ s) {τ : Sto} (hg : GoodS τ) {k : Nat} {l : Int} (hk : k < τ.L.length) (er : τ.L.st.root k = k) (h6 : τ.L.st.kind k = 6) (hl : (τ.L.st.nd k).level = l) :
    DCalls Try.prog 35 [.bptr s 0, .int .i64 k] (hpS F s r τ.v τ.L 65536 τ.cnt τ.rd) (.int .i64 l) (hpS F s r τ.v τ.L 65536 τ.cnt τ.rd) := by
  have h := level_in (v := τ.v) (lim := 65536) (cnt := τ.cnt) (rd := τ.rd) hs hr hne hg.si.wf k hk
  rw [er, if_pos h6, hl] at h
  exact h
theorem vars_Sto {F : List AObj} {s r : Nat} (hs : s < F.length) (hr : r < F.length) (hne : r ≠ s) {τ : Sto} (hg : GoodS τ) (hl : τ.L.length ≤ 1000000) (hrd : τ.rd ≤ 1000000000000) {n : Nat} (hn : n < τ.L.length) :
    DCalls Try.prog 23 [.bptr s 0, .int .i64 n] (hpS F s r τ.v τ.L 65536 τ.cnt τ.rd) (.sl ((kidI (τ.L.st.vars n)).map I64) .no) (hpS F s r (τ.mark n).v (τ.mark n).L 65536 (τ.mark n).cnt (τ.mark n).rd) :=
  vars_ok hs hr hne hg.si.wf hg.si.mb hl ⟨hg.si.rd0, hrd⟩ n hn
theorem solveDyn_ok (a b : Ty) (w : Int) : PCalls Try.prog 8 [emb a, emb b, .int .i64 w] (.bool true) := by
  have qm := small13_ok [(a, b)]
  simp only [List.map_cons, List.map_nil] at qm
  cases h1 : small13 [(a, b)] with
  | false =>
    rw [h1] at qm
    refine pcalls_text C_ok Try.func8 rfl (by decide) (Nat.le_of_ble_eq_true rfl) (by decide) rfl fun ok H => ?_
    rw [Try.results8]
    have h := True.intro
    repeat' (first
     | (with_reducible first | apply bA | apply bB | apply bC | apply bD | apply bE | apply bF) <;> intro h
     | ((first | apply bG | apply bH); simp only [AV.norm, AV.normL, W2, W2Q, List.length_map]; first | refine goCall_p (qm) (.inl rfl) ?_ | refine goDCall_p (qm) (.inl rfl) ?_)
     | skip) <;> simp only [h, ↓upd_eq, ↓envL_cons, WZ, reduceIte, reduceEqDiff, reduceAdd, reduceLT, reduceLeDiff, reduceCtorEq, reduceMul, reducePow, W1, W1Q, List.length_map]
  | true =>
  rw [h1] at qm
  obtain ⟨l', hl', hsm⟩ := small13_T h1
  obtain ⟨ta, tb, rfl, rfl, rfl⟩ : ∃ ta tb : T, a = ta.ty ∧ b = tb.ty ∧ l' = [(ta, tb)] := by
    match l', hl' with
    | [p], h => simp only [List.map_cons, List.map_nil, List.cons.injEq, and_true, tyQ, Prod.mk.injEq] at h; exact ⟨p.1, p.2, h.1, h.2, rfl⟩
  clear hl'
  have hsz := hsm.size
  simp only [rowOf, T.size] at hsz
  have hva : (ta.varsF []).length ≤ 12 := by
    have h2 := hsm.vars
    simp only [rowOf, T.varsF] at h2
    exact Nat.le_trans (varsF_le tb _) h2
  have hki := kint_ok w (n := 9) (by omega) (by omega)
  obtain ⟨K, hK, hKN⟩ := kint_nat w (n := 9) (by omega)
  rw [hK] at hki
  have w1 : IntKind.wrap .i64 (1 + (K : Int)) = ((1 + K : Nat) : Int) := by rw [wrap_i (by omega) (by omega)]; omega
  refine pcalls_text C_ok Try.func8 rfl (by decide) (Nat.le_of_ble_eq_true rfl) (by decide) rfl fun ok H => ?_
  rw [Try.results8]
  rw [initS_fs]
  have h := True.intro
  repeat' (first
   | (with_reducible first | apply bA | apply bB | apply bC | apply bD | apply bE | apply bF) <;> intro h
   | ((first | apply bG | apply bH); simp only [AV.norm, AV.normL, W2, W2Q, emb_bel, emb_solid, implies_true]; first | refine goCall_p (qm) (.inl rfl) ?_ | refine goDCall_p (qm) (.inl rfl) ?_)
   | skip) <;> simp only [h, ↓upd_eq, ↓envL_cons, WY, reduceIte, reduceEqDiff, reduceAdd, reduceLT, reduceLeDiff, reduceCtorEq, reduceMul, reducePow, W1, W1Q, WS, emb_bel, emb_solid, implies_true]
  obtain ⟨B0, hB0⟩ : ∃ B0 : List AObj, B0 = [AObj.box [.int .i64 ta.ty.kind, .int .i64 ta.ty.num, .sl (ta.ty.kids.map emb) .no], AObj.box [.int .i64 tb.ty.kind, .int .i64 tb.ty.num, .sl (tb.ty.kids.map emb) .no]] := ⟨_, rfl⟩
  rw [← hB0]
  refine fsNew (by simp) fun G s r hs hr hne hl ht hbs hbr => ?_
  rw [show limOf 65536 = 65536 by decide]
  have hT := st_old (q := H.length) (F := H ++ B0) (x := AObj.box [.int .i64 ta.ty.kind, .int .i64 ta.ty.num, .sl (ta.ty.kids.map emb) .no]) (by rw [hB0, app_get0c rfl]; rfl) ht hbs hbr
  have hU := st_old (q := H.length + 1) (F := H ++ B0) (x := AObj.box [.int .i64 tb.ty.kind, .int .i64 tb.ty.num, .sl (tb.ty.kids.map emb) .no]) (by rw [hB0, app_getkc rfl]; rfl) ht hbs hbr
  have hl0 : H.length ≤ G.length := by rw [List.length_append] at hl; omega
  have hle : ∀ k, (H.length ≤ G.length + k) = True := fun k => by simp only [eq_iff_iff, iff_true]; omega
  have hHt : G.take H.length = H := take_low ht (by simp) (List.take_left' rfl)
  have hbs' : H.length ≤ s := by rw [List.length_append] at hbs; omega
  have hbr' : H.length ≤ r := by rw [List.length_append] at hbr; omega
  have hGs : s < G.length := hs
  have hGr : r < G.length := hr
  have l1 := madeM_len ((1 + K : Nat) : Int) ta mem0 []
  have l2 := madeM_len ((1 + K : Nat) : Int) tb (madeM ((1 + K : Nat) : Int) ta mem0 []).1 []
  have l0 : mem0.length = 5 := rfl
  obtain ⟨s1, o1⟩ := madeM_ok ((1 + K : Nat) : Int) ta mem0 [] SI.mem0 (VI_nil _)
  have hM1 := made_all (s := s) (r := r) (m := G.length) (lim := 65536) (rd := 0) (lvl := ((1 + K : Nat) : Int)) hne (by omega) (by omega) (by omega) rfl ta 4 mem0 0 [] SI.mem0 (VI_nil _) (by omega) (by omega) (by omega)
  have hM2 := made_all (s := s) (r := r) (m := G.length + 1) (lim := 65536) (rd := 0) (lvl := ((1 + K : Nat) : Int)) hne (by omega) (by omega) (by omega) rfl tb (4 + ((madeM ((1 + K : Nat) : Int) ta mem0 []).1.length - mem0.length)) (madeM ((1 + K : Nat) : Int) ta mem0 []).1 (0 + (((madeM ((1 + K : Nat) : Int) ta mem0 []).1.length - mem0.length : Nat) : Int)) [] s1 (VI_nil _) (by omega) (by omega) (by omega)
  have hin := fun v c hc => dyn_init (a := ta) (b := tb) (lv := ((1 + K : Nat) : Int)) (by omega) (by omega) hva (L1 := (madeM ((1 + K : Nat) : Int) ta mem0 []).1) (L2 := (madeM ((1 + K : Nat) : Int) tb (madeM ((1 + K : Nat) : Int) ta mem0 []).1 []).1) (Z1 := (madeM ((1 + K : Nat) : Int) ta mem0 []).2.1) (Z2 := (madeM ((1 + K : Nat) : Int) tb (madeM ((1 + K : Nat) : Int) ta mem0 []).1 []).2.1) (n := (madeM ((1 + K : Nat) : Int) ta mem0 []).2.2) (mm := (madeM ((1 + K : Nat) : Int) tb (madeM ((1 + K : Nat) : Int) ta mem0 []).1 []).2.2) rfl rfl v (c := c) hc
  have m1 := hM1.loc (j := 0) hs hr [AObj.map []] [AObj.map (embM (madeM ((1 + K : Nat) : Int) ta mem0 []).2.1)] (by simp) rfl rfl
  have m2 := hM2.loc (j := 1) hs hr [AObj.map (embM (madeM ((1 + K : Nat) : Int) ta mem0 []).2.1), AObj.map []] [AObj.map (embM (madeM ((1 + K : Nat) : Int) ta mem0 []).2.1), AObj.map (embM (madeM ((1 + K : Nat) : Int) tb (madeM ((1 + K : Nat) : Int) ta mem0 []).1 []).2.1)] (by simp) rfl rfl
  clear hM1 hM2 o1 s1
  generalize madeM ((1 + K : Nat) : Int) tb (madeM ((1 + K : Nat) : Int) ta mem0 []).1 [] = q at *
  generalize madeM ((1 + K : Nat) : Int) ta mem0 [] = p at *
  obtain ⟨L1, Z1, n⟩ := p
  obtain ⟨L2, Z2, mm⟩ := q
  simp only at l1 l2 m1 m2 hin
  obtain ⟨hg0, hnl, hrn, σ1, hrun, hg1, hn1, hrd1, hlen1, hnd, h12, hI⟩ := hin (4 + (L1.length - mem0.length) + (L2.length - L1.length)) (0 + ((L1.length - mem0.length : Nat) : Int) + ((L2.length - L1.length : Nat) : Int)) (by omega)
  generalize (4 + (L1.length - mem0.length) + (L2.length - L1.length)) = v2 at *
  generalize (0 + ((L1.length - mem0.length : Nat) : Int) + ((L2.length - L1.length : Nat) : Int)) = c2 at *
  have q1 := fun (F : List AObj) (hs : s < F.length) (hr : r < F.length) => agree_ok (F := F) hs hr hne hg0 (x := n) (y := 4) hnl (by simp only; omega) hrun
  have q2 := fun (F : List AObj) (hs : s < F.length) (hr : r < F.length) => vars_Sto (F := F) hs hr hne hg1 (by omega) (by omega) hn1
  unfold Sto.heap at q1
  simp only at q1
  generalize σ1.L.st.vars n = vs at *
  generalize hσ2 : σ1.mark n = σ2 at *
  have hmax : vs.length ≤ maxLen := by rw [maxLen_val]; omega
  have h := True.intro
  repeat' (first
   | (with_reducible first | apply bA | apply bB | apply bC | apply bD | apply bE | apply bF) <;> intro h
   | ((first | apply bG | apply bH); simp only [AV.norm, AV.normL, W2, W2Q, hpS, bxS, arS, stP hs hr hne, retD_ret, retD_normal, AV.bel, mapN_len, hT, hU, hl0, hle, w1, emb_solid, emb_bel, implies_true, AV.belL, ints_norm, kidI_len, List.length_map, beq_self_eq_true, bne_self_eq_false]; first | refine goCall_p (hki) (.inl rfl) ?_ | refine goDCall_p (hki) (.inl rfl) ?_ | refine fsCallD (m1) (.inl rfl) (fun hb => belJ hs hr hne hl0 hb) ?_ | refine fsCallD (m2) (.inl rfl) (fun hb => belJ hs hr hne hl0 hb) ?_ | refine fsCallD (q1 _ (by first|exact hs|simp<;>omega) (by first|exact hr|simp<;>omega)) (.inl rfl) (fun hb => hpS_bel (by first|exact hs|simp<;>omega) (by first|exact hr|simp<;>omega) hne hb) ?_ | refine fsCallD (q2 _ (by first|exact hs|simp<;>omega) (by first|exact hr|simp<;>omega)) (.inl rfl) (fun hb => hpS_bel (by first|exact hs|simp<;>omega) (by first|exact hr|simp<;>omega) hne hb) ?_)
   | skip) <;> simp only [h, ↓upd_eq, ↓envL_cons, WY, reduceIte, reduceEqDiff, reduceAdd, reduceLT, reduceLeDiff, reduceCtorEq, reduceMul, reducePow, W1, W1Q, WS, hpS, bxS, arS, stP hs hr hne, retD_ret, retD_normal, AV.bel, mapN_len, hT, hU, hl0, hle, w1, emb_solid, emb_bel, implies_true, AV.belL, ints_norm, kidI_len, List.length_map, beq_self_eq_true, bne_self_eq_false]
  clear q1 q2 m1 m2 hin hrun hg0 hg1 hσ2 hT hU
  refine aloop_trimF [17, 7, 11, 16] ?_
  simp only [List.map_cons, List.map_nil, ↓upd_eq, ↓envL_cons, WY, reduceIte, reduceEqDiff, reduceAdd, reduceLT, reduceLeDiff, reduceCtorEq, reduceMul, reducePow, W1, W1Q, WS]
  refine goLoopF 1 (fun x : Nat × Sto => [(17, .int .i64 x.1)]) (fun x => hpS (G ++ [.map (embM Z1), .map (embM Z2)]) s r x.2.v x.2.L 65536 x.2.cnt x.2.rd) (fun x => x.1 ≤ vs.length ∧ DynI vs mm x.1 x.2) (fun x => vs.length - x.1) C_ok (0, σ2) rfl (by simp only [hpS, bxS, arS]) ⟨Nat.zero_le _, hI⟩ (by decide) ?_
  clear hI
  rintro ⟨i, τ⟩ ⟨hi, hI⟩
  simp only at hi hI
  simp only [List.drop_succ_cons, List.drop_zero, List.cons_append, List.nil_append]
  by_cases hlt : i < vs.length
  · have hvm : vs.getD i 0 ∈ vs := by simp [hlt]
    obtain ⟨v1, v2⟩ := hI.lt _ hvm
    have v3 := (hI.away i (Nat.le_refl _) hlt).1
    have v4 := hI.lev _ hvm
    have v5 := hI.mlt
    rw [Mem.st_len] at v1 v5
    have q1 := fun (F : List AObj) (hs : s < F.length) (hr : r < F.length) => level_free (F := F) hs hr hne hI.good v1 (root_none v3) v2 v4
    obtain ⟨m, ⟨rl, rr, re, τ'⟩, h1, h2, h3⟩ := dyn_step hnd h12 hI hlt
    have q2 := fun (F : List AObj) (hs : s < F.length) (hr : r < F.length) => agree_ok (F := F) hs hr hne hI.good v5 v1 h1
    unfold Sto.heap at q2
    simp only at q2 h2 h3
    have b7 : (re == 7) = false := by rw [beq_eq_false_iff_ne]; exact h2
    have hget := kidI_get hlt
    generalize vs.getD i 0 = x at *
    have h := True.intro
    repeat' (first
     | (with_reducible first | apply bA | apply bB | apply bC | apply bD | apply bE | apply bF) <;> intro h
     | ((first | apply bG | apply bH); simp only [AV.norm, AV.normL, W2, W2Q, hpS, bxS, arS, stP hs hr hne, retD_ret, retD_normal, AV.bel, mapN_len, hl0, hle, hlt, b7, hget, emb_solid, emb_bel, implies_true, AV.belL, ints_norm, kidI_len, List.length_map, beq_self_eq_true, bne_self_eq_false]; first  | refine fsCallR (q1 _ (by first|exact hs|simp<;>omega) (by first|exact hr|simp<;>omega)) (.inl rfl) ?_ | refine fsCallD (q2 _ (by first|exact hs|simp<;>omega) (by first|exact hr|simp<;>omega)) (.inl rfl) (fun hb => hpS_bel (by first|exact hs|simp<;>omega) (by first|exact hr|simp<;>omega) hne hb) ?_)
     | skip) <;> simp only [h, ↓upd_eq, ↓envL_cons, WY, reduceIte, reduceEqDiff, reduceAdd, reduceLT, reduceLeDiff, reduceCtorEq, reduceMul, reducePow, W1, W1Q, WS, hpS, bxS, arS, stP hs hr hne, retD_ret, retD_normal, AV.bel, mapN_len, hl0, hle, hlt, b7, hget, emb_solid, emb_bel, implies_true, AV.belL, ints_norm, kidI_len, List.length_map, beq_self_eq_true, bne_self_eq_false]
    refine ⟨(i + 1, τ'), ⟨hlt, h3⟩, by simp only; omega, weakF ?_ ?_⟩
    · rfl
    · simp only [WK, ↓upd_eq, ↓envL_cons, Nat.reduceEqDiff, reduceIte, AV.bel, AV.belL, AObj.bel, AV.norm, AV.normL, Nat.reduceAdd, Nat.reduceLT, wrap_succ hlt hmax]
  · have he : i = vs.length := by omega
    subst he
    have c0 : (vs.length < vs.length) = False := by simp
    have h := True.intro
    repeat' (first
     | (with_reducible first | apply bA | apply bB | apply bC | apply bD | apply bE | apply bF) <;> intro h
     | skip) <;> simp only [h, ↓upd_eq, ↓envL_cons, WY, reduceIte, reduceEqDiff, reduceAdd, reduceLT, reduceLeDiff, reduceCtorEq, reduceMul, reducePow, W1, W1Q, WS, hpS, bxS, arS, stP hs hr hne, retD_ret, retD_normal, AV.bel, mapN_len, hl0, hle, c0, kidI_len, List.length_map]
    refine aloop_trimF [21, 7, 16] ?_
    simp only [List.map_cons, List.map_nil, ↓upd_eq, ↓envL_cons, WY, reduceIte, reduceEqDiff, reduceAdd, reduceLT, reduceLeDiff, reduceCtorEq, reduceMul, reducePow, W1, W1Q, WS]
    refine goLoopF 1 (fun x : Nat × Sto => [(21, .int .i64 x.1)]) (fun x => hpS (G ++ [.map (embM Z1), .map (embM Z2)]) s r x.2.v x.2.L 65536 x.2.cnt x.2.rd) (fun x => x.1 ≤ vs.length ∧ GoodS x.2 ∧ x.2.L.st = τ.L.st ∧ x.2.rd ≤ 5000000 + x.1) (fun x => vs.length - x.1) C_ok (0, τ) rfl (by simp only [hpS, bxS, arS]) ⟨Nat.zero_le _, hI.good, rfl, by have := hI.rd; simp only; omega⟩ (by decide) ?_
    rintro ⟨i, τ1⟩ ⟨hi2, hg1, hst, hrd⟩
    simp only at hi2 hg1 hst hrd
    simp only [List.drop_succ_cons, List.drop_zero, List.cons_append, List.nil_append]
    by_cases hlt : i < vs.length
    · have hvm : vs.getD i 0 ∈ vs := by simp [hlt]
      obtain ⟨v1, v2⟩ := hI.lt _ hvm
      have hlen := congrArg List.length hst
      rw [Mem.st_len, Mem.st_len] at hlen
      have hlen2 := hI.len
      have v1' : vs.getD i 0 < τ1.L.length := by rw [Mem.st_len] at v1; omega
      have q1 := fun (F : List AObj) (hs : s < F.length) (hr : r < F.length) => vars_Sto (F := F) hs hr hne hg1 (by omega) (by omega) v1'
      have hend := fun k hk => dyn_end hI hvm (k := k) hk
      rw [hst] at q1
      have hg2 := hg1.mark (vs.getD i 0)
      have hst2 : (τ1.mark (vs.getD i 0)).L.st = τ.L.st := by rw [Sto.mark1_st, hst]
      have hlen3 : (τ1.mark (vs.getD i 0)).L.length = τ.L.length := by rw [Sto.mark1_len, hlen]
      have hrd2 : (τ1.mark (vs.getD i 0)).rd = τ1.rd + 1 := rfl
      have hmax2 : (τ.L.st.vars (vs.getD i 0)).length ≤ maxLen := by
        rw [maxLen_val]; exact Nat.le_trans (List.length_filter_le _ _) (Nat.le_trans (all_len hI.good.si.wf (by rw [Mem.st_len] at v1; exact v1)) (by omega))
      have hget := kidI_get hlt
      generalize τ1.mark (vs.getD i 0) = τ2 at *
      generalize τ.L.st.vars (vs.getD i 0) = ks at *
      generalize vs.getD i 0 = x at *
      have h := True.intro
      repeat' (first
       | (with_reducible first | apply bA | apply bB | apply bC | apply bD | apply bE | apply bF) <;> intro h
       | ((first | apply bG | apply bH); simp only [AV.norm, AV.normL, W2, W2Q, hpS, bxS, arS, stP hs hr hne, retD_ret, retD_normal, AV.bel, mapN_len, hl0, hle, hlt, hget, ints_norm, kidI_len, List.length_map]; first  | refine fsCallD (q1 _ (by first|exact hs|simp<;>omega) (by first|exact hr|simp<;>omega)) (.inl rfl) (fun hb => hpS_bel (by first|exact hs|simp<;>omega) (by first|exact hr|simp<;>omega) hne hb) ?_)
       | skip) <;> simp only [h, ↓upd_eq, ↓envL_cons, WY, reduceIte, reduceEqDiff, reduceAdd, reduceLT, reduceLeDiff, reduceCtorEq, reduceMul, reducePow, W1, W1Q, WS, hpS, bxS, arS, stP hs hr hne, retD_ret, retD_normal, AV.bel, mapN_len, hl0, hle, hlt, hget, ints_norm, kidI_len, List.length_map]
      refine aloop_trimF [23, 7, 16, 21, 22] ?_
      simp only [List.map_cons, List.map_nil, ↓upd_eq, ↓envL_cons, WY, reduceIte, reduceEqDiff, reduceAdd, reduceLT, reduceLeDiff, reduceCtorEq, reduceMul, reducePow, W1, W1Q, WS]
      refine goLoopF 1 (fun j : Nat => [(23, .int .i64 j)]) (fun _ => hpS (G ++ [.map (embM Z1), .map (embM Z2)]) s r τ2.v τ2.L 65536 τ2.cnt τ2.rd) (fun j => j ≤ ks.length) (fun j => ks.length - j) C_ok 0 rfl (by simp only [hpS, bxS, arS]) (Nat.zero_le _) (by decide) ?_
      intro j hj
      simp only [List.drop_succ_cons, List.drop_zero, List.cons_append, List.nil_append]
      by_cases hlt2 : j < ks.length
      · have hkm : ks.getD j 0 ∈ ks := by simp [hlt2]
        obtain ⟨e1, e2, e3, e4⟩ := hend _ hkm
        rw [Mem.st_len] at e1
        have q2 := fun (F : List AObj) (hs : s < F.length) (hr : r < F.length) => level_free (F := F) hs hr hne hg2 (k := ks.getD j 0) (l := 0) (by omega) (by rw [hst2]; exact e2) (by rw [hst2]; exact e3) (by rw [hst2]; exact e4)
        have hget2 := kidI_get hlt2
        generalize ks.getD j 0 = y at *
        have h := True.intro
        repeat' (first
         | (with_reducible first | apply bA | apply bB | apply bC | apply bD | apply bE | apply bF) <;> intro h
         | ((first | apply bG | apply bH); simp only [AV.norm, AV.normL, W2, W2Q, hpS, bxS, arS, stP hs hr hne, retD_ret, retD_normal, AV.bel, mapN_len, hl0, hle, hlt2, hget2, kidI_len, List.length_map, beq_self_eq_true, bne_self_eq_false]; first  | refine fsCallR (q2 _ (by first|exact hs|simp<;>omega) (by first|exact hr|simp<;>omega)) (.inl rfl) ?_)
         | skip) <;> simp only [h, ↓upd_eq, ↓envL_cons, WY, reduceIte, reduceEqDiff, reduceAdd, reduceLT, reduceLeDiff, reduceCtorEq, reduceMul, reducePow, W1, W1Q, WS, hpS, bxS, arS, stP hs hr hne, retD_ret, retD_normal, AV.bel, mapN_len, hl0, hle, hlt2, hget2, kidI_len, List.length_map, beq_self_eq_true, bne_self_eq_false]
        refine ⟨j + 1, hlt2, by omega, weakF rfl ?_⟩
        simp only [WK, ↓upd_eq, ↓envL_cons, Nat.reduceEqDiff, reduceIte, AV.bel, AV.belL, AObj.bel, AV.norm, AV.normL, Nat.reduceAdd, Nat.reduceLT, wrap_succ hlt2 hmax2]
      · have c1 : (j < ks.length) = False := by simp [hlt2]
        have h := True.intro
        repeat' (first
         | (with_reducible first | apply bA | apply bB | apply bC | apply bD | apply bE | apply bF) <;> intro h
         | skip) <;> simp only [h, ↓upd_eq, ↓envL_cons, WY, reduceIte, reduceEqDiff, reduceAdd, reduceLT, reduceLeDiff, reduceCtorEq, reduceMul, reducePow, W1, W1Q, WS, hpS, bxS, arS, stP hs hr hne, retD_ret, retD_normal, AV.bel, mapN_len, hl0, hle, c1, kidI_len, List.length_map]
        refine ⟨(i + 1, τ2), ⟨hlt, hg2, hst2, by simp only; omega⟩, by simp only; omega, weakF rfl ?_⟩
        simp only [WK, ↓upd_eq, ↓envL_cons, Nat.reduceEqDiff, reduceIte, AV.bel, AV.belL, AObj.bel, AV.norm, AV.normL, Nat.reduceAdd, Nat.reduceLT, wrap_succ hlt hmax]
    · have he : i = vs.length := by omega
      subst he
      have h := True.intro
      repeat' (first
       | (with_reducible first | apply bA | apply bB | apply bC | apply bD | apply bE | apply bF) <;> intro h
       | ((first | apply bG | apply bH); simp only [AV.norm, AV.normL, W2, W2Q, hpS, bxS, arS, stP hs hr hne, retD_ret, retD_normal, AV.bel, mapN_len, hl0, hle, c0, kidI_len, List.length_map]; first | refine goCall_p (wakes13_ok) (.inl rfl) ?_ | refine goDCall_p (wakes13_ok) (.inl rfl) ?_)
       | skip) <;> simp only [h, ↓upd_eq, ↓envL_cons, WY, reduceIte, reduceEqDiff, reduceAdd, reduceLT, reduceLeDiff, reduceCtorEq, reduceMul, reducePow, W1, W1Q, WS, hpS, bxS, arS, stP hs hr hne, retD_ret, retD_normal, AV.bel, mapN_len, hl0, hle, c0, kidI_len, List.length_map]
      all_goals exact stJ_take hbs' hbr' hl0 hHt

end Go.Proofs.Ytdngjamjccjlmaa
