/- Layer 13: pairs that were made to agree do. No condition. -/
import Derived.Test.YtdngjamjccjlmaaNH
import Derived.Test.YtdngjamjccjlmaaPFa
set_option linter.unusedSimpArgs false
set_option linter.unusedVariables false
set_option maxHeartbeats 4000000
set_option maxRecDepth 100000
namespace Go.Proofs.Ytdngjamjccjlmaa
open Go Go.Ab
open Nat (reduceEqDiff reduceAdd reduceLT reduceLeDiff reduceMul reducePow)
attribute [local irreducible] PCalls ACalls CallK GoCall GoDCall GoIf GoGb GoDGb GoO GoD GoX GoDX GoG GoDG GoGv GoDGv Go ALoop

theorem sound_read {F : List AObj} {s r : Nat} (hs : s < F.length) (hr : r < F.length) (hne : r ≠ s) {l : List (T × T)} {n : Nat} {Z : List (Int × Int)} {σ0 : Sto} {ps : List (Nat × Nat)} {e : Int} {σ : Sto} (hF : SolvedF l n Z σ0 ps e σ) :
    DCalls Try.prog 30 [.bptr s 0, .int .i64 (n : Nat)] (σ.heap F s r 65536) (if ((σ.L.st.tT n).size : Int) ≤ 65536 - σ.cnt then .tup [emb (σ.L.st.tT n).ty, .int .i64 0] else .tup [emb (.mk 0 0 []), .int .i64 7])
      (hpS F s r σ.v σ.L 65536 (if ((σ.L.st.tT n).size : Int) ≤ 65536 - σ.cnt then σ.cnt + (σ.L.st.tT n).size else σ.cnt) σ.rd) := by
  have hn : n < σ.L.st.length := Nat.lt_of_lt_of_le (by rw [Mem.st_len]; exact hF.hn) hF.ext.len
  have h1 := hF.cnt1
  have h2 := hF.cnt2
  have h := read_gen (F := F) (s := s) (r := r) (v := σ.v) (L := σ.L) (lim := 65536) (cnt := σ.cnt) (rd := σ.rd) hs hr hne hF.good.si.wf n (by rw [Mem.st_len] at hn; exact hn) ⟨h1, by omega, by omega⟩
  rw [hF.good.si.wf.tT_ty n hn, nodes_size] at h
  exact h
theorem solveSound_ok (l : List Pr) (m : List Ty) : PCalls Try.prog 12 [.sl (l.map embQ) .no, .sl (m.map emb) .no] (.bool true) := by
  cases h1 : small13 l with
  | false =>
    refine pcalls_text C_ok Try.func12 rfl (by decide) (Nat.le_of_ble_eq_true rfl) (by decide) rfl fun ok H => ?_
    rw [Try.results12]
    have h := True.intro
    repeat' (first
     | (with_reducible first | apply bA | apply bB | apply bC | apply bD | apply bE | apply bF) <;> intro h
     | ((first | apply bG | apply bH); simp only [AV.norm, AV.normL, W2, W2Q, W2B, h1, List.length_map]; first | refine goCall_p (small13_ok _) (.inl rfl) ?_ | refine goCall_p (smallW_ok _) (.inl rfl) ?_ | refine goCall_p (fineW_ok _) (.inl rfl) ?_ | refine goDCall_p (small13_ok _) (.inl rfl) ?_ | refine goDCall_p (smallW_ok _) (.inl rfl) ?_ | refine goDCall_p (fineW_ok _) (.inl rfl) ?_)
     | refine go_draw (id := 11) C_ok (fun _ => trivial) mixed 1 Try.f12.ntmps rfl (by kernel_rfl) (by decide) ?_
     | refine go_draw (id := 17) C_ok (fun _ => trivial) mixed 0 Try.f12.ntmps rfl (by kernel_rfl) (by decide) ?_
     | skip) <;> simp only [h, ↓upd_eq, ↓envL_cons, WZ, reduceIte, reduceEqDiff, reduceAdd, reduceLT, reduceLeDiff, reduceCtorEq, reduceMul, reducePow, W1, W1Q, W1B, h1, List.length_map]
  | true =>
  cases h2 : small m with
  | false =>
    refine pcalls_text C_ok Try.func12 rfl (by decide) (Nat.le_of_ble_eq_true rfl) (by decide) rfl fun ok H => ?_
    rw [Try.results12]
    have h := True.intro
    repeat' (first
     | (with_reducible first | apply bA | apply bB | apply bC | apply bD | apply bE | apply bF) <;> intro h
     | ((first | apply bG | apply bH); simp only [AV.norm, AV.normL, W2, W2Q, W2B, h1, h2, List.length_map]; first | refine goCall_p (small13_ok _) (.inl rfl) ?_ | refine goCall_p (smallW_ok _) (.inl rfl) ?_ | refine goCall_p (fineW_ok _) (.inl rfl) ?_ | refine goDCall_p (small13_ok _) (.inl rfl) ?_ | refine goDCall_p (smallW_ok _) (.inl rfl) ?_ | refine goDCall_p (fineW_ok _) (.inl rfl) ?_)
     | refine go_draw (id := 11) C_ok (fun _ => trivial) mixed 1 Try.f12.ntmps rfl (by kernel_rfl) (by decide) ?_
     | refine go_draw (id := 17) C_ok (fun _ => trivial) mixed 0 Try.f12.ntmps rfl (by kernel_rfl) (by decide) ?_
     | skip) <;> simp only [h, ↓upd_eq, ↓envL_cons, WZ, reduceIte, reduceEqDiff, reduceAdd, reduceLT, reduceLeDiff, reduceCtorEq, reduceMul, reducePow, W1, W1Q, W1B, h1, h2, List.length_map]
  | true =>
  by_cases h3 : (m.length : Int) > 10
  · have c3 : ((m.length : Int) > 10) = True := by simp [h3]
    refine pcalls_text C_ok Try.func12 rfl (by decide) (Nat.le_of_ble_eq_true rfl) (by decide) rfl fun ok H => ?_
    rw [Try.results12]
    have h := True.intro
    repeat' (first
     | (with_reducible first | apply bA | apply bB | apply bC | apply bD | apply bE | apply bF) <;> intro h
     | ((first | apply bG | apply bH); simp only [AV.norm, AV.normL, W2, W2Q, W2B, h1, h2, c3, List.length_map]; first | refine goCall_p (small13_ok _) (.inl rfl) ?_ | refine goCall_p (smallW_ok _) (.inl rfl) ?_ | refine goCall_p (fineW_ok _) (.inl rfl) ?_ | refine goDCall_p (small13_ok _) (.inl rfl) ?_ | refine goDCall_p (smallW_ok _) (.inl rfl) ?_ | refine goDCall_p (fineW_ok _) (.inl rfl) ?_)
     | refine go_draw (id := 11) C_ok (fun _ => trivial) mixed 1 Try.f12.ntmps rfl (by kernel_rfl) (by decide) ?_
     | refine go_draw (id := 17) C_ok (fun _ => trivial) mixed 0 Try.f12.ntmps rfl (by kernel_rfl) (by decide) ?_
     | skip) <;> simp only [h, ↓upd_eq, ↓envL_cons, WZ, reduceIte, reduceEqDiff, reduceAdd, reduceLT, reduceLeDiff, reduceCtorEq, reduceMul, reducePow, W1, W1Q, W1B, h1, h2, c3, List.length_map]
  have c3 : ((m.length : Int) > 10) = False := by simp only [eq_iff_iff, iff_false]; exact h3
  have hm10 : m.length ≤ 10 := by omega
  cases h4 : fineW m with
  | false =>
    refine pcalls_text C_ok Try.func12 rfl (by decide) (Nat.le_of_ble_eq_true rfl) (by decide) rfl fun ok H => ?_
    rw [Try.results12]
    have h := True.intro
    repeat' (first
     | (with_reducible first | apply bA | apply bB | apply bC | apply bD | apply bE | apply bF) <;> intro h
     | ((first | apply bG | apply bH); simp only [AV.norm, AV.normL, W2, W2Q, W2B, h1, h2, c3, h4, List.length_map]; first | refine goCall_p (small13_ok _) (.inl rfl) ?_ | refine goCall_p (smallW_ok _) (.inl rfl) ?_ | refine goCall_p (fineW_ok _) (.inl rfl) ?_ | refine goDCall_p (small13_ok _) (.inl rfl) ?_ | refine goDCall_p (smallW_ok _) (.inl rfl) ?_ | refine goDCall_p (fineW_ok _) (.inl rfl) ?_)
     | refine go_draw (id := 11) C_ok (fun _ => trivial) mixed 1 Try.f12.ntmps rfl (by kernel_rfl) (by decide) ?_
     | refine go_draw (id := 17) C_ok (fun _ => trivial) mixed 0 Try.f12.ntmps rfl (by kernel_rfl) (by decide) ?_
     | skip) <;> simp only [h, ↓upd_eq, ↓envL_cons, WZ, reduceIte, reduceEqDiff, reduceAdd, reduceLT, reduceLeDiff, reduceCtorEq, reduceMul, reducePow, W1, W1Q, W1B, h1, h2, c3, h4, List.length_map]
  | true =>
  obtain ⟨l, rfl, hsm⟩ := small13_T h1
  have hmr : ∀ y ∈ m, right y = true := fun y hy => by
    have h4' := h4
    simp only [fineW, Bool.and_eq_true] at h4'
    exact rightL_mem h4'.2 hy
  have hl12 := hsm.len
  refine pcalls_text C_ok Try.func12 rfl (by decide) (Nat.le_of_ble_eq_true rfl) (by decide) rfl fun ok H => ?_
  rw [Try.results12]
  obtain ⟨G, s, r, n, Z, σ0, ps, e, σ, hs, hr, hne, hl, ht, hbs, hbr, hsol, hF⟩ := solved_st H l hsm
  rw [initS_fs]
  have hb0 : H.length ≤ H.length := Nat.le_refl _
  have hle : ∀ k, (H.length ≤ G.length + k) = True := fun k => by simp only [eq_iff_iff, iff_true]; omega
  have qr := fun (F : List AObj) (hs : s < F.length) (hr : r < F.length) => sound_read hs hr hne hF
  unfold Sto.heap at hsol qr
  by_cases he : e = 0
  · subst he
    have hl2 := hF.len
    have hn : n < σ.L.st.length := Nat.lt_of_lt_of_le (by rw [Mem.st_len]; exact hF.hn) hF.ext.len
    have hxo := hF.good.si.wf.tT_ok (by rw [Mem.st_len]; omega) hn
    have hc1 := hF.cnt1
    have hc2 := hF.cnt2
    have b0 : ((0 : Int) != 0) = false := rfl
    by_cases hfit : ((σ.L.st.tT n).size : Int) ≤ 65536 - σ.cnt
    · simp only [if_pos hfit] at qr
      have hxr : right (σ.L.st.tT n).ty = true := by rw [T.right_ty]; exact hxo
      have qc := closing_ok (σ.L.st.tT n).ty m (by rw [nodes_size]; omega) (by omega) hmr
      rw [varsT_T] at qc
      have hB := statB_okBs hxo hmr true
      have qs := subst_ok (σ.L.st.tT n).ty (statB ((σ.L.st.tT n).varsF []) m true)
      rw [substR, if_pos ⟨hxr, hB⟩, tOf_ty] at qs
      have hso := closing_okT hxo hmr
      have hag := fun p hp => hF.sound m (p := p) hp
      have hrow := hF.rowf
      have hpl : ps.length = l.length := by
        have := congrArg List.length hF.pairs
        simpa using this
      generalize sigB (statB ((σ.L.st.tT n).varsF []) m true) = τ at *
      generalize statB ((σ.L.st.tT n).varsF []) m true = bs at *
      have hu : putS τ (σ.L.st.tT n) = rowOf (ps.map fun p => (putS τ (σ.L.st.tT p.1), putS τ (σ.L.st.tT p.2))) := by
        rw [hrow, rowOf_put, List.map_map]; rfl
      obtain ⟨Lu, hLu⟩ : ∃ Lu, Lu = ps.map fun p => (putS τ (σ.L.st.tT p.1), putS τ (σ.L.st.tT p.2)) := ⟨_, rfl⟩
      rw [← hLu] at hu
      have hll : Lu.length = l.length := by rw [hLu, List.length_map, hpl]
      have hqa : ∀ i, i < l.length → PCalls Try.prog 52 [emb (Lu.getD i default).1.ty, emb (Lu.getD i default).2.ty] (.bool true) := fun i hi => by
        have hm : Lu.getD i default ∈ Lu := by rw [List.getD_eq_getElem?_getD, List.getElem?_eq_getElem (by omega)]; exact List.getElem_mem _
        rw [hu] at hso
        obtain ⟨o1, o2⟩ := rowOf_ok hso hm
        have := pagree_ok (Lu.getD i default).1.ty (Lu.getD i default).2.ty
        rw [T.right_ty, T.right_ty, o1, o2, T.agree_ty] at this
        rw [hLu] at hm
        obtain ⟨p, hp, e⟩ := List.mem_map.1 hm
        rw [← hLu] at e
        rw [← e] at this ⊢
        rw [hag p hp] at this
        exact this
      rw [hu] at qs
      have hdr := fun i (hi : i < l.length) => rowOf_ty_drop (l := Lu) (i := i) (by omega)
      clear hrow hso hu hag hB hLu
      generalize (σ.L.st.tT n).size = N at *
      generalize (σ.L.st.tT n).ty = t at *
      have h := True.intro
      repeat' (first
       | (with_reducible first | apply bA | apply bB | apply bC | apply bD | apply bE | apply bF) <;> intro h
       | ((first | apply bG | apply bH); simp only [AV.norm, AV.normL, W2, W2Q, W2B, hpS, bxS, arS, stP hs hr hne, retD_ret, retD_normal, AV.bel, mapN_len, h1, h2, c3, h4, hb0, hl, hle, b0, List.length_map, beq_self_eq_true, bne_self_eq_false, implies_true, AV.belL, emb_bel, emb_solid, mapB_norm, emb_norm]; first | refine goCall_p (small13_ok _) (.inl rfl) ?_ | refine goCall_p (smallW_ok _) (.inl rfl) ?_ | refine goCall_p (fineW_ok _) (.inl rfl) ?_ | refine goCall_p (qc) (.inl rfl) ?_ | refine goCall_p (qs) (.inl rfl) ?_ | refine goDCall_p (small13_ok _) (.inl rfl) ?_ | refine goDCall_p (smallW_ok _) (.inl rfl) ?_ | refine goDCall_p (fineW_ok _) (.inl rfl) ?_ | refine goDCall_p (qc) (.inl rfl) ?_ | refine goDCall_p (qs) (.inl rfl) ?_ | refine fsCallD (hsol) (.inl rfl) (fun hb => new_bel (by simp) hbs hbr ht hb) ?_ | refine fsCallD (qr _ (by first|exact hs|simp<;>omega) (by first|exact hr|simp<;>omega)) (.inl rfl) (fun hb => hpS_bel (by first|exact hs|simp<;>omega) (by first|exact hr|simp<;>omega) hne hb) ?_)
       | refine go_drawF (id := 11) C_ok (fun _ => trivial) mixed 1 Try.f12.ntmps (by first | (simp; done) | (simp; omega)) rfl (by kernel_rfl) (by decide) ?_
       | refine go_drawF (id := 17) C_ok (fun _ => trivial) mixed 0 Try.f12.ntmps (by first | (simp; done) | (simp; omega)) rfl (by kernel_rfl) (by decide) ?_
       | skip) <;> simp only [h, ↓upd_eq, ↓envL_cons, WY, reduceIte, reduceEqDiff, reduceAdd, reduceLT, reduceLeDiff, reduceCtorEq, reduceMul, reducePow, W1, W1Q, W1B, WS, hpS, bxS, arS, stP hs hr hne, retD_ret, retD_normal, AV.bel, mapN_len, h1, h2, c3, h4, hb0, hl, hle, b0, List.length_map, beq_self_eq_true, bne_self_eq_false, implies_true, AV.belL, emb_bel, emb_solid, mapB_norm, emb_norm]
      refine aloop_trimF [13, 0, 11] ?_
      simp only [List.map_cons, List.map_nil, ↓upd_eq, ↓envL_cons, WY, reduceIte, reduceEqDiff, reduceAdd, reduceLT, reduceLeDiff, reduceCtorEq, reduceMul, reducePow, W1, W1Q, W1B, WS]
      refine goLoopF 1 (fun i : Nat => [(13, .int .i64 i)]) (fun i => hpS (G ++ [.box [.int .i64 t.kind, .int .i64 t.num, .sl (t.kids.map emb) .no], .box [.int .i64 (rowOf (Lu.drop i)).ty.kind, .int .i64 (rowOf (Lu.drop i)).ty.num, .sl ((rowOf (Lu.drop i)).ty.kids.map emb) .no]]) s r σ.v σ.L 65536 (σ.cnt + N) σ.rd) (fun i => i ≤ l.length) (fun i => l.length - i) C_ok 0 rfl (by simp only [hpS, bxS, arS, List.drop_zero]) (Nat.zero_le _) (by decide) ?_
      clear hsol qr hF hn hxo h h1
      intro i hi
      simp only [List.drop_succ_cons, List.drop_zero, List.cons_append, List.nil_append]
      have hmax : l.length ≤ maxLen := by rw [maxLen_val]; omega
      by_cases hlt : i < l.length
      · have qa := hqa i hlt
        have e := hdr i hlt
        obtain ⟨t2, ht2⟩ : ∃ t2, t2 = (rowOf (Lu.drop (i + 1))).ty := ⟨_, rfl⟩
        rw [← ht2] at e
        generalize (Lu.getD i default).1.ty = ta at *
        generalize (Lu.getD i default).2.ty = tb at *
        rw [e]
        have h := True.intro
        repeat' (first
         | (with_reducible first | apply bA | apply bB | apply bC | apply bD | apply bE | apply bF) <;> intro h
         | ((first | apply bG | apply bH); simp only [AV.norm, AV.normL, W2, W2Q, W2B, Go.Ab.W3, Int.reduceAdd, Int.reduceLT, Int.reduceToNat, Int.reduceBEq, Int.reduceBNe, Int.reduceLE, hpS, bxS, arS, stP hs hr hne, retD_ret, retD_normal, AV.bel, mapN_len, hlt, hb0, hl, hle, emb_cells, emb_bel, emb_solid, implies_true, List.length_map, List.map_cons, List.map_nil, bne_self_eq_false, beq_self_eq_true]; first | refine goCall_p (qa) (.inl rfl) ?_ | refine goDCall_p (qa) (.inl rfl) ?_)
         | refine go_drawF (id := 11) C_ok (fun _ => trivial) mixed 1 Try.f12.ntmps (by first | (simp; done) | (simp; omega)) rfl (by kernel_rfl) (by decide) ?_
         | refine go_drawF (id := 17) C_ok (fun _ => trivial) mixed 0 Try.f12.ntmps (by first | (simp; done) | (simp; omega)) rfl (by kernel_rfl) (by decide) ?_
         | refine goRound ?_ C_ok Try.f12.ntmps rfl (by decide)
         | skip) <;> simp only [h, ↓upd_eq, ↓envL_cons, WY, reduceIte, reduceEqDiff, reduceAdd, reduceLT, reduceLeDiff, reduceCtorEq, reduceMul, reducePow, W1, W1Q, W1B, WS, Go.Ab.W3, Int.reduceAdd, Int.reduceLT, Int.reduceToNat, Int.reduceBEq, Int.reduceBNe, Int.reduceLE, hpS, bxS, arS, stP hs hr hne, retD_ret, retD_normal, AV.bel, mapN_len, hlt, hb0, hl, hle, emb_cells, emb_bel, emb_solid, implies_true, List.length_map, List.map_cons, List.map_nil, bne_self_eq_false, beq_self_eq_true, cutNormal_normal]
        refine ⟨i + 1, hlt, by omega, weakF ?_ ?_⟩
        · rw [← ht2]
        · simp only [WK, ↓upd_eq, ↓envL_cons, Nat.reduceEqDiff, reduceIte, AV.bel, AV.belL, AObj.bel, AV.norm, AV.normL, Nat.reduceAdd, Nat.reduceLT, wrap_succ hlt hmax]
      · have hlt' : (i < l.length) = False := by simp [hlt]
        have h := True.intro
        repeat' (first
         | (with_reducible first | apply bA | apply bB | apply bC | apply bD | apply bE | apply bF) <;> intro h
         | ((first | apply bG | apply bH); simp only [AV.norm, AV.normL, W2, W2Q, W2B, hpS, bxS, arS, stP hs hr hne, retD_ret, retD_normal, AV.bel, mapN_len, hlt', hb0, hl, hle, List.length_map]; first | refine goCall_p (wakes13_ok) (.inl rfl) ?_ | refine goDCall_p (wakes13_ok) (.inl rfl) ?_)
         | refine go_drawF (id := 11) C_ok (fun _ => trivial) mixed 1 Try.f12.ntmps (by first | (simp; done) | (simp; omega)) rfl (by kernel_rfl) (by decide) ?_
         | refine go_drawF (id := 17) C_ok (fun _ => trivial) mixed 0 Try.f12.ntmps (by first | (simp; done) | (simp; omega)) rfl (by kernel_rfl) (by decide) ?_
         | skip) <;> simp only [h, ↓upd_eq, ↓envL_cons, WY, reduceIte, reduceEqDiff, reduceAdd, reduceLT, reduceLeDiff, reduceCtorEq, reduceMul, reducePow, W1, W1Q, W1B, WS, hpS, bxS, arS, stP hs hr hne, retD_ret, retD_normal, AV.bel, mapN_len, hlt', hb0, hl, hle, List.length_map]
        all_goals exact stJ_take hbs hbr hl ht
    · simp only [if_neg hfit] at qr
      have b7 : ((7 : Int) != 0) = true := rfl
      have h := True.intro
      repeat' (first
       | (with_reducible first | apply bA | apply bB | apply bC | apply bD | apply bE | apply bF) <;> intro h
       | ((first | apply bG | apply bH); simp only [AV.norm, AV.normL, W2, W2Q, W2B, hpS, bxS, arS, stP hs hr hne, retD_ret, retD_normal, AV.bel, mapN_len, h1, h2, c3, h4, hb0, hl, hle, b0, b7, List.length_map, beq_self_eq_true, bne_self_eq_false, implies_true, AV.belL, emb_bel, emb_solid]; first | refine goCall_p (small13_ok _) (.inl rfl) ?_ | refine goCall_p (smallW_ok _) (.inl rfl) ?_ | refine goCall_p (fineW_ok _) (.inl rfl) ?_ | refine goCall_p (wakes13_ok) (.inl rfl) ?_ | refine goDCall_p (small13_ok _) (.inl rfl) ?_ | refine goDCall_p (smallW_ok _) (.inl rfl) ?_ | refine goDCall_p (fineW_ok _) (.inl rfl) ?_ | refine goDCall_p (wakes13_ok) (.inl rfl) ?_ | refine fsCallD (hsol) (.inl rfl) (fun hb => new_bel (by simp) hbs hbr ht hb) ?_ | refine fsCallD (qr _ (by first|exact hs|simp<;>omega) (by first|exact hr|simp<;>omega)) (.inl rfl) (fun hb => hpS_bel (by first|exact hs|simp<;>omega) (by first|exact hr|simp<;>omega) hne hb) ?_)
       | refine go_drawF (id := 11) C_ok (fun _ => trivial) mixed 1 Try.f12.ntmps (by first | (simp; done) | (simp; omega)) rfl (by kernel_rfl) (by decide) ?_
       | refine go_drawF (id := 17) C_ok (fun _ => trivial) mixed 0 Try.f12.ntmps (by first | (simp; done) | (simp; omega)) rfl (by kernel_rfl) (by decide) ?_
       | skip) <;> simp only [h, ↓upd_eq, ↓envL_cons, WY, reduceIte, reduceEqDiff, reduceAdd, reduceLT, reduceLeDiff, reduceCtorEq, reduceMul, reducePow, W1, W1Q, W1B, WS, hpS, bxS, arS, stP hs hr hne, retD_ret, retD_normal, AV.bel, mapN_len, h1, h2, c3, h4, hb0, hl, hle, b0, b7, List.length_map, beq_self_eq_true, bne_self_eq_false, implies_true, AV.belL, emb_bel, emb_solid]
      all_goals exact stJ_take hbs hbr hl ht
  · have b0 : (e != 0) = true := by rw [bne_iff_ne]; exact he
    rcases hF.he with rfl | rfl | rfl
    · exact absurd rfl he
    · have h := True.intro
      repeat' (first
       | (with_reducible first | apply bA | apply bB | apply bC | apply bD | apply bE | apply bF) <;> intro h
       | ((first | apply bG | apply bH); simp only [AV.norm, AV.normL, W2, W2Q, W2B, hpS, bxS, arS, stP hs hr hne, retD_ret, retD_normal, AV.bel, mapN_len, h1, h2, c3, h4, hb0, hl, hle, b0, List.length_map, beq_self_eq_true, implies_true, AV.belL, emb_bel, emb_solid]; first | refine goCall_p (small13_ok _) (.inl rfl) ?_ | refine goCall_p (smallW_ok _) (.inl rfl) ?_ | refine goCall_p (fineW_ok _) (.inl rfl) ?_ | refine goCall_p (wakes13_ok) (.inl rfl) ?_ | refine goDCall_p (small13_ok _) (.inl rfl) ?_ | refine goDCall_p (smallW_ok _) (.inl rfl) ?_ | refine goDCall_p (fineW_ok _) (.inl rfl) ?_ | refine goDCall_p (wakes13_ok) (.inl rfl) ?_ | refine fsCallD (hsol) (.inl rfl) (fun hb => new_bel (by simp) hbs hbr ht hb) ?_)
       | refine go_drawF (id := 11) C_ok (fun _ => trivial) mixed 1 Try.f12.ntmps (by first | (simp; done) | (simp; omega)) rfl (by kernel_rfl) (by decide) ?_
       | refine go_drawF (id := 17) C_ok (fun _ => trivial) mixed 0 Try.f12.ntmps (by first | (simp; done) | (simp; omega)) rfl (by kernel_rfl) (by decide) ?_
       | skip) <;> simp only [h, ↓upd_eq, ↓envL_cons, WY, reduceIte, reduceEqDiff, reduceAdd, reduceLT, reduceLeDiff, reduceCtorEq, reduceMul, reducePow, W1, W1Q, W1B, WS, hpS, bxS, arS, stP hs hr hne, retD_ret, retD_normal, AV.bel, mapN_len, h1, h2, c3, h4, hb0, hl, hle, b0, List.length_map, beq_self_eq_true, implies_true, AV.belL, emb_bel, emb_solid]
      all_goals exact st_take hbs hbr ht
    · have b5 : ((5 : Int) == 4) = false := rfl
      have h := True.intro
      repeat' (first
       | (with_reducible first | apply bA | apply bB | apply bC | apply bD | apply bE | apply bF) <;> intro h
       | ((first | apply bG | apply bH); simp only [AV.norm, AV.normL, W2, W2Q, W2B, hpS, bxS, arS, stP hs hr hne, retD_ret, retD_normal, AV.bel, mapN_len, h1, h2, c3, h4, hb0, hl, hle, b0, b5, List.length_map, beq_self_eq_true, implies_true, AV.belL, emb_bel, emb_solid]; first | refine goCall_p (small13_ok _) (.inl rfl) ?_ | refine goCall_p (smallW_ok _) (.inl rfl) ?_ | refine goCall_p (fineW_ok _) (.inl rfl) ?_ | refine goCall_p (wakes13_ok) (.inl rfl) ?_ | refine goDCall_p (small13_ok _) (.inl rfl) ?_ | refine goDCall_p (smallW_ok _) (.inl rfl) ?_ | refine goDCall_p (fineW_ok _) (.inl rfl) ?_ | refine goDCall_p (wakes13_ok) (.inl rfl) ?_ | refine fsCallD (hsol) (.inl rfl) (fun hb => new_bel (by simp) hbs hbr ht hb) ?_)
       | refine go_drawF (id := 11) C_ok (fun _ => trivial) mixed 1 Try.f12.ntmps (by first | (simp; done) | (simp; omega)) rfl (by kernel_rfl) (by decide) ?_
       | refine go_drawF (id := 17) C_ok (fun _ => trivial) mixed 0 Try.f12.ntmps (by first | (simp; done) | (simp; omega)) rfl (by kernel_rfl) (by decide) ?_
       | skip) <;> simp only [h, ↓upd_eq, ↓envL_cons, WY, reduceIte, reduceEqDiff, reduceAdd, reduceLT, reduceLeDiff, reduceCtorEq, reduceMul, reducePow, W1, W1Q, W1B, WS, hpS, bxS, arS, stP hs hr hne, retD_ret, retD_normal, AV.bel, mapN_len, h1, h2, c3, h4, hb0, hl, hle, b0, b5, List.length_map, beq_self_eq_true, implies_true, AV.belL, emb_bel, emb_solid]
      all_goals exact st_take hbs hbr ht

end Go.Proofs.Ytdngjamjccjlmaa
