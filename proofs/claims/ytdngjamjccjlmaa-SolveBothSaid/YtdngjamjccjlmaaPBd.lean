/- Lemmas: rows of pairs, solved. No condition. -/
import Derived.Test.YtdngjamjccjlmaaB7
import Derived.Test.YtdngjamjccjlmaaPBc
import Derived.Test.YtdngjamjccjlmaaNG

set_option linter.unusedSimpArgs false
set_option linter.unusedVariables false
set_option maxHeartbeats 4000000
set_option maxRecDepth 100000
namespace Go.Proofs.Ytdngjamjccjlmaa
open Go Go.Ab
open Nat renaming reduceEqDiff → yA, reduceAdd → yB, reduceLT → yC, reduceLeDiff → yD, reduceMul → yE, reducePow → yF, reduceBEq → yG
open Int renaming reduceAdd → yH, reduceLT → yI, reduceToNat → yJ, reduceBEq → yK, reduceBNe → yL, reduceLE → yM
section
attribute [local irreducible] PCalls ACalls CallK GoCall GoDCall GoIf GoGb GoDGb GoO GoD GoX GoDX GoG GoDG GoGv GoDGv Go ALoop

def CSv : Cfg := { C with zwr := fun f => f == 45 }
theorem CSv_ok : CfgOK Try.prog CSv := C_ok
theorem CSv_ty (t : Nat) : CSv.ty t = C.ty t := rfl
def tyQ (p : T × T) : Pr := (p.1.ty, p.2.ty)
theorem rowQ_ty : ∀ l : List (T × T), rowQ (l.map tyQ) = (rowOf l).ty
  | [] => rfl
  | p :: l => by simp only [List.map_cons, rowQ, rowOf, T.ty, rowQ_ty l, twoT, tyQ]
structure SvS where
  i : Nat
  n : Nat
  ps : List (Nat × Nat)
  σ : Sto
structure SvI (k : Nat) (r : Int × Sto) (x : SvS) : Prop where
  len : x.i + x.ps.length = k
  row : RowN x.σ.L.st x.n x.ps
  good : GoodS x.σ
  lt : Lt2 x.σ.L.length x.ps
  seq : SeqB 65536 x.ps x.σ r
theorem solved_walk {H : List AObj} {l : List (T × T)} {G : List AObj} {s r : Nat} (hl : (l.map tyQ).length ≤ 12) (hs : s < G.length) (hr : r < G.length) (hne : r ≠ s) (hl0 : H.length ≤ G.length) (hnew : DCalls Try.prog 21 [.int .i64 65536] H (.bptr s 0) (hpS G s r 4 mem0 65536 0 0)) (ht : G.take H.length = H) (hbs : H.length ≤ s) (hbr : H.length ≤ r)
    {Z : List (Int × Int)} {n : Nat} {σ0 σ : Sto} {e : Int} {ps : List (Nat × Nat)}
    (hM : DCalls Try.prog 22 [.bptr s 0, emb (rowOf l).ty, .int .i64 4, .mp G.length] (hpS (G ++ [.map []]) s r 4 mem0 65536 0 0) (.tup [.int .i64 n, .int .i64 0]) (hpS (G ++ [.map (embM Z)]) s r σ0.v σ0.L 65536 σ0.cnt σ0.rd))
    (hlen : ps.length = (l.map tyQ).length) (hrow : RowN σ0.L.st n ps) (hg : GoodS σ0) (hlt : Lt2 σ0.L.length ps) (hq : SeqB 65536 ps σ0 (e, σ)) :
    DCalls Try.prog 57 [.sl ((l.map tyQ).map embQ) .no] H (.tup [.bptr s 0, .int .i64 n, .int .i64 e, .bool true]) (σ.heap (G ++ [.map (embM Z)]) s r 65536) := by
  have hle : ∀ k, (H.length ≤ G.length + k) = True := fun k => by simp only [eq_iff_iff, iff_true]; omega
  have hb0 : H.length ≤ H.length := Nat.le_refl _
  have r1 := row_ok (l.map tyQ) (by omega)
  rw [rowQ_ty] at r1
  unfold Sto.heap DCalls
  generalize l.map tyQ = l' at *
  refine acalls_text CSv_ok Try.func57 rfl (by decide) (Nat.le_of_ble_eq_true rfl) (by decide) fun ok => ?_
  rw [Try.results57]
  have h := True.intro
  repeat' (first
   | (with_reducible first | apply bA | apply bB | apply bC | apply bD | apply bE | apply bF) <;> intro h
   | ((first | apply bG | apply bH); simp only [AV.norm, AV.normL, W2, W2Q, CSv_ty, hpS, bxS, arS, stP hs hr hne, retD_ret, retD_normal, AV.bel, mapN_len, List.length_map, hb0, hl0, hle, emb_bel, implies_true, AV.belL, emb_mk0, retE_ret, bne_self_eq_false, beq_self_eq_true]; first | refine goCall_p (r1) (.inl rfl) ?_ | refine goDCall_p (r1) (.inl rfl) ?_ | refine fsCallD (hnew) (.inl rfl) (fun hb => new_bel (by simp) hbs hbr ht hb) ?_ | refine fsCallD (hM) (.inl rfl) (fun hb => belJ hs hr hne hl0 hb) ?_)
   | refine go_drawF (id := 18) CSv_ok (fun _ => trivial) mixed 0 Try.f57.ntmps (by first | (simp; done) | (simp; omega)) rfl (by kernel_rfl) (by decide) ?_
   | skip) <;> simp only [h, ↓upd_eq, ↓envL_cons, WY, reduceIte, yA, yB, yC, yD, reduceCtorEq, yE, yF, W1, W1Q, WS, CSv_ty, hpS, bxS, arS, stP hs hr hne, retD_ret, retD_normal, AV.bel, mapN_len, List.length_map, hb0, hl0, hle, emb_bel, implies_true, AV.belL, emb_mk0, retE_ret, bne_self_eq_false, beq_self_eq_true]
  refine aloop_trimF [10, 11, 0, 6, 8, 9] ?_
  simp only [List.map_cons, List.map_nil, ↓upd_eq, ↓envL_cons, WY, reduceIte, yA, yB, yC, yD, reduceCtorEq, yE, yF, W1, W1Q, WS]
  refine goLoopF 2 (fun x : SvS => [(10, .int .i64 x.n), (11, .int .i64 x.i)]) (fun x => hpS (G ++ [.map (embM Z)]) s r x.σ.v x.σ.L 65536 x.σ.cnt x.σ.rd) (SvI l'.length (e, σ)) (fun x => l'.length - x.i) CSv_ok ⟨0, n, ps, σ0⟩ rfl (by simp only [hpS, bxS, arS]) ⟨by simp only [hlen, Nat.zero_add], hrow, hg, hlt, hq⟩ (by decide) ?_
  clear hM hrow hg hlt hq hlen r1 h
  rintro ⟨i, at', ps, τ⟩ ⟨hlen, hrow, hg, hlt, hq⟩
  simp only at hlen hrow hg hlt hq
  simp only [List.drop_succ_cons, List.drop_zero, List.cons_append, List.nil_append]
  have hmax : l'.length ≤ maxLen := by rw [maxLen_val]; omega
  cases ps with
  | nil =>
    have e1 : (e, σ) = (0, τ) := hq
    simp only [Prod.mk.injEq] at e1
    obtain ⟨rfl, rfl⟩ := e1
    simp only [List.length_nil, Nat.add_zero] at hlen
    subst hlen
    have c0 : (l'.length < l'.length) = False := by simp
    have h := True.intro
    repeat' (first
     | (with_reducible first | apply bA | apply bB | apply bC | apply bD | apply bE | apply bF) <;> intro h
     | refine go_drawF (id := 18) CSv_ok (fun _ => trivial) mixed 0 Try.f57.ntmps (by first | (simp; done) | (simp; omega)) rfl (by kernel_rfl) (by decide) ?_
     | refine goRound ?_ CSv_ok Try.f57.ntmps rfl (by decide)
     | skip) <;> simp only [h, ↓upd_eq, ↓envL_cons, WY, reduceIte, yA, yB, yC, yD, reduceCtorEq, yE, yF, W1, W1Q, WS, W3, yH, yI, yJ, yK, yL, yM, CSv_ty, hpS, bxS, arS, stP hs hr hne, retD_ret, retD_normal, AV.bel, mapN_len, List.length_map, c0, hb0, hl0, hle, retE_ret, cutNormal_normal]
    all_goals exact ⟨rfl, rfl⟩
  | cons p ps =>
    obtain ⟨p1, p2⟩ := p
    simp only [List.length_cons] at hlen
    obtain ⟨k0, k1, h1, h2, h3, h4, h5, h6, h7, h8⟩ := hrow
    obtain ⟨m, ⟨rl, rr, re, τ'⟩, hrun, hres⟩ := hq
    obtain ⟨hp1, hp2⟩ := hlt _ List.mem_cons_self
    have hlt' : Lt2 τ.L.length ps := fun q hq => hlt q (List.mem_cons_of_mem _ hq)
    have hlp : Lt2 τ.L.length [(p1, p2)] := fun q hq => by rw [List.mem_singleton] at hq; subst hq; exact ⟨hp1, hp2⟩
    have hi : i < l'.length := by omega
    rw [Mem.st_len] at h1 h2 h3
    simp only at h7 hp1 hp2
    have q1 := fun (F : List AObj) (hs : s < F.length) (hr : r < F.length) => kids_in (F := F) (v := τ.v) (lim := 65536) (cnt := τ.cnt) (rd := τ.rd) hs hr hne hg.si.wf at' h1 (by rw [h5]; simp) (by rw [h5]; simp)
    have q2 := fun (F : List AObj) (hs : s < F.length) (hr : r < F.length) => kids_in (F := F) (v := τ.v) (lim := 65536) (cnt := τ.cnt) (rd := τ.rd) hs hr hne hg.si.wf k0 h2 (by rw [h7]; simp) (by rw [h7]; simp)
    rw [h5] at q1
    rw [h7] at q2
    simp only [kidI, List.map_cons, List.map_nil, I64] at q1 q2
    have q3 := fun (F : List AObj) (hs : s < F.length) (hr : r < F.length) => agree_ok (F := F) hs hr hne hg hp1 hp2 hrun
    unfold Sto.heap at q3
    simp only at q3 hres
    by_cases he : re = 0
    · subst he
      rw [if_pos rfl] at hres
      obtain ⟨g1, g2, _⟩ := run_sound m _ _ _ hg hlp hrun rfl
      simp only at g1 g2
      have hle2 := g2.len
      rw [Mem.st_len, Mem.st_len] at hle2
      have b1 : ((0 : Int) != 0) = false := rfl
      have h := True.intro
      repeat' (first
       | (with_reducible first | apply bA | apply bB | apply bC | apply bD | apply bE | apply bF) <;> intro h
       | ((first | apply bG | apply bH); simp only [AV.norm, AV.normL, W2, W2Q, W3, yH, yI, yJ, yK, yL, yM, CSv_ty, hpS, bxS, arS, stP hs hr hne, retD_ret, retD_normal, AV.bel, mapN_len, List.length_map, hi, hb0, hl0, hle, b1, beq_self_eq_true, bne_self_eq_false]; first  | refine fsCallR (q1 _ (by first|exact hs|simp<;>omega) (by first|exact hr|simp<;>omega)) (.inl rfl) ?_ | refine fsCallR (q2 _ (by first|exact hs|simp<;>omega) (by first|exact hr|simp<;>omega)) (.inl rfl) ?_ | refine goDCall_z rfl trivial (q3 _ (by first|exact hs|simp<;>omega) (by first|exact hr|simp<;>omega)) (.inl rfl) (fun hb => hpS_bel (by first|exact hs|simp<;>omega) (by first|exact hr|simp<;>omega) hne hb) ?_)
       | refine go_drawF (id := 18) CSv_ok (fun _ => trivial) mixed 0 Try.f57.ntmps (by first | (simp; done) | (simp; omega)) rfl (by kernel_rfl) (by decide) ?_
       | refine goRound ?_ CSv_ok Try.f57.ntmps rfl (by decide)
       | skip) <;> simp only [h, ↓upd_eq, ↓envL_cons, WY, reduceIte, yA, yB, yC, yD, reduceCtorEq, yE, yF, W1, W1Q, WS, W3, yH, yI, yJ, yK, yL, yM, CSv_ty, hpS, bxS, arS, stP hs hr hne, retD_ret, retD_normal, AV.bel, mapN_len, List.length_map, hi, hb0, hl0, hle, b1, beq_self_eq_true, bne_self_eq_false, cutNormal_normal]
      refine ⟨⟨i + 1, k1, ps, τ'⟩, ⟨by simp only; omega, h8.ext hg.si.wf g2, g1, hlt'.mono hle2, hres⟩, by simp only; omega, weakF ?_ ?_⟩
      · rfl
      · simp only [WK, ↓upd_eq, ↓envL_cons, yA, reduceIte, AV.bel, AV.belL, AObj.bel, AV.norm, AV.normL, yB, yC, wrap_succ hi hmax]
    · rw [if_neg he] at hres
      simp only [Prod.mk.injEq] at hres
      obtain ⟨rfl, rfl⟩ := hres
      have b1 : (e != 0) = true := by rw [bne_iff_ne]; exact he
      have h := True.intro
      repeat' (first
       | (with_reducible first | apply bA | apply bB | apply bC | apply bD | apply bE | apply bF) <;> intro h
       | ((first | apply bG | apply bH); simp only [AV.norm, AV.normL, W2, W2Q, W3, yH, yI, yJ, yK, yL, yM, CSv_ty, hpS, bxS, arS, stP hs hr hne, retD_ret, retD_normal, AV.bel, mapN_len, List.length_map, hi, hb0, hl0, hle, b1, beq_self_eq_true, bne_self_eq_false, retE_ret]; first  | refine fsCallR (q1 _ (by first|exact hs|simp<;>omega) (by first|exact hr|simp<;>omega)) (.inl rfl) ?_ | refine fsCallR (q2 _ (by first|exact hs|simp<;>omega) (by first|exact hr|simp<;>omega)) (.inl rfl) ?_ | refine goDCall_z rfl trivial (q3 _ (by first|exact hs|simp<;>omega) (by first|exact hr|simp<;>omega)) (.inl rfl) (fun hb => hpS_bel (by first|exact hs|simp<;>omega) (by first|exact hr|simp<;>omega) hne hb) ?_)
       | refine go_drawF (id := 18) CSv_ok (fun _ => trivial) mixed 0 Try.f57.ntmps (by first | (simp; done) | (simp; omega)) rfl (by kernel_rfl) (by decide) ?_
       | refine goRound ?_ CSv_ok Try.f57.ntmps rfl (by decide)
       | skip) <;> simp only [h, ↓upd_eq, ↓envL_cons, WY, reduceIte, yA, yB, yC, yD, reduceCtorEq, yE, yF, W1, W1Q, WS, W3, yH, yI, yJ, yK, yL, yM, CSv_ty, hpS, bxS, arS, stP hs hr hne, retD_ret, retD_normal, AV.bel, mapN_len, List.length_map, hi, hb0, hl0, hle, b1, beq_self_eq_true, bne_self_eq_false, retE_ret, cutNormal_normal]
      all_goals trace_state
end
section
theorem pairs_T : ∀ {l : List Pr}, (∀ p ∈ l, right p.1 = true ∧ right p.2 = true) → ∃ l' : List (T × T), l = l'.map tyQ
  | [], _ => ⟨[], rfl⟩
  | p :: l, h => by
    obtain ⟨a, ha⟩ := T.of_right p.1 (h p List.mem_cons_self).1
    obtain ⟨b, hb⟩ := T.of_right p.2 (h p List.mem_cons_self).2
    obtain ⟨l', e⟩ := pairs_T (l := l) fun q hq => h q (List.mem_cons_of_mem _ hq)
    exact ⟨(a, b) :: l', by rw [List.map_cons, tyQ, ← e, ← ha, ← hb]⟩
structure Small13 (l : List (T × T)) : Prop where
  len : l.length ≤ 12
  size : (rowOf l).size ≤ 225
  ok : (rowOf l).ok = true
  vars : ((rowOf l).varsF []).length ≤ 12
theorem small13_T {l : List Pr} (h : small13 l = true) : ∃ l' : List (T × T), l = l'.map tyQ ∧ Small13 l' := by
  simp only [small13, Bool.and_eq_true, decide_eq_true_eq] at h
  obtain ⟨⟨⟨h1, h2⟩, h3⟩, h4⟩ := h
  rw [allN_iff] at h2
  have hr : ∀ p ∈ l, right p.1 = true ∧ right p.2 = true := fun p hp => by
    obtain ⟨i, hi, rfl⟩ := List.getElem_of_mem hp
    have := h2 i hi
    simp only [smallQ, Bool.and_eq_true] at this
    have e : l.getD i default = l[i] := by simp [hi]
    rw [e] at this
    exact ⟨this.1.2, this.2⟩
  obtain ⟨l', rfl⟩ := pairs_T hr
  have hn := rowQ_nodes (l'.map tyQ)
  rw [rowQ_ty, nodes_size, List.length_map] at hn
  rw [List.length_map] at h1
  rw [rowQ_ty, varsT, T.varsF_ty] at h4
  refine ⟨l', rfl, h1, by omega, ?_, h4⟩
  have key : ∀ l' : List (T × T), (∀ p ∈ l'.map tyQ, right p.1 = true ∧ right p.2 = true) → (rowOf l').ok = true := by
    intro l'
    induction l' with
    | nil => intro _; rfl
    | cons p l' ih =>
      intro hr
      have h1 := hr (tyQ p) (by simp)
      simp only [tyQ, T.right_ty] at h1
      simp only [rowOf, T.ok, h1.1, h1.2, Bool.and_self, Bool.true_and]
      exact ih fun q hq => hr q (List.mem_cons_of_mem _ hq)
  exact key l' hr
structure SolvedF (l : List (T × T)) (n : Nat) (Z : List (Int × Int)) (σ0 : Sto) (ps : List (Nat × Nat)) (e : Int) (σ : Sto) : Prop where
  good0 : GoodS σ0
  nl : NoLink σ0.L.st
  hn : n < σ0.L.length
  tree : σ0.L.st.tT n = putS (fun k => .var (nu Z k)) (rowOf l)
  row : RowN σ0.L.st n ps
  pairs : ps.map (fun p => (σ0.L.st.tT p.1, σ0.L.st.tT p.2)) = l.map (fun p => (putS (fun k => .var (nu Z k)) p.1, putS (fun k => .var (nu Z k)) p.2))
  lt : Lt2 σ0.L.length ps
  vi : VI σ0.L.st Z
  dom : ∀ k, (rowOf l).has k = true → (mget Z k).isSome = true
  seq : SeqB 65536 ps σ0 (e, σ)
  good : GoodS σ
  stv : StV σ.L.st
  ext : Ext σ0.L.st σ.L.st
  he : e = 0 ∨ e = 4 ∨ e = 5
  len : σ.L.length ≤ 2000
  cnt1 : 0 ≤ σ.cnt
  cnt2 : σ.cnt ≤ 2000
  rd : σ.rd ≤ 1000000
theorem solved_st (H : List AObj) (l : List (T × T)) (hs : Small13 l) : ∃ G s r n Z σ0 ps e σ, s < G.length ∧ r < G.length ∧ r ≠ s ∧ H.length ≤ G.length ∧ G.take H.length = H ∧ H.length ≤ s ∧ H.length ≤ r ∧
    DCalls Try.prog 57 [.sl ((l.map tyQ).map embQ) .no] H (.tup [.bptr s 0, .int .i64 (n : Nat), .int .i64 e, .bool true]) (σ.heap G s r 65536) ∧ SolvedF l n Z σ0 ps e σ := by
  obtain ⟨G, s, r, hs1, hr, hne, hl, ht, hbs, hbr, hnew⟩ := new_st H 65536
  rw [show limOf 65536 = 65536 by decide] at hnew
  have hsz := hs.size
  have l1 := madeM_len 4 (rowOf l) mem0 []
  have l0 : mem0.length = 5 := rfl
  obtain ⟨s1, o1⟩ := madeM_ok 4 (rowOf l) mem0 [] SI.mem0 (VI_nil _)
  have hM1 := made_all (s := s) (r := r) (m := G.length) (lim := 65536) (rd := 0) (lvl := 4) hne (by omega) (by omega) (by decide) rfl (rowOf l) 4 mem0 0 [] SI.mem0 (VI_nil _) (by omega) (by omega) (by omega)
  have m1 := hM1.loc (j := 0) hs1 hr [AObj.map []] [AObj.map (embM (madeM 4 (rowOf l) mem0 []).2.1)] (by simp) rfl rfl
  have nl := madeM_nolink 4 (rowOf l) mem0 [] noLink0
  have hlt := o1.lt
  have htr := o1.wf.tT_of o1.lt o1.tree
  have hvi := o1.vi
  have hdom := o1.dom
  have hlv := o1.lvl
  have hold := o1.old
  generalize madeM 4 (rowOf l) mem0 [] = q at *
  obtain ⟨L, Z, n⟩ := q
  simp only at m1 nl hlt htr hvi hdom s1 l1 hlv hold
  obtain ⟨σ0, hσ⟩ : ∃ σ0 : Sto, σ0 = ⟨L, 4 + (L.length - mem0.length), 0 + ((L.length - mem0.length : Nat) : Int), 0⟩ := ⟨_, rfl⟩
  have hL : σ0.L = L := by rw [hσ]
  have hg : GoodS σ0 := by
    rw [hσ]
    refine ⟨s1, fun m hm => ?_⟩
    simp only at hm ⊢
    by_cases h5 : m < mem0.st.length
    · rw [St.kind, hold m h5, wf_mem0.leaf m h5] at hm
      simp only at hm
      rw [Mem.st_len] at h5
      omega
    · by_cases hml : m < L.st.length
      · rw [hlv m (by omega) hml hm]; omega
      · rw [St.nd_ge (by omega)]; decide
  have htr' : L.st.tT n = rowOf (l.map fun p => (putS (fun k => .var (nu Z k)) p.1, putS (fun k => .var (nu Z k)) p.2)) := by rw [htr, rowOf_put]
  obtain ⟨ps, c1, c2, c3⟩ := rowN_of s1.wf _ n hlt htr'
  have hpl : ps.length = (l.map tyQ).length := by
    have := congrArg List.length c2
    simpa using this
  rw [Mem.st_len] at c3 hlt
  -- how great it is
  have hwl : ∀ (ps : List (Nat × Nat)) (l : List (T × T)), ps.map (fun p => (L.st.tT p.1, L.st.tT p.2)) = l.map (fun p => (putS (fun k => .var (nu Z k)) p.1, putS (fun k => .var (nu Z k)) p.2)) → wL L.st ps ≤ (rowOf l).size := by
    intro ps
    induction ps with
    | nil => intro l _; exact Nat.zero_le _
    | cons p ps ih =>
      intro l h
      cases l with
      | nil => cases h
      | cons q l =>
        simp only [List.map_cons, List.cons.injEq, Prod.mk.injEq] at h
        have := ih l h.2
        have w1 : (L.st.tT p.1).wD ≤ q.1.size := by rw [h.1.1, wD_put _ (fun _ _ => rfl)]; exact wD_size _
        have w2 : (L.st.tT p.2).wD ≤ q.2.size := by rw [h.1.2, wD_put _ (fun _ _ => rfl)]; exact wD_size _
        simp only [wL, wP, rowOf, T.size]; omega
  have hw := hwl ps l c2
  have hfr := free_len L.st
  rw [Mem.st_len] at hfr
  have hl12 := hs.len
  rw [List.length_map] at hpl
  obtain ⟨⟨e, σ⟩, d1, d2⟩ := seq_ex (lim := 65536) (by omega) ps σ0 hg (by rw [hL]; exact nl.stv s1.wf) (by rw [hL]; exact c3) (by rw [hL]; omega) (by rw [hL]; omega) (by rw [hσ]; simp only; omega) (by rw [hL, hσ]; simp only; omega) (by rw [hσ]; simp only; omega)
  have b1 := d2.len
  have b2 := d2.cnt1
  have b3 := d2.cnt
  have b4 := d2.rd
  simp only [hL] at b1 b3
  have hM : DCalls Try.prog 22 [.bptr s 0, emb (rowOf l).ty, .int .i64 4, .mp G.length] (hpS (G ++ [.map []]) s r 4 mem0 65536 0 0) (.tup [.int .i64 n, .int .i64 0]) (hpS (G ++ [.map (embM Z)]) s r σ0.v σ0.L 65536 σ0.cnt σ0.rd) := by
    rw [hσ]; exact m1
  have hsw := solved_walk (l := l) (by rw [List.length_map]; omega) hs1 hr hne hl hnew ht hbs hbr hM (by rw [List.length_map]; exact hpl) (by rw [hL]; exact c1) hg (by rw [hL]; exact c3) d1
  refine ⟨G ++ [.map (embM Z)], s, r, n, Z, σ0, ps, e, σ, by simp; omega, by simp; omega, hne, by simp; omega, by rw [List.take_append_of_le_length hl]; exact ht, hbs, hbr, hsw, ?_⟩
  refine ⟨hg, by rw [hL]; exact nl, by rw [hL]; exact hlt, by rw [hL]; exact htr, by rw [hL]; exact c1, by rw [hL]; exact c2, by rw [hL]; exact c3, by rw [hL]; exact hvi, hdom, d1, d2.good, d2.stv, d2.ext, d2.e, by omega, ?_, ?_, ?_⟩
  · rw [hσ] at b2; simp only at b2; omega
  · rw [hσ] at b3; simp only at b3; omega
  · rw [hσ] at b4; simp only at b4; omega
end
end Go.Proofs.Ytdngjamjccjlmaa
