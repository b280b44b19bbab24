/- Walks: layer 12: a type with variables made in a store. No condition. -/
import Derived.Test.YtdngjamjccjlmaaW16
set_option linter.unusedSimpArgs false
set_option linter.unusedVariables false
set_option maxHeartbeats 4000000
set_option maxRecDepth 100000
namespace Go.Proofs.Ytdngjamjccjlmaa
open Go Go.Ab
open Nat renaming reduceEqDiff → yA, reduceAdd → yB, reduceLT → yC, reduceLeDiff → yD, reduceMul → yE, reducePow → yF, reduceBEq → yG
open Int renaming reduceAdd → yH, reduceLT → yI, reduceToNat → yJ, reduceBEq → yK, reduceBNe → yL, reduceLE → yM
attribute [local irreducible] PCalls ACalls CallK GoCall GoDCall GoIf GoGb GoDGb GoO GoD GoX GoDX GoG GoDG GoGv GoDGv Go ALoop

def madeM (lvl : Int) : T → Mem → List (Int × Int) → Mem × List (Int × Int) × Nat
  | .var k, S, vs => match mget vs k with
    | some n => (S, vs, n.toNat)
    | none => (S ++ [(⟨6, lvl, none, []⟩, 0)], mput vs k S.length, S.length)
  | .base k, S, vs => (S, vs, k.val)
  | .dyn, S, vs => (S, vs, 4)
  | .pair a b, S, vs => let p := madeM lvl a S vs; let q := madeM lvl b p.1 p.2.1; (q.1 ++ [(⟨7, 0, none, [p.2.2, q.2.2]⟩, 0)], q.2.1, q.1.length)
  | .fn a b, S, vs => let p := madeM lvl a S vs; let q := madeM lvl b p.1 p.2.1; (q.1 ++ [(⟨9, 0, none, [p.2.2, q.2.2]⟩, 0)], q.2.1, q.1.length)
  | .list a, S, vs => let p := madeM lvl a S vs; (p.1 ++ [(⟨8, 0, none, [p.2.2]⟩, 0)], p.2.1, p.1.length)
theorem madeM_st (lvl : Int) : ∀ (t : T) (L : Mem) (vs : List (Int × Int)), (madeM lvl t L vs).1.st = (madeN lvl t L.st vs).1 ∧ (madeM lvl t L vs).2 = (madeN lvl t L.st vs).2 := by
  intro t
  induction t with
  | base k => intro L vs; exact ⟨rfl, rfl⟩
  | dyn => intro L vs; exact ⟨rfl, rfl⟩
  | var k =>
    intro L vs
    cases e : mget vs k with
    | some n => simp only [madeM, madeN, e, and_self]
    | none => simp only [madeM, madeN, e, Mem.st_app, Mem.st_len, and_self]
  | pair a b ih1 ih2 =>
    intro L vs
    have h1 := ih1 L vs
    have h2 := ih2 (madeM lvl a L vs).1 (madeM lvl a L vs).2.1
    rw [h1.1, h1.2] at h2
    constructor
    · simp only [madeM, madeN, Mem.st_app, h1.2, h2.1, h2.2]
    · simp only [madeM, madeN, h1.2, h2.2]; rw [← Mem.st_len, h2.1]
  | fn a b ih1 ih2 =>
    intro L vs
    have h1 := ih1 L vs
    have h2 := ih2 (madeM lvl a L vs).1 (madeM lvl a L vs).2.1
    rw [h1.1, h1.2] at h2
    constructor
    · simp only [madeM, madeN, Mem.st_app, h1.2, h2.1, h2.2]
    · simp only [madeM, madeN, h1.2, h2.2]; rw [← Mem.st_len, h2.1]
  | list a ih1 =>
    intro L vs
    have h1 := ih1 L vs
    constructor
    · simp only [madeM, madeN, Mem.st_app, h1.1, h1.2]
    · simp only [madeM, madeN, h1.2]; rw [← Mem.st_len, h1.1]
theorem madeM_mb (lvl : Int) {rd : Int} (hr : 0 ≤ rd) : ∀ (t : T) (L : Mem) (vs : List (Int × Int)), MB L rd → MB (madeM lvl t L vs).1 rd := by
  intro t
  induction t with
  | base k => intro L vs h; exact h
  | dyn => intro L vs h; exact h
  | var k =>
    intro L vs h
    simp only [madeM]
    split
    · exact h
    · exact h.add hr _
  | pair a b ih1 ih2 => intro L vs h; exact (ih2 _ _ (ih1 _ _ h)).add hr _
  | fn a b ih1 ih2 => intro L vs h; exact (ih2 _ _ (ih1 _ _ h)).add hr _
  | list a ih1 => intro L vs h; exact (ih1 _ _ h).add hr _
theorem madeM_len (lvl : Int) : ∀ (t : T) (L : Mem) (vs : List (Int × Int)), L.length ≤ (madeM lvl t L vs).1.length ∧ (madeM lvl t L vs).1.length ≤ L.length + t.size := by
  intro t
  induction t with
  | base k => intro L vs; exact ⟨Nat.le_refl _, by simp [madeM]⟩
  | dyn => intro L vs; exact ⟨Nat.le_refl _, by simp [madeM]⟩
  | var k =>
    intro L vs
    simp only [madeM]
    split
    · exact ⟨Nat.le_refl _, by simp⟩
    · simp [T.size]
  | pair a b ih1 ih2 =>
    intro L vs
    have h1 := ih1 L vs
    have h2 := ih2 (madeM lvl a L vs).1 (madeM lvl a L vs).2.1
    simp only [madeM, List.length_append, List.length_cons, List.length_nil, T.size]; omega
  | fn a b ih1 ih2 =>
    intro L vs
    have h1 := ih1 L vs
    have h2 := ih2 (madeM lvl a L vs).1 (madeM lvl a L vs).2.1
    simp only [madeM, List.length_append, List.length_cons, List.length_nil, T.size]; omega
  | list a ih1 =>
    intro L vs
    have h1 := ih1 L vs
    simp only [madeM, List.length_append, List.length_cons, List.length_nil, T.size]; omega
theorem madeM_ok (lvl : Int) {rd : Int} (t : T) (L : Mem) (vs : List (Int × Int)) (h : SI L rd) (hv : VI L.st vs) :
    SI (madeM lvl t L vs).1 rd ∧ MadeOK lvl L.st vs t (madeM lvl t L vs).1.st (madeM lvl t L vs).2.1 (madeM lvl t L vs).2.2 := by
  have h1 := madeM_st lvl t L vs
  have h2 := madeN_ok lvl t L.st vs h.wf hv
  rw [← h1.1, ← h1.2] at h2
  exact ⟨⟨h2.wf, madeM_mb lvl h.rd0 t L vs h.mb, h.rd0⟩, h2⟩
theorem bel_setX {F : List AObj} {b m : Nat} {X : AObj} (hX : X.bel b = true) (h : ∀ x ∈ F.take b, x.bel b = true) : ∀ x ∈ (F.set m X).take b, x.bel b = true := by
  intro x hx
  rw [List.take_set] at hx
  rcases List.mem_or_eq_of_mem_set hx with hx | rfl
  · exact h x hx
  · exact hX
section
variable {F : List AObj} {s r m : Nat}
theorem hpM_set {J : List AObj} {X Y : AObj} {bx ar : AObj} (hm : m < F.length) (hsm : s ≠ m) (hrm : r ≠ m) : (stF (F.set m X ++ J) s r bx ar).set m Y = stF (F.set m Y ++ J) s r bx ar := by
  rw [stF_set_o hsm hrm, app_set (by simpa using hm), List.set_set]
theorem hpM_get {J : List AObj} {X : AObj} {bx ar : AObj} (hm : m < F.length) (hsm : s ≠ m) (hrm : r ≠ m) : (stF (F.set m X ++ J) s r bx ar)[m]? = some X := by
  rw [stF_o hsm hrm, List.getElem?_append_left (by simpa using hm), set_get0 hm]
theorem hpM_bel {J : List AObj} {X Y : AObj} {v v' b : Nat} {L L' : Mem} {lim cnt rd lim' cnt' rd' : Int} (hm : m < F.length) (hsm : s ≠ m) (hrm : r ≠ m) (hs : s < F.length) (hr : r < F.length) (hne : r ≠ s) (hY : Y.bel b = true)
    (h : ∀ x ∈ (hpS (F.set m X ++ J) s r v L lim cnt rd).take b, x.bel b = true) : ∀ x ∈ (hpS (F.set m Y ++ J) s r v' L' lim' cnt' rd').take b, x.bel b = true := by
  have h1 := hpS_bel (v' := v') (L' := L') (lim' := lim') (cnt' := cnt') (rd' := rd') (F := F.set m X ++ J) (by simp; omega) (by simp; omega) hne h
  have h2 := bel_setX (m := m) hY h1
  unfold hpS at h2 ⊢
  rwa [hpM_set hm hsm hrm] at h2
theorem hpM_bel0 {X Y : AObj} {v v' b : Nat} {L L' : Mem} {lim cnt rd lim' cnt' rd' : Int} (hm : m < F.length) (hsm : s ≠ m) (hrm : r ≠ m) (hs : s < F.length) (hr : r < F.length) (hne : r ≠ s) (hY : Y.bel b = true)
    (h : ∀ x ∈ (hpS (F.set m X) s r v L lim cnt rd).take b, x.bel b = true) : ∀ x ∈ (hpS (F.set m Y) s r v' L' lim' cnt' rd').take b, x.bel b = true := by
  have h1 := hpM_bel (J := []) (X := X) (Y := Y) (v := v) (v' := v') (L := L) (L' := L') (lim := lim) (cnt := cnt) (rd := rd) (lim' := lim') (cnt' := cnt') (rd' := rd') (b := b) hm hsm hrm hs hr hne hY
  simp only [List.append_nil] at h1
  exact h1 h
theorem stPN {G : List AObj} {N : Nat} (hN : G.length = N) (hs : s < N) (hr : r < N) (hne : r ≠ s) :
    (∀ bx ar, (stF G s r bx ar).length = N) ∧ (∀ L bx ar, (stF (G ++ L) s r bx ar).length = N + L.length) ∧
    (∀ L bx ar, stF G s r bx ar ++ L = stF (G ++ L) s r bx ar) ∧ (∀ L M bx ar, stF (G ++ L) s r bx ar ++ M = stF (G ++ (L ++ M)) s r bx ar) ∧
    (∀ bx ar, (stF G s r bx ar)[s]? = some bx) ∧ (∀ L bx ar, (stF (G ++ L) s r bx ar)[s]? = some bx) ∧
    (∀ bx ar, (stF G s r bx ar)[r]? = some ar) ∧ (∀ L bx ar, (stF (G ++ L) s r bx ar)[r]? = some ar) ∧
    (∀ G bx ar x, (stF G s r bx ar).set s x = stF G s r x ar) ∧ (∀ G bx ar x, (stF G s r bx ar).set r x = stF G s r bx x) ∧
    (∀ L bx ar, (stF (G ++ L) s r bx ar)[N]? = L[0]?) ∧ (∀ L j bx ar, (stF (G ++ L) s r bx ar)[N + j]? = L[j]?) ∧
    (∀ L bx ar x, (stF (G ++ L) s r bx ar).set N x = stF (G ++ L.set 0 x) s r bx ar) ∧ (∀ L j bx ar x, (stF (G ++ L) s r bx ar).set (N + j) x = stF (G ++ L.set j x) s r bx ar) ∧
    (∀ bx ar, (stF G s r bx ar).take N = stF G s r bx ar) ∧ (∀ L bx ar, (stF (G ++ L) s r bx ar).take N = stF G s r bx ar) ∧
    (∀ bx ar, ((N ≤ (stF G s r bx ar).length) = True)) ∧ (∀ L bx ar, ((N ≤ (stF (G ++ L) s r bx ar).length) = True)) := by
  subst hN; exact stP hs hr hne
def MadeC (s r m : Nat) (lim rd lvl : Int) (t : Ty) (v : Nat) (L : Mem) (cnt : Int) (Z : List (Int × Int)) (v' : Nat) (L' : Mem) (cnt' : Int) (Z' : List (Int × Int)) (n : Nat) : Prop :=
  ∀ F : List AObj, s < F.length → r < F.length → m < F.length → DCalls Try.prog 22 [.bptr s 0, emb t, .int .i64 lvl, .mp m] (hpS (F.set m (.map (embM Z))) s r v L lim cnt rd) (.tup [.int .i64 n, .int .i64 0]) (hpS (F.set m (.map (embM Z'))) s r v' L' lim cnt' rd)
theorem MadeC.at {lim rd lvl : Int} {t : Ty} {v : Nat} {L : Mem} {cnt : Int} {Z : List (Int × Int)} {v' : Nat} {L' : Mem} {cnt' : Int} {Z' : List (Int × Int)} {n : Nat} (h : MadeC s r m lim rd lvl t v L cnt Z v' L' cnt' Z' n) (hs : s < F.length) (hr : r < F.length) (hm : m < F.length) (J : List AObj) :
    DCalls Try.prog 22 [.bptr s 0, emb t, .int .i64 lvl, .mp m] (hpS (F.set m (.map (embM Z)) ++ J) s r v L lim cnt rd) (.tup [.int .i64 n, .int .i64 0]) (hpS (F.set m (.map (embM Z')) ++ J) s r v' L' lim cnt' rd) := by
  have := h (F ++ J) (lt_app hs) (lt_app hr) (lt_app hm)
  rwa [app_set hm, app_set hm] at this
end
section
variable {s r m v v1 v2 : Nat} {L L1 L2 : Mem} {lim cnt cnt1 cnt2 rd lvl : Int} {Z Z1 Z2 : List (Int × Int)}
theorem made_lf (hne : r ≠ s) (hsm : s ≠ m) (hrm : r ≠ m) {k : Int} (hk : 1 ≤ k ∧ k ≤ 5) {i : Nat} (hi : k - 1 = (i : Int)) : MadeC s r m lim rd lvl (.mk k 0 []) v L cnt Z v L cnt Z i := by
  intro F hs hr hm
  have hp := fun X : AObj => stPN (G := F.set m X) (s := s) (r := r) List.length_set hs hr hne
  have c6 : (k == 6) = false := by rw [beq_eq_false_iff_ne]; omega
  have c7 : (k == 7) = false := by rw [beq_eq_false_iff_ne]; omega
  have c8 : (k == 8) = false := by rw [beq_eq_false_iff_ne]; omega
  have c9 : (k == 9) = false := by rw [beq_eq_false_iff_ne]; omega
  have w : IntKind.wrap .i64 (k - 1) = (i : Int) := by rw [wrap_i (by omega) (by omega)]; exact hi
  unfold DCalls
  refine acallsD_text C_ok Try.func22 rfl (by decide) (Nat.le_of_ble_eq_true rfl) (by decide) fun ok => ?_
  rw [Try.results22]
  have h := True.intro
  repeat' (first
   | (with_reducible first | apply bA | apply bB | apply bC | apply bD | apply bE | apply bF) <;> intro h
   | skip) <;> simp only [h, ↓upd_eq, ↓envL_cons, WY, reduceIte, yA, yB, yC, yD, reduceCtorEq, yE, yF, W1, WS, hpS, bxS, arS, hp, retD_ret, retD_normal, AV.bel, AV.belL, mapN_len, List.length_set, emb_cells, emb_solid, emb_bel, implies_true, c6, c7, c8, c9, w]
theorem made_old (hne : r ≠ s) (hsm : s ≠ m) (hrm : r ≠ m) {k : Int} {n : Nat} (hg : mget Z k = some (n : Int)) : MadeC s r m lim rd lvl (.mk 6 k []) v L cnt Z v L cnt Z n := by
  intro F hs hr hm
  have hp := fun X : AObj => stPN (G := F.set m X) (s := s) (r := r) List.length_set hs hr hne
  have hmG := fun J X bx ar => hpM_get (F := F) (J := J) (X := X) (bx := bx) (ar := ar) hm hsm hrm
  unfold DCalls
  refine acallsD_text C_ok Try.func22 rfl (by decide) (Nat.le_of_ble_eq_true rfl) (by decide) fun ok => ?_
  rw [Try.results22]
  have h := True.intro
  repeat' (first
   | (with_reducible first | apply bA | apply bB | apply bC | apply bD | apply bE | apply bF) <;> intro h
   | skip) <;> simp only [h, ↓upd_eq, ↓envL_cons, WY, reduceIte, yA, yB, yC, yD, reduceCtorEq, yE, yF, W1, WS, hpS, bxS, arS, hp, hmG, retD_ret, retD_normal, AV.bel, AV.belL, mapN_len, List.length_set, emb_cells, emb_solid, emb_bel, implies_true, beq_self_eq_true, findA_m, foundOr_m, mfind_some, keyOK, hg, Option.getD_some, Option.isSome_some]
theorem made_new (hne : r ≠ s) (hsm : s ≠ m) (hrm : r ≠ m) {k : Int} (hg : mget Z k = none) (hlv : ¬ lvl < 0) (hc : (cnt == lim) = false) (hL : L.length ≤ 1000000) (hc' : 0 ≤ cnt ∧ cnt ≤ 1000000) :
    MadeC s r m lim rd lvl (.mk 6 k []) v L cnt Z (v + 1) (L ++ [varN lvl]) (cnt + 1) (mput Z k L.length) L.length := by
  intro F hs hr hm
  have hp := fun X : AObj => stPN (G := F.set m X) (s := s) (r := r) List.length_set hs hr hne
  have hmG := fun J X bx ar => hpM_get (F := F) (J := J) (X := X) (bx := bx) (ar := ar) hm hsm hrm
  have hmS := fun J X Y bx ar => hpM_set (F := F) (J := J) (X := X) (Y := Y) (bx := bx) (ar := ar) hm hsm hrm
  unfold DCalls
  refine acallsD_text C_ok Try.func22 rfl (by decide) (Nat.le_of_ble_eq_true rfl) (by decide) fun ok => ?_
  rw [Try.results22]
  have h := True.intro
  repeat' (first
   | (with_reducible first | apply bA | apply bB | apply bC | apply bD | apply bE | apply bF) <;> intro h
   | ((first | apply bG | apply bH); simp only [AV.norm, AV.normL, W2, hpS, bxS, arS, hp, hmG, hmS, retD_ret, retD_normal, AV.bel, AV.belL, mapN_len, List.length_set, emb_cells, emb_solid, emb_bel, implies_true, beq_self_eq_true, findA_m, foundOr_m, mfind_some, mapPut_m, keyOK, hg, Option.getD_none, Option.isSome_none]; first  | refine fsCallD (var_ok (by first|exact hs|simp<;>omega) (by first|exact hr|simp<;>omega) hne lvl hlv hc hL hc') (.inl rfl) (fun hb => hpS_bel (by first|exact hs|simp<;>omega) (by first|exact hr|simp<;>omega) hne hb) ?_)
   | skip) <;> simp only [h, ↓upd_eq, ↓envL_cons, WY, reduceIte, yA, yB, yC, yD, reduceCtorEq, yE, yF, W1, WS, hpS, bxS, arS, hp, hmG, hmS, retD_ret, retD_normal, AV.bel, AV.belL, mapN_len, List.length_set, emb_cells, emb_solid, emb_bel, implies_true, beq_self_eq_true, findA_m, foundOr_m, mfind_some, mapPut_m, keyOK, hg, Option.getD_none, Option.isSome_none]
theorem made_nd2 (hne : r ≠ s) (hsm : s ≠ m) (hrm : r ≠ m) {k : Int} {x y : Ty} {i j : Nat} (hk : k = 7 ∨ k = 9) (h1 : MadeC s r m lim rd lvl x v L cnt Z v1 L1 cnt1 Z1 i) (h2 : MadeC s r m lim rd lvl y v1 L1 cnt1 Z1 v2 L2 cnt2 Z2 j)
    (hi : i < L2.length) (hj : j < L2.length) (hc : (cnt2 == lim) = false) (hL : L2.length ≤ 1000000) (hc' : 0 ≤ cnt2 ∧ cnt2 ≤ 1000000) :
    MadeC s r m lim rd lvl (.mk k 0 [x, y]) v L cnt Z (v2 + 1) (L2 ++ [(⟨k, 0, none, [i, j]⟩, 0)]) (cnt2 + 1) Z2 L2.length := by
  intro F hs hr hm
  have hp := fun X : AObj => stPN (G := F.set m X) (s := s) (r := r) List.length_set hs hr hne
  have c6 : (k == 6) = false := by rw [beq_eq_false_iff_ne]; omega
  unfold DCalls
  rcases hk with rfl | rfl
  · refine acallsD_text C_ok Try.func22 rfl (by decide) (Nat.le_of_ble_eq_true rfl) (by decide) fun ok => ?_
    rw [Try.results22]
    have h := True.intro
    repeat' (first
     | (with_reducible first | apply bA | apply bB | apply bC | apply bD | apply bE | apply bF) <;> intro h
     | ((first | apply bG | apply bH); simp only [AV.norm, AV.normL, W2, W3, yH, yI, yJ, yK, yL, yM, hpS, bxS, arS, hp, retD_ret, retD_normal, AV.bel, AV.belL, mapN_len, List.length_set, emb_cells, emb_solid, emb_bel, implies_true, c6, beq_self_eq_true, bne_self_eq_false, Int.toNat_zero, Int.toNat_one, Int.le_refl]; first  | refine fsCallD (h1.at hs hr hm _) (.inl rfl) (fun hb => by first | exact hpM_bel hm hsm hrm hs hr hne (embM_bel _ _) hb | exact hpM_bel0 hm hsm hrm hs hr hne (embM_bel _ _) hb) ?_ | refine fsCallD (h2.at hs hr hm _) (.inl rfl) (fun hb => by first | exact hpM_bel hm hsm hrm hs hr hne (embM_bel _ _) hb | exact hpM_bel0 hm hsm hrm hs hr hne (embM_bel _ _) hb) ?_ | refine fsCallD (make_ok (by first|exact hs|simp<;>omega) (by first|exact hr|simp<;>omega) hne 7 i j (.inl rfl) hi hj hc hL hc') (.inl rfl) (fun hb => hpS_bel (by first|exact hs|simp<;>omega) (by first|exact hr|simp<;>omega) hne hb) ?_)
     | refine goRound ?_ C_ok Try.f22.ntmps rfl (by decide)
     | skip) <;> simp only [h, ↓upd_eq, ↓envL_cons, WY, reduceIte, yA, yB, yC, yD, reduceCtorEq, yE, yF, W1, WS, W3, yH, yI, yJ, yK, yL, yM, hpS, bxS, arS, hp, retD_ret, retD_normal, AV.bel, AV.belL, mapN_len, List.length_set, emb_cells, emb_solid, emb_bel, implies_true, c6, beq_self_eq_true, bne_self_eq_false, Int.toNat_zero, Int.toNat_one, Int.le_refl, cutNormal_normal]
  · refine acallsD_text C_ok Try.func22 rfl (by decide) (Nat.le_of_ble_eq_true rfl) (by decide) fun ok => ?_
    rw [Try.results22]
    have h := True.intro
    repeat' (first
     | (with_reducible first | apply bA | apply bB | apply bC | apply bD | apply bE | apply bF) <;> intro h
     | ((first | apply bG | apply bH); simp only [AV.norm, AV.normL, W2, W3, yH, yI, yJ, yK, yL, yM, hpS, bxS, arS, hp, retD_ret, retD_normal, AV.bel, AV.belL, mapN_len, List.length_set, emb_cells, emb_solid, emb_bel, implies_true, c6, beq_self_eq_true, bne_self_eq_false, Int.toNat_zero, Int.toNat_one, Int.le_refl]; first  | refine fsCallD (h1.at hs hr hm _) (.inl rfl) (fun hb => by first | exact hpM_bel hm hsm hrm hs hr hne (embM_bel _ _) hb | exact hpM_bel0 hm hsm hrm hs hr hne (embM_bel _ _) hb) ?_ | refine fsCallD (h2.at hs hr hm _) (.inl rfl) (fun hb => by first | exact hpM_bel hm hsm hrm hs hr hne (embM_bel _ _) hb | exact hpM_bel0 hm hsm hrm hs hr hne (embM_bel _ _) hb) ?_ | refine fsCallD (make_ok (by first|exact hs|simp<;>omega) (by first|exact hr|simp<;>omega) hne 9 i j (.inr rfl) hi hj hc hL hc') (.inl rfl) (fun hb => hpS_bel (by first|exact hs|simp<;>omega) (by first|exact hr|simp<;>omega) hne hb) ?_)
     | refine goRound ?_ C_ok Try.f22.ntmps rfl (by decide)
     | skip) <;> simp only [h, ↓upd_eq, ↓envL_cons, WY, reduceIte, yA, yB, yC, yD, reduceCtorEq, yE, yF, W1, WS, W3, yH, yI, yJ, yK, yL, yM, hpS, bxS, arS, hp, retD_ret, retD_normal, AV.bel, AV.belL, mapN_len, List.length_set, emb_cells, emb_solid, emb_bel, implies_true, c6, beq_self_eq_true, bne_self_eq_false, Int.toNat_zero, Int.toNat_one, Int.le_refl, cutNormal_normal]
theorem made_nd1 (hne : r ≠ s) (hsm : s ≠ m) (hrm : r ≠ m) {x : Ty} {i : Nat} (h1 : MadeC s r m lim rd lvl x v L cnt Z v1 L1 cnt1 Z1 i)
    (hi : i < L1.length) (hc : (cnt1 == lim) = false) (hL : L1.length ≤ 1000000) (hc' : 0 ≤ cnt1 ∧ cnt1 ≤ 1000000) :
    MadeC s r m lim rd lvl (.mk 8 0 [x]) v L cnt Z (v1 + 1) (L1 ++ [(⟨8, 0, none, [i]⟩, 0)]) (cnt1 + 1) Z1 L1.length := by
  intro F hs hr hm
  have hp := fun X : AObj => stPN (G := F.set m X) (s := s) (r := r) List.length_set hs hr hne
  unfold DCalls
  refine acallsD_text C_ok Try.func22 rfl (by decide) (Nat.le_of_ble_eq_true rfl) (by decide) fun ok => ?_
  rw [Try.results22]
  have h := True.intro
  repeat' (first
   | (with_reducible first | apply bA | apply bB | apply bC | apply bD | apply bE | apply bF) <;> intro h
   | ((first | apply bG | apply bH); simp only [AV.norm, AV.normL, W2, W3, yH, yI, yJ, yK, yL, yM, hpS, bxS, arS, hp, retD_ret, retD_normal, AV.bel, AV.belL, mapN_len, List.length_set, emb_cells, emb_solid, emb_bel, implies_true, beq_self_eq_true, bne_self_eq_false, Int.toNat_zero, Int.toNat_one, Int.le_refl]; first  | refine fsCallD (h1.at hs hr hm _) (.inl rfl) (fun hb => by first | exact hpM_bel hm hsm hrm hs hr hne (embM_bel _ _) hb | exact hpM_bel0 hm hsm hrm hs hr hne (embM_bel _ _) hb) ?_ | refine fsCallD (make_list (by first|exact hs|simp<;>omega) (by first|exact hr|simp<;>omega) hne i i hi hc hL hc') (.inl rfl) (fun hb => hpS_bel (by first|exact hs|simp<;>omega) (by first|exact hr|simp<;>omega) hne hb) ?_)
   | refine goRound ?_ C_ok Try.f22.ntmps rfl (by decide)
   | skip) <;> simp only [h, ↓upd_eq, ↓envL_cons, WY, reduceIte, yA, yB, yC, yD, reduceCtorEq, yE, yF, W1, WS, W3, yH, yI, yJ, yK, yL, yM, hpS, bxS, arS, hp, retD_ret, retD_normal, AV.bel, AV.belL, mapN_len, List.length_set, emb_cells, emb_solid, emb_bel, implies_true, beq_self_eq_true, bne_self_eq_false, Int.toNat_zero, Int.toNat_one, Int.le_refl, cutNormal_normal]
theorem made_all (hne : r ≠ s) (hsm : s ≠ m) (hrm : r ≠ m) (hlv : ¬ lvl < 0) (hlim : lim = 65536) : ∀ (t : T) (v : Nat) (L : Mem) (cnt : Int) (Z : List (Int × Int)), SI L rd → VI L.st Z → L.length + t.size ≤ 900000 → 0 ≤ cnt → cnt + t.size ≤ 60000 →
    MadeC s r m lim rd lvl t.ty v L cnt Z (v + ((madeM lvl t L Z).1.length - L.length)) (madeM lvl t L Z).1 (cnt + (((madeM lvl t L Z).1.length - L.length : Nat) : Int)) (madeM lvl t L Z).2.1 (madeM lvl t L Z).2.2 := by
  intro t
  induction t with
  | base k =>
    intro v L cnt Z hsi hvi hl h0 h1
    have := made_lf (lim := lim) (rd := rd) (lvl := lvl) (v := v) (L := L) (cnt := cnt) (Z := Z) hne hsm hrm (k := (k.val : Int) + 1) (by omega) (i := k.val) (by omega)
    simpa only [T.ty, madeM, Nat.sub_self, Int.natCast_zero, Int.add_zero, Nat.add_zero] using this
  | dyn =>
    intro v L cnt Z hsi hvi hl h0 h1
    have := made_lf (lim := lim) (rd := rd) (lvl := lvl) (v := v) (L := L) (cnt := cnt) (Z := Z) hne hsm hrm (k := 5) (by omega) (i := 4) (by omega)
    simpa only [T.ty, madeM, Nat.sub_self, Int.natCast_zero, Int.add_zero, Nat.add_zero] using this
  | var k =>
    intro v L cnt Z hsi hvi hl h0 h1
    simp only [T.size] at hl h1
    cases e : mget Z k with
    | some n =>
      obtain ⟨n, rfl, _⟩ := hvi.at_ k n e
      have := made_old (lim := lim) (rd := rd) (lvl := lvl) (v := v) (L := L) (cnt := cnt) hne hsm hrm e
      simpa only [T.ty, madeM, e, Int.toNat_natCast, Nat.sub_self, Int.natCast_zero, Int.add_zero, Nat.add_zero] using this
    | none =>
      have := made_new (lim := lim) (rd := rd) (lvl := lvl) (v := v) (L := L) (cnt := cnt) hne hsm hrm e hlv (by rw [beq_eq_false_iff_ne]; omega) (by omega) ⟨h0, by omega⟩
      have e2 : (L ++ [((⟨6, lvl, none, []⟩ : Nd), (0 : Int))]).length - L.length = 1 := by simp
      simp only [T.ty, madeM, e, e2]
      exact this
  | pair a b ih1 ih2 =>
    intro v L cnt Z hsi hvi hl h0 h1
    simp only [T.size] at hl h1
    have l1 := madeM_len lvl a L Z
    have l2 := madeM_len lvl b (madeM lvl a L Z).1 (madeM lvl a L Z).2.1
    obtain ⟨s1, o1⟩ := madeM_ok lvl a L Z hsi hvi
    obtain ⟨s2, o2⟩ := madeM_ok lvl b _ _ s1 o1.vi
    have b1 := o1.lt; have b2 := o2.lt
    rw [Mem.st_len] at b1 b2
    have := made_nd2 hne hsm hrm (.inl rfl) (ih1 v L cnt Z hsi hvi (by omega) h0 (by omega)) (ih2 (v + ((madeM lvl a L Z).1.length - L.length)) (madeM lvl a L Z).1 (cnt + (((madeM lvl a L Z).1.length - L.length : Nat) : Int)) (madeM lvl a L Z).2.1 s1 o1.vi (by omega) (by omega) (by omega))
      (by omega) (by omega) (by rw [beq_eq_false_iff_ne]; omega) (by omega) ⟨by omega, by omega⟩
    simp only [T.ty, madeM, List.length_append, List.length_cons, List.length_nil]
    generalize madeM lvl a L Z = p at *
    generalize madeM lvl b p.1 p.2.1 = q at *
    rw [show v + (p.1.length - L.length) + (q.1.length - p.1.length) + 1 = v + (q.1.length + (0 + 1) - L.length) by omega, show cnt + ((p.1.length - L.length : Nat) : Int) + ((q.1.length - p.1.length : Nat) : Int) + 1 = cnt + ((q.1.length + (0 + 1) - L.length : Nat) : Int) by omega] at this
    exact this
  | fn a b ih1 ih2 =>
    intro v L cnt Z hsi hvi hl h0 h1
    simp only [T.size] at hl h1
    have l1 := madeM_len lvl a L Z
    have l2 := madeM_len lvl b (madeM lvl a L Z).1 (madeM lvl a L Z).2.1
    obtain ⟨s1, o1⟩ := madeM_ok lvl a L Z hsi hvi
    obtain ⟨s2, o2⟩ := madeM_ok lvl b _ _ s1 o1.vi
    have b1 := o1.lt; have b2 := o2.lt
    rw [Mem.st_len] at b1 b2
    have := made_nd2 hne hsm hrm (.inr rfl) (ih1 v L cnt Z hsi hvi (by omega) h0 (by omega)) (ih2 (v + ((madeM lvl a L Z).1.length - L.length)) (madeM lvl a L Z).1 (cnt + (((madeM lvl a L Z).1.length - L.length : Nat) : Int)) (madeM lvl a L Z).2.1 s1 o1.vi (by omega) (by omega) (by omega))
      (by omega) (by omega) (by rw [beq_eq_false_iff_ne]; omega) (by omega) ⟨by omega, by omega⟩
    simp only [T.ty, madeM, List.length_append, List.length_cons, List.length_nil]
    generalize madeM lvl a L Z = p at *
    generalize madeM lvl b p.1 p.2.1 = q at *
    rw [show v + (p.1.length - L.length) + (q.1.length - p.1.length) + 1 = v + (q.1.length + (0 + 1) - L.length) by omega, show cnt + ((p.1.length - L.length : Nat) : Int) + ((q.1.length - p.1.length : Nat) : Int) + 1 = cnt + ((q.1.length + (0 + 1) - L.length : Nat) : Int) by omega] at this
    exact this
  | list a ih1 =>
    intro v L cnt Z hsi hvi hl h0 h1
    simp only [T.size] at hl h1
    have l1 := madeM_len lvl a L Z
    obtain ⟨s1, o1⟩ := madeM_ok lvl a L Z hsi hvi
    have b1 := o1.lt
    rw [Mem.st_len] at b1
    have := made_nd1 hne hsm hrm (ih1 v L cnt Z hsi hvi (by omega) h0 (by omega)) (by omega) (by rw [beq_eq_false_iff_ne]; omega) (by omega) ⟨by omega, by omega⟩
    simp only [T.ty, madeM, List.length_append, List.length_cons, List.length_nil]
    generalize madeM lvl a L Z = p at *
    rw [show v + (p.1.length - L.length) + 1 = v + (p.1.length + (0 + 1) - L.length) by omega, show cnt + ((p.1.length - L.length : Nat) : Int) + 1 = cnt + ((p.1.length + (0 + 1) - L.length : Nat) : Int) by omega] at this
    exact this
end

end Go.Proofs.Ytdngjamjccjlmaa
