/- Lemmas: substitution and numbers anew. No condition. -/
import Derived.Test.YtdngjamjccjlmaaP2a
import Derived.Test.YtdngjamjccjlmaaPAc
import Derived.Test.YtdngjamjccjlmaaPSb
import Derived.Test.YtdngjamjccjlmaaPVa

set_option linter.unusedSimpArgs false
set_option linter.unusedVariables false
set_option maxHeartbeats 4000000
set_option maxRecDepth 100000
namespace Go.Proofs.Ytdngjamjccjlmaa
open Go Go.Ab
open Nat renaming reduceEqDiff → yA, reduceAdd → yB, reduceLT → yC, reduceLeDiff → yD, reduceMul → yE, reducePow → yF, reduceBEq → yG
open Int renaming reduceAdd → yH, reduceLT → yI, reduceToNat → yJ, reduceBEq → yK, reduceBNe → yL, reduceLE → yM
section
attribute [local irreducible] PCalls ACalls CallK GoCall GoDCall GoIf GoGb GoDGb GoO GoD GoX GoDX GoG GoDG GoGv GoDGv Go ALoop

def putMd (l : List Bd) (M : List (Int × Int)) : T → Ty
  | .base k => (T.base k).ty
  | .dyn => T.dyn.ty
  | .var n => match mget M n with | some i => (l.getD i.toNat default).2 | none => .mk 6 n []
  | .pair a b => .mk 7 0 [putMd l M a, putMd l M b]
  | .fn a b => .mk 9 0 [putMd l M a, putMd l M b]
  | .list a => .mk 8 0 [putMd l M a]
theorem qcalls_of {P : Program} {f : Nat} {args : List AV} {x : AV} {X : AObj} {q : Nat} {e : Nat → AV} {G : List AObj} {b k : Nat} (h : ∀ F : List AObj, F[q]? = some X → DCalls P f args F x F) (hg : G[q]? = some X) (hm : X.mute = false) : QCalls P f args x (FS e G b k).obj :=
  fun F' hF => h F' (hF _ _ (by rw [fs_obj]; exact hg) hm)
section
variable {l : List Bd} {M : List (Int × Int)} {mr : Nat}
def SPut (l : List Bd) (M : List (Int × Int)) (mr : Nat) (t r : Ty) : Prop := ∀ F : List AObj, F[mr]? = some (.map (embM M)) → DCalls Try.prog 120 [emb t, .sl (l.map embB) .no, .mp mr] F (emb r) F
theorem sput_leaf' (k : Int) (hk : (k == 6) = false) : SPut l M mr (.mk k 0 []) (.mk k 0 []) := by
  intro F hm
  unfold DCalls
  have hml := get_lt hm
  refine acallsD_text C_ok Try.func120 rfl (by decide) (Nat.le_of_ble_eq_true rfl) (by decide) fun ok => ?_
  rw [Try.results120]
  have h := True.intro
  repeat' (first
   | (with_reducible first | apply bA | apply bB | apply bC | apply bD | apply bE | apply bF) <;> intro h
   | refine go_drawF (id := 12) C_ok (fun _ => trivial) mixed 0 Try.f120.ntmps (by first | (simp; done) | (simp; omega)) rfl (by kernel_rfl) (by decide) ?_
   | refine goRound ?_ C_ok Try.f120.ntmps rfl (by decide)
   | skip) <;> simp only [h, ↓upd_eq, ↓envL_cons, WY, reduceIte, yA, yB, yC, yD, reduceCtorEq, yE, yF, W1, W1B, WS, W3, yH, yI, yJ, yK, yL, yM, hk, hml, app_get hml, hm, emb_bel, retD_ret, retD_normal, cutNormal_normal]
  all_goals exact List.take_left' rfl
theorem sput_two' (k : Int) (hk : (k == 6) = false) {x y x' y' : Ty} (i1 : SPut l M mr x x') (i2 : SPut l M mr y y') : SPut l M mr (.mk k 0 [x, y]) (.mk k 0 [x', y']) := by
  intro F hm
  unfold DCalls
  have hml := get_lt hm
  have hG : ∀ J, (F ++ J)[mr]? = some (.map (embM M)) := fun J => by rw [List.getElem?_append_left hml]; exact hm
  refine acallsD_text C_ok Try.func120 rfl (by decide) (Nat.le_of_ble_eq_true rfl) (by decide) fun ok => ?_
  rw [Try.results120]
  have h := True.intro
  repeat' (first
   | (with_reducible first | apply bA | apply bB | apply bC | apply bD | apply bE | apply bF) <;> intro h
   | ((first | apply bG | apply bH); simp only [AV.norm, AV.normL, W2, W2B, W3, yH, yI, yJ, yK, yL, yM, hk, hml, hG, hm, emb_bel, retD_ret, retD_normal]; first  | refine goDCall_q rfl (qcalls_of i1 (hG _) rfl) (.inl rfl) ?_ | refine goDCall_q rfl (qcalls_of i2 (hG _) rfl) (.inl rfl) ?_)
   | refine go_drawF (id := 12) C_ok (fun _ => trivial) mixed 0 Try.f120.ntmps (by first | (simp; done) | (simp; omega)) rfl (by kernel_rfl) (by decide) ?_
   | refine goRound ?_ C_ok Try.f120.ntmps rfl (by decide)
   | skip) <;> simp only [h, ↓upd_eq, ↓envL_cons, WY, reduceIte, yA, yB, yC, yD, reduceCtorEq, yE, yF, W1, W1B, WS, W3, yH, yI, yJ, yK, yL, yM, hk, hml, hG, hm, emb_bel, retD_ret, retD_normal, cutNormal_normal]
  all_goals exact List.take_left' rfl
theorem sput_one' (k : Int) (hk : (k == 6) = false) {x x' : Ty} (i1 : SPut l M mr x x') : SPut l M mr (.mk k 0 [x]) (.mk k 0 [x']) := by
  intro F hm
  unfold DCalls
  have hml := get_lt hm
  have hG : ∀ J, (F ++ J)[mr]? = some (.map (embM M)) := fun J => by rw [List.getElem?_append_left hml]; exact hm
  refine acallsD_text C_ok Try.func120 rfl (by decide) (Nat.le_of_ble_eq_true rfl) (by decide) fun ok => ?_
  rw [Try.results120]
  have h := True.intro
  repeat' (first
   | (with_reducible first | apply bA | apply bB | apply bC | apply bD | apply bE | apply bF) <;> intro h
   | ((first | apply bG | apply bH); simp only [AV.norm, AV.normL, W2, W2B, W3, yH, yI, yJ, yK, yL, yM, hk, hml, hG, hm, emb_bel, retD_ret, retD_normal]; first  | refine goDCall_q rfl (qcalls_of i1 (hG _) rfl) (.inl rfl) ?_)
   | refine go_drawF (id := 12) C_ok (fun _ => trivial) mixed 0 Try.f120.ntmps (by first | (simp; done) | (simp; omega)) rfl (by kernel_rfl) (by decide) ?_
   | refine goRound ?_ C_ok Try.f120.ntmps rfl (by decide)
   | skip) <;> simp only [h, ↓upd_eq, ↓envL_cons, WY, reduceIte, yA, yB, yC, yD, reduceCtorEq, yE, yF, W1, W1B, WS, W3, yH, yI, yJ, yK, yL, yM, hk, hml, hG, hm, emb_bel, retD_ret, retD_normal, cutNormal_normal]
  all_goals exact List.take_left' rfl
theorem sput_var (hM : ∀ n i, mget M n = some i → ∃ k : Nat, i = k ∧ k < l.length) (n : Int) : SPut l M mr (.mk 6 n []) (putMd l M (.var n)) := by
  intro F hm
  unfold DCalls
  have hml := get_lt hm
  have hG : ∀ J, (F ++ J)[mr]? = some (.map (embM M)) := fun J => by rw [List.getElem?_append_left hml]; exact hm
  cases hg : mget M n with
  | none =>
    have hp : putMd l M (.var n) = .mk 6 n [] := by simp [putMd, hg]
    rw [hp]
    refine acallsD_text C_ok Try.func120 rfl (by decide) (Nat.le_of_ble_eq_true rfl) (by decide) fun ok => ?_
    rw [Try.results120]
    have h := True.intro
    repeat' (first
     | (with_reducible first | apply bA | apply bB | apply bC | apply bD | apply bE | apply bF) <;> intro h
     | refine go_drawF (id := 12) C_ok (fun _ => trivial) mixed 0 Try.f120.ntmps (by first | (simp; done) | (simp; omega)) rfl (by kernel_rfl) (by decide) ?_
     | refine goRound ?_ C_ok Try.f120.ntmps rfl (by decide)
     | skip) <;> simp only [h, ↓upd_eq, ↓envL_cons, WY, reduceIte, yA, yB, yC, yD, reduceCtorEq, yE, yF, W1, W1B, WS, W3, yH, yI, yJ, yK, yL, yM, hml, hG, hm, findA_m, foundOr_m, mfind_some, keyOK, hg, Option.getD_none, Option.isSome_none, emb_bel, retD_ret, retD_normal, cutNormal_normal]
    all_goals exact List.take_left' rfl
  | some i =>
    obtain ⟨k, rfl, hk⟩ := hM n i hg
    have hp : putMd l M (.var n) = (l.getD k default).2 := by simp [putMd, hg]
    rw [hp]
    have hb := mapB_get hk
    generalize l.getD k default = p at *
    refine acallsD_text C_ok Try.func120 rfl (by decide) (Nat.le_of_ble_eq_true rfl) (by decide) fun ok => ?_
    rw [Try.results120]
    have h := True.intro
    repeat' (first
     | (with_reducible first | apply bA | apply bB | apply bC | apply bD | apply bE | apply bF) <;> intro h
     | refine go_drawF (id := 12) C_ok (fun _ => trivial) mixed 0 Try.f120.ntmps (by first | (simp; done) | (simp; omega)) rfl (by kernel_rfl) (by decide) ?_
     | refine goRound ?_ C_ok Try.f120.ntmps rfl (by decide)
     | skip) <;> simp only [h, ↓upd_eq, ↓envL_cons, WY, reduceIte, yA, yB, yC, yD, reduceCtorEq, yE, yF, W1, W1B, WS, W3, yH, yI, yJ, yK, yL, yM, hml, hG, hm, findA_m, foundOr_m, mfind_some, keyOK, hg, hk, hb, Option.getD_some, Option.isSome_some, List.length_map, emb_bel, retD_ret, retD_normal, cutNormal_normal]
    all_goals exact List.take_left' rfl
theorem scput_ok (hM : ∀ n i, mget M n = some i → ∃ k : Nat, i = k ∧ k < l.length) : ∀ t : T, SPut l M mr t.ty (putMd l M t) := by
  intro t
  induction t with
  | base k => exact sput_leaf' _ (by rw [beq_eq_false_iff_ne]; have := k.isLt; omega)
  | dyn => exact sput_leaf' 5 rfl
  | var n => exact sput_var hM n
  | pair a b ih1 ih2 => exact sput_two' 7 rfl ih1 ih2
  | fn a b ih1 ih2 => exact sput_two' 9 rfl ih1 ih2
  | list a ih1 => exact sput_one' 8 rfl ih1
end
end
section
attribute [local irreducible] PCalls ACalls CallK GoCall GoDCall GoIf GoGb GoDGb GoO GoD GoX GoDX GoG GoDG GoGv GoDGv Go ALoop

def firstM (l : List Bd) : Nat → List (Int × Int)
  | 0 => []
  | i + 1 => if (mget (firstM l i) (l.getD i default).1).isSome = true then firstM l i else mput (firstM l i) (l.getD i default).1 i
theorem lookB_app (l m : List Bd) (n : Int) : lookB (l ++ m) n = (lookB l n).or (lookB m n) := by
  induction l with
  | nil => simp [lookB]
  | cons p l ih => simp only [List.cons_append, lookB]; split <;> simp [ih]
theorem firstM_spec (l : List Bd) (n : Int) : ∀ i, i ≤ l.length → (∀ k, mget (firstM l i) n = some k → ∃ j : Nat, k = j ∧ j < i) ∧ (mget (firstM l i) n).map (fun k => (l.getD k.toNat default).2) = lookB (l.take i) n := by
  intro i
  induction i with
  | zero => intro _; exact ⟨fun k h => by simp [firstM, mget] at h, by simp [firstM, mget, lookB]⟩
  | succ i ih =>
    intro hi
    have hlt : i < l.length := by omega
    obtain ⟨h1, h2⟩ := ih (by omega)
    have e : l.take (i + 1) = l.take i ++ [l.getD i default] := by rw [List.take_add_one, List.getElem?_eq_getElem hlt, Option.toList_some]; simp [hlt]
    rw [e, lookB_app, ← h2]
    simp only [firstM]
    split
    · rename_i hs
      refine ⟨fun k hk => by obtain ⟨j, e1, e2⟩ := h1 k hk; exact ⟨j, e1, by omega⟩, ?_⟩
      by_cases hn : (l.getD i default).1 = n
      · rw [hn] at hs
        obtain ⟨k, hk⟩ := Option.isSome_iff_exists.1 hs
        simp [hk]
      · simp only [lookB, if_neg hn, Option.or_none]
    · rename_i hs
      have hs' := Option.not_isSome_iff_eq_none.1 hs
      refine ⟨fun k hk => ?_, ?_⟩
      · rw [mget_put] at hk
        split at hk
        · cases hk; exact ⟨i, rfl, by omega⟩
        · obtain ⟨j, e1, e2⟩ := h1 k hk; exact ⟨j, e1, by omega⟩
      · rw [mget_put]
        by_cases hn : (l.getD i default).1 = n
        · rw [hn] at hs'
          simp [hn, hs', lookB]
        · simp only [if_neg hn, lookB, Option.or_none]
def okBd (p : Bd) : Bool := decide (0 ≤ p.1) && decide (p.1 ≤ 1048576) && right p.2
def okBs (l : List Bd) : Bool := l.all okBd
theorem putM_put {l : List Bd} (hl : okBs l = true) : ∀ t : T, putMd l (firstM l l.length) t = (putS (sigB l) t).ty := by
  intro t
  induction t with
  | base k => rfl
  | dyn => rfl
  | var n =>
    have h2 := (firstM_spec l n l.length (Nat.le_refl _)).2
    rw [List.take_length] at h2
    simp only [putMd, putS, sigB]
    cases hg : mget (firstM l l.length) n with
    | none => rw [hg] at h2; simp only [Option.map_none] at h2; rw [← h2]; rfl
    | some k =>
      rw [hg] at h2
      simp only [Option.map_some] at h2
      rw [← h2]
      obtain ⟨p, hp, e1, e2⟩ := lookB_mem l n _ h2.symm
      have hr : right p.2 = true := by
        have := List.all_eq_true.1 hl p hp
        simp only [okBd, Bool.and_eq_true] at this; exact this.2
      obtain ⟨x, hx⟩ := T.of_right p.2 hr
      simp only
      rw [← e2, hx, tOf_ty]
  | pair a b ih1 ih2 => simp only [putMd, putS, T.ty, ih1, ih2]
  | fn a b ih1 ih2 => simp only [putMd, putS, T.ty, ih1, ih2]
  | list a ih1 => simp only [putMd, putS, T.ty, ih1]
noncomputable def substR (t : Ty) (l : List Bd) : AV := if right t = true ∧ okBs l = true then .tup [emb (putS (sigB l) (tOf t)).ty, .int .i64 0] else .tup [emb (.mk 0 0 []), .int .i64 1]
theorem substR_bel (t : Ty) (l : List Bd) : (substR t l).bel 0 = true := by
  unfold substR
  split <;> simp [AV.bel, AV.belL, emb_bel]
theorem subst_ok (t : Ty) (l : List Bd) : PCalls Try.prog 58 [emb t, .sl (l.map embB) .no] (substR t l) := by
  refine pcalls_of (substR_bel t l) fun F => ?_
  unfold DCalls
  have qc := check_ok t
  by_cases hr : right t = true
  · rw [if_pos hr] at qc
    have htrue : okBs l = true → substR t l = .tup [emb (putMd l (firstM l l.length) (tOf t)), .int .i64 0] := fun h => by rw [substR, if_pos ⟨hr, h⟩, putM_put h]
    have hfalse : okBs l ≠ true → substR t l = .tup [emb (.mk 0 0 []), .int .i64 1] := fun h => by rw [substR, if_neg fun h' => h h'.2]
    have hbel := substR_bel t l
    have hput := fun G hG => scput_ok (l := l) (M := firstM l l.length) (mr := F.length + 2) (fun n i h => by
      obtain ⟨j, e1, e2⟩ := (firstM_spec l n l.length (Nat.le_refl _)).1 i h; exact ⟨j, e1, e2⟩) (tOf t) G hG
    obtain ⟨x, rfl⟩ := T.of_right t hr
    rw [tOf_ty] at hput htrue
    have hputR := fun G (hG : G[F.length + 2]? = some (.map (embM (firstM l l.length)))) => hput G hG
    generalize hP : putMd l (firstM l l.length) x = P at *
    generalize substR x.ty l = R at *
    clear hput
    have hstep : ∀ i, i < l.length → firstM l (i + 1) = if (mget (firstM l i) (l.getD i default).1).isSome = true then firstM l i else mput (firstM l i) (l.getD i default).1 i := fun i _ => rfl
    refine acallsD_text C_ok Try.func58 rfl (by decide) (Nat.le_of_ble_eq_true rfl) (by decide) fun ok => ?_
    rw [Try.results58]
    have hmax : l.length ≤ maxLen := by
      have := ok.2.1; simp only [AV.okay, List.length_map] at this; exact this.1
    have h := True.intro
    repeat' (first
     | (with_reducible first | apply bA | apply bB | apply bC | apply bD | apply bE | apply bF) <;> intro h
     | ((first | apply bG | apply bH); simp only [AV.norm, AV.normL, W2, W2B, List.length_map, bne_self_eq_false]; first | refine goCall_p (qc) (.inl rfl) ?_ | refine goDCall_p (qc) (.inl rfl) ?_)
     | skip) <;> simp only [h, ↓upd_eq, ↓envL_cons, WY, reduceIte, yA, yB, yC, yD, reduceCtorEq, yE, yF, W1, W1B, WS, List.length_map, bne_self_eq_false]
    refine aloop_trimF [18, 1, 2, 4, 6, 16, 17] ?_
    simp only [List.map_cons, List.map_nil, ↓upd_eq, ↓envL_cons, WY, reduceIte, yA, yB, yC, yD, reduceCtorEq, yE, yF, W1, W1B, WS]
    refine goLoopF 1 (fun i : Nat => [(18, .int .i64 i)]) (fun i => F ++ [.box [.int .i64 x.ty.kind, .int .i64 x.ty.num, .sl (x.ty.kids.map emb) .no], .box [.int .i64 0, .int .i64 0, .sl [] .full], .map (embM (firstM l i))]) (fun i => i ≤ l.length ∧ ∀ j, j < i → okBd (l.getD j default) = true) (fun i => l.length - i) C_ok 0 rfl rfl ⟨Nat.zero_le _, by simp⟩ (by decide) ?_
    rintro i ⟨hi, hall⟩
    simp only [List.drop_succ_cons, List.drop_zero, List.cons_append, List.nil_append]
    by_cases hlt : i < l.length
    · have hg := mapB_get hlt
      have hst := hstep i hlt
      have hbad : okBd (l.getD i default) ≠ true → R = .tup [emb (.mk 0 0 []), .int .i64 1] := fun h => hfalse fun h' => h (List.all_eq_true.1 h' _ (by simp [hlt]))
      have qp := check_ok (l.getD i default).2
      have hokd : okBd (l.getD i default) = (decide (0 ≤ (l.getD i default).1) && decide ((l.getD i default).1 ≤ 1048576) && right (l.getD i default).2) := rfl
      generalize hp : l.getD i default = p at *
      by_cases h1 : p.1 < 0
      · have hR := hbad (by rw [hokd]; simp; omega)
        rw [hR]
        have h := True.intro
        repeat' (first
         | (with_reducible first | apply bA | apply bB | apply bC | apply bD | apply bE | apply bF) <;> intro h
         | ((first | apply bG | apply bH); simp only [AV.norm, AV.normL, W2, W2B, hlt, hg, h1, List.length_map, embB_cells, emb_bel, AV.belL, retD_ret, retD_normal]; first | refine goCall_p (qp) (.inl rfl) ?_ | refine goDCall_p (qp) (.inl rfl) ?_)
         | skip) <;> simp only [h, ↓upd_eq, ↓envL_cons, WY, reduceIte, yA, yB, yC, yD, reduceCtorEq, yE, yF, W1, W1B, WS, hlt, hg, h1, List.length_map, embB_cells, emb_bel, AV.belL, retD_ret, retD_normal]
        all_goals exact ⟨by simp only [AV.bel, AV.belL, emb_bel, Bool.and_self, Bool.and_true], List.take_left' rfl⟩
      · by_cases h2 : 1048576 < p.1
        · have hR := hbad (by rw [hokd]; simp; omega)
          rw [hR]
          have h := True.intro
          repeat' (first
           | (with_reducible first | apply bA | apply bB | apply bC | apply bD | apply bE | apply bF) <;> intro h
           | ((first | apply bG | apply bH); simp only [AV.norm, AV.normL, W2, W2B, hlt, hg, h1, h2, List.length_map, embB_cells, emb_bel, AV.belL, retD_ret, retD_normal]; first | refine goCall_p (qp) (.inl rfl) ?_ | refine goDCall_p (qp) (.inl rfl) ?_)
           | skip) <;> simp only [h, ↓upd_eq, ↓envL_cons, WY, reduceIte, yA, yB, yC, yD, reduceCtorEq, yE, yF, W1, W1B, WS, hlt, hg, h1, h2, List.length_map, embB_cells, emb_bel, AV.belL, retD_ret, retD_normal]
          all_goals exact ⟨by simp only [AV.bel, AV.belL, emb_bel, Bool.and_self, Bool.and_true], List.take_left' rfl⟩
        · by_cases h3 : right p.2 = true
          · rw [if_pos h3] at qp
            have hokp : okBd p = true := by rw [hokd, h3]; simp; omega
            cases hm : mget (firstM l i) p.1 with
            | some k =>
              rw [hm, Option.isSome_some, if_pos rfl] at hst
              have h := True.intro
              repeat' (first
               | (with_reducible first | apply bA | apply bB | apply bC | apply bD | apply bE | apply bF) <;> intro h
               | ((first | apply bG | apply bH); simp only [AV.norm, AV.normL, W2, W2B, hlt, hg, h1, h2, hm, findA_m, foundOr_m, mfind_some, mapPut_m, keyOK, Option.getD_some, Option.isSome_some, List.length_map, embB_cells, emb_bel, AV.belL, bne_self_eq_false]; first | refine goCall_p (qp) (.inl rfl) ?_ | refine goDCall_p (qp) (.inl rfl) ?_)
               | skip) <;> simp only [h, ↓upd_eq, ↓envL_cons, WY, reduceIte, yA, yB, yC, yD, reduceCtorEq, yE, yF, W1, W1B, WS, hlt, hg, h1, h2, hm, findA_m, foundOr_m, mfind_some, mapPut_m, keyOK, Option.getD_some, Option.isSome_some, List.length_map, embB_cells, emb_bel, AV.belL, bne_self_eq_false]
              refine ⟨i + 1, ⟨by omega, fun j hj => ?_⟩, by omega, weakF_drop ?_ ?_ ?_ ?_ ?_⟩
              · rcases Nat.lt_succ_iff_lt_or_eq.1 hj with hj | rfl
                · exact hall j hj
                · rw [hp]; exact hokp
              · rw [hst, ← List.take_append_drop 3 [_, _, _, _], ← List.append_assoc]
                exact List.take_left' (by simp)
              · simp
              · simp only [WK, ↓upd_eq, ↓envL_cons, yA, reduceIte, AV.bel, AV.belL, AObj.bel, AV.norm, AV.normL, yB, yC, wrap_succ hlt hmax]
              · simp only [WK, ↓upd_eq, ↓envL_cons, yA, reduceIte, AV.bel, AV.belL, AObj.bel, AV.norm, AV.normL, yB, yC, mapB_bel, map_bel, List.length_append]
                simp
              · rw [List.drop_left' rfl]
                simp only [WK, ↓upd_eq, ↓envL_cons, yA, reduceIte, AV.bel, AV.belL, AObj.bel, AV.norm, AV.normL, yB, yC, map_bel]
                exact embM_bel _ _
            | none =>
              rw [hm] at hst
              simp only [Option.isSome_none, Bool.false_eq_true, if_false] at hst
              have h := True.intro
              repeat' (first
               | (with_reducible first | apply bA | apply bB | apply bC | apply bD | apply bE | apply bF) <;> intro h
               | ((first | apply bG | apply bH); simp only [AV.norm, AV.normL, W2, W2B, hlt, hg, h1, h2, hm, findA_m, foundOr_m, mfind_some, mapPut_m, keyOK, Option.getD_none, Option.isSome_none, List.length_map, embB_cells, emb_bel, AV.belL, bne_self_eq_false]; first | refine goCall_p (qp) (.inl rfl) ?_ | refine goDCall_p (qp) (.inl rfl) ?_)
               | skip) <;> simp only [h, ↓upd_eq, ↓envL_cons, WY, reduceIte, yA, yB, yC, yD, reduceCtorEq, yE, yF, W1, W1B, WS, hlt, hg, h1, h2, hm, findA_m, foundOr_m, mfind_some, mapPut_m, keyOK, Option.getD_none, Option.isSome_none, List.length_map, embB_cells, emb_bel, AV.belL, bne_self_eq_false]
              refine ⟨i + 1, ⟨by omega, fun j hj => ?_⟩, by omega, weakF_drop ?_ ?_ ?_ ?_ ?_⟩
              · rcases Nat.lt_succ_iff_lt_or_eq.1 hj with hj | rfl
                · exact hall j hj
                · rw [hp]; exact hokp
              · rw [hst, ← List.take_append_drop 3 [_, _, _, _], ← List.append_assoc]
                exact List.take_left' (by simp)
              · simp
              · simp only [WK, ↓upd_eq, ↓envL_cons, yA, reduceIte, AV.bel, AV.belL, AObj.bel, AV.norm, AV.normL, yB, yC, wrap_succ hlt hmax]
              · simp only [WK, ↓upd_eq, ↓envL_cons, yA, reduceIte, AV.bel, AV.belL, AObj.bel, AV.norm, AV.normL, yB, yC, mapB_bel, map_bel, List.length_append]
                simp
              · rw [List.drop_left' rfl]
                simp only [WK, ↓upd_eq, ↓envL_cons, yA, reduceIte, AV.bel, AV.belL, AObj.bel, AV.norm, AV.normL, yB, yC, map_bel]
                exact embM_bel _ _
          · rw [if_neg h3] at qp
            have hR := hbad (by rw [hokd]; simp [h3])
            rw [hR]
            have hb : ((1 : Int) != 0) = true := by decide
            have h := True.intro
            repeat' (first
             | (with_reducible first | apply bA | apply bB | apply bC | apply bD | apply bE | apply bF) <;> intro h
             | ((first | apply bG | apply bH); simp only [AV.norm, AV.normL, W2, W2B, hlt, hg, h1, h2, hb, List.length_map, embB_cells, emb_bel, AV.belL, retD_ret, retD_normal]; first | refine goCall_p (qp) (.inl rfl) ?_ | refine goDCall_p (qp) (.inl rfl) ?_)
             | skip) <;> simp only [h, ↓upd_eq, ↓envL_cons, WY, reduceIte, yA, yB, yC, yD, reduceCtorEq, yE, yF, W1, W1B, WS, hlt, hg, h1, h2, hb, List.length_map, embB_cells, emb_bel, AV.belL, retD_ret, retD_normal]
            all_goals exact ⟨by simp only [AV.bel, AV.belL, emb_bel, Bool.and_self, Bool.and_true], List.take_left' rfl⟩
    · have hi' : i = l.length := by omega
      subst hi'
      have hok : okBs l = true := List.all_eq_true.2 fun p hp => by
        obtain ⟨j, hj, rfl⟩ := List.mem_iff_getElem.1 hp
        have := hall j hj
        simpa [hj] using this
      rw [htrue hok]
      have hput := hputR (F ++ [.box [.int .i64 x.ty.kind, .int .i64 x.ty.num, .sl (x.ty.kids.map emb) .no], .box [.int .i64 0, .int .i64 0, .sl [] .full], .map (embM (firstM l l.length))]) (app_getkc rfl)
      have h := True.intro
      repeat' (first
       | (with_reducible first | apply bA | apply bB | apply bC | apply bD | apply bE | apply bF) <;> intro h
       | ((first | apply bG | apply bH); simp only [AV.norm, AV.normL, W2, W2B, List.length_map, Nat.lt_irrefl, Int.lt_irrefl, emb_bel, AV.belL, mapB_norm, retD_ret, retD_normal]; first  | refine fsCallR (hput) (.inl rfl) ?_)
       | skip) <;> simp only [h, ↓upd_eq, ↓envL_cons, WY, reduceIte, yA, yB, yC, yD, reduceCtorEq, yE, yF, W1, W1B, WS, List.length_map, Nat.lt_irrefl, Int.lt_irrefl, emb_bel, AV.belL, mapB_norm, retD_ret, retD_normal]
      all_goals exact ⟨by simp only [AV.bel, AV.belL, emb_bel, Bool.and_self, Bool.and_true], List.take_left' rfl⟩
  · rw [if_neg hr] at qc
    have e : substR t l = .tup [emb (.mk 0 0 []), .int .i64 1] := by rw [substR, if_neg fun h => hr h.1]
    rw [e]
    have hb : ((1 : Int) != 0) = true := by decide
    refine acallsD_text C_ok Try.func58 rfl (by decide) (Nat.le_of_ble_eq_true rfl) (by decide) fun ok => ?_
    rw [Try.results58]
    have h := True.intro
    repeat' (first
     | (with_reducible first | apply bA | apply bB | apply bC | apply bD | apply bE | apply bF) <;> intro h
     | ((first | apply bG | apply bH); simp only [AV.norm, AV.normL, W2, W2B, hb, emb_bel, AV.belL, retD_ret, retD_normal]; first | refine goCall_p (qc) (.inl rfl) ?_ | refine goDCall_p (qc) (.inl rfl) ?_)
     | skip) <;> simp only [h, ↓upd_eq, ↓envL_cons, WY, reduceIte, yA, yB, yC, yD, reduceCtorEq, yE, yF, W1, W1B, WS, hb, emb_bel, AV.belL, retD_ret, retD_normal]
    all_goals exact ⟨by simp only [AV.bel, AV.belL, emb_bel, Bool.and_self, Bool.and_true], List.take_left' rfl⟩
end
section
attribute [local irreducible] PCalls ACalls CallK GoCall GoDCall GoIf GoGb GoDGb GoO GoD GoX GoDX GoG GoDG GoGv GoDGv Go ALoop

def numG (vs : List Int) (i : Nat) : Bd := (vs.getD i 0, .mk 6 i [])
def numB (vs : List Int) : List Bd := (List.range vs.length).map (numG vs)
theorem numB_ok {vs : List Int} (h : ∀ n ∈ vs, 0 ≤ n ∧ n ≤ 1048576) (hl : vs.length ≤ 1048577) : okBs (numB vs) = true := by
  refine List.all_eq_true.2 fun p hp => ?_
  obtain ⟨i, hi, rfl⟩ := List.mem_map.1 hp
  rw [List.mem_range] at hi
  have h1 := h (vs.getD i 0) (by simp [hi])
  have h2 : right (.mk 6 i []) = true := by
    have : (T.var (i : Int)).ok = true := by simp [T.ok]; omega
    rw [← T.right_ty] at this; exact this
  simp only [okBd, numG, h2, Bool.and_true, Bool.and_eq_true]; exact ⟨decide_eq_true h1.1, decide_eq_true h1.2⟩
theorem lookB_num : ∀ (vs : List Int) (n : Int), n ∈ vs → lookB (numB vs) n = some (.mk 6 (idxI vs n) []) := by
  have key : ∀ (vs ws : List Int) (k : Nat) (n : Int), (∀ i, i < vs.length → ws.getD (k + i) 0 = vs.getD i 0) → n ∈ vs → lookB ((List.range' k vs.length).map (numG ws)) n = some (.mk 6 ((k : Int) + idxI vs n) []) := by
    intro vs
    induction vs with
    | nil => intro ws k n _ h; cases h
    | cons v vs ih =>
      intro ws k n hw hn
      have h0 := hw 0 (by simp)
      simp only [Nat.add_zero, List.getD_cons_zero] at h0
      simp only [List.length_cons, List.range'_succ, List.map_cons, lookB, numG]
      rw [h0]
      by_cases e : v = n
      · subst e; simp [idxI]
      · rw [if_neg e]
        have hn' : n ∈ vs := by rcases List.mem_cons.1 hn with h | h; exact absurd h.symm e; exact h
        have := ih ws (k + 1) n (fun i hi => by have := hw (i + 1) (by simpa using hi); rw [show k + 1 + i = k + (i + 1) by omega, this]; simp) hn'
        rw [this]
        have e2 : (v :: vs).idxOf n = vs.idxOf n + 1 := by rw [List.idxOf_cons, beq_eq_false_iff_ne.2 e, cond_false]
        unfold idxI
        rw [e2]
        congr 2
        omega
  intro vs n hn
  have := key vs vs 0 n (fun i _ => by rw [Nat.zero_add]) hn
  rw [numB, List.range_eq_range', this]
  simp
theorem sig_num {x : T} : putS (sigB (numB (x.varsF []))) x = canonT x := by
  refine put_congr x fun n hn => ?_
  rw [sigB, lookB_num _ n (mem_vars0.2 hn)]
  exact tOf_ty (.var (idxI (x.varsF []) n))
theorem varsT_T (x : T) : varsT x.ty = x.varsF [] := by rw [varsT, T.varsF_ty]
theorem has_ok : ∀ {x : T}, x.ok = true → ∀ n, x.has n = true → 0 ≤ n ∧ n ≤ 1048576 := by
  intro x
  induction x with
  | base k => intro _ n h; simp [T.has] at h
  | dyn => intro _ n h; simp [T.has] at h
  | var m => intro h n hn; simp only [T.has, decide_eq_true_eq] at hn; subst hn; simpa [T.ok] using h
  | pair a b ih1 ih2 => intro h n hn; simp only [T.ok, Bool.and_eq_true] at h; simp only [T.has, Bool.or_eq_true] at hn; exact hn.elim (ih1 h.1 n) (ih2 h.2 n)
  | fn a b ih1 ih2 => intro h n hn; simp only [T.ok, Bool.and_eq_true] at h; simp only [T.has, Bool.or_eq_true] at hn; exact hn.elim (ih1 h.1 n) (ih2 h.2 n)
  | list a ih1 => intro h n hn; simp only [T.ok] at h; simp only [T.has] at hn; exact ih1 h n hn
theorem subst_num {x : T} (hx : x.ok = true) (hs : nodes x.ty ≤ 1048576) : PCalls Try.prog 58 [emb x.ty, .sl ((numB (x.varsF [])).map embB) .no] (.tup [emb (canonT x).ty, .int .i64 0]) := by
  have hl := varsT_len x.ty
  rw [varsT_T] at hl
  have hok := numB_ok (vs := x.varsF []) (fun n hn => has_ok hx n (mem_vars0.1 hn)) (by omega)
  have := subst_ok x.ty (numB (x.varsF []))
  rw [substR, if_pos ⟨by rw [T.right_ty]; exact hx, hok⟩, tOf_ty, sig_num] at this
  exact this
def numV (vs : List Int) (i : Nat) : AV := .agg [.int .i64 (vs.getD i 0), .int .i64 6, .int .i64 i, .sl [] .full]
theorem numV_norm (vs : List Int) : ∀ l : List Nat, AV.normL (l.map (numV vs)) = (l.map (numG vs)).map embB
  | [] => rfl
  | i :: l => by simp only [List.map_cons, AV.normL, numV_norm vs l]; rfl
theorem numV_bel (vs : List Int) (m : Nat) : ∀ l : List Nat, AV.belL m (l.map (numV vs)) = true
  | [] => rfl
  | i :: l => by simp only [List.map_cons, AV.belL, numV_bel vs m l, Bool.and_true]; rfl
theorem numV_cells (vs : List Int) (l : List Nat) : (∀ y, y ∈ l.map (numV vs) → (cellsOf y).length = 4) = True := by
  simp only [eq_iff_iff, iff_true]; intro y hy; obtain ⟨i, _, rfl⟩ := List.mem_map.1 hy; rfl
noncomputable def canonR (t : Ty) : AV := if right t = true then .tup [emb (canonT (tOf t)).ty, .int .i64 0] else .tup [emb (.mk 0 0 []), .int .i64 1]
theorem canonR_bel (t : Ty) : (canonR t).bel 0 = true := by
  unfold canonR
  split <;> simp [AV.bel, AV.belL, emb_bel]
theorem canon_ok (t : Ty) (hs : nodes t ≤ 1048576) : PCalls Try.prog 61 [emb t] (canonR t) := by
  have qc := check_ok t
  by_cases hr : right t = true
  · rw [if_pos hr] at qc
    have hv := kVars_ok t hs
    have hvl := varsT_len t
    have hbel := canonR_bel t
    have hR : canonR t = .tup [emb (canonT (tOf t)).ty, .int .i64 0] := by rw [canonR, if_pos hr]
    obtain ⟨x, rfl⟩ := T.of_right t hr
    have hsub := subst_num (by rw [← T.right_ty]; exact hr) hs
    rw [← varsT_T] at hsub
    rw [tOf_ty] at hR
    rw [hR] at hbel ⊢
    generalize (canonT x).ty = X at *
    generalize varsT x.ty = vs at *
    have hroom : ∀ i, i < vs.length → ((i + 1) * 48 ≤ 140737488355328) = True := fun i h => by simp only [eq_iff_iff, iff_true]; omega
    have hroom2 : ∀ i, i < vs.length → (i + 1 ≤ 9223372036854775807) = True := fun i h => by simp only [eq_iff_iff, iff_true]; omega
    have hmax : vs.length ≤ maxLen := by rw [maxLen_val]; omega
    refine pcalls_text C_ok Try.func61 rfl (by decide) (Nat.le_of_ble_eq_true rfl) (by decide) hbel fun ok H => ?_
    rw [Try.results61]
    have h := True.intro
    repeat' (first
     | (with_reducible first | apply bA | apply bB | apply bC | apply bD | apply bE | apply bF) <;> intro h
     | ((first | apply bG | apply bH); simp only [AV.norm, AV.normL, W2, W2B, i64_eq, bne_self_eq_false]; first | refine goCall_p (qc) (.inl rfl) ?_ | refine goCall_p (hv) (.inl rfl) ?_ | refine goDCall_p (qc) (.inl rfl) ?_ | refine goDCall_p (hv) (.inl rfl) ?_)
     | skip) <;> simp only [h, ↓upd_eq, ↓envL_cons, WZ, reduceIte, yA, yB, yC, yD, reduceCtorEq, yE, yF, W1, W1B, i64_eq, bne_self_eq_false]
    refine aloop_trim [4, 14, 1, 2, 12, 13] ?_
    simp only [List.map_cons, List.map_nil, ↓upd_eq, ↓envL_cons, WZ, reduceIte, yA, yB, yC, yD, reduceCtorEq, yE, yF, W1, W1B]
    refine goLoopP 2 2 (fun i : Nat => [(4, match i with
      | 0 => .sl [] .full
      | i + 1 => .sl ((List.range (i + 1)).map (numV vs)) (.own (H.length + 2))), (14, .int .i64 i)]) (fun i => match i with
      | 0 => []
      | i + 1 => [.tok (i + 1) 4]) (fun i => i ≤ vs.length) (fun i => vs.length - i) C_ok 0 rfl rfl (Nat.zero_le _) (by decide) ?_
    rintro (_ | i) hi
    · simp only [List.drop_succ_cons, List.drop_zero, List.cons_append, List.nil_append, List.take_succ_cons, List.take_zero]
      simp only [↓upd_eq, ↓envL_cons, WZ, reduceIte, yA, yB, yC, yD, reduceCtorEq, yE, yF, W1, W1B]
      refine goIf_d (fun hlt => ?_) (fun hlt => ?_)
      · have h := True.intro
        repeat' (first
         | (with_reducible first | apply bA | apply bB | apply bC | apply bD | apply bE | apply bF) <;> intro h
         | skip) <;> simp only [h, ↓upd_eq, ↓envL_cons, WZ, reduceIte, yA, yB, yC, yD, reduceCtorEq, yE, yF, W1, W1B, hlt, map_int_get hlt, i64_eq, hroom 0 hlt, hroom2 0 hlt, List.length_map, numV_cells]
        refine ⟨0 + 1, hlt, by omega, weak_drop rfl rfl rfl ?_ ?_ ?_ ?_⟩ <;> (try simp only [WK, ↓upd_eq, ↓envL_cons, yA, reduceIte, AV.bel, AV.belL, AObj.bel, AV.norm, AV.normL, yB, yC, wrap_succ hlt hmax, map_bel, numV_bel, ints_bel, AV.belL, List.length_map]) <;> (try simp [List.range_succ, numV, emb_cells]) <;> (try omega) <;> (try rfl)
      · have h0 : vs.length = 0 := by omega
        simp only [numB, h0, List.range_zero, List.map_nil] at hsub
        have h := True.intro
        repeat' (first
         | (with_reducible first | apply bA | apply bB | apply bC | apply bD | apply bE | apply bF) <;> intro h
         | ((first | apply bG | apply bH); simp only [AV.norm, AV.normL, W2, W2B, List.length_map, numV_norm]; first | refine goCall_p (hsub) (.inl rfl) ?_ | refine goDCall_p (hsub) (.inl rfl) ?_)
         | skip) <;> simp only [h, ↓upd_eq, ↓envL_cons, WZ, reduceIte, yA, yB, yC, yD, reduceCtorEq, yE, yF, W1, W1B, List.length_map, numV_norm]
    · simp only [List.drop_succ_cons, List.drop_zero, List.cons_append, List.nil_append, List.take_succ_cons, List.take_zero]
      simp only [↓upd_eq, ↓envL_cons, WZ, reduceIte, yA, yB, yC, yD, reduceCtorEq, yE, yF, W1, W1B]
      refine goIf_d (fun hlt => ?_) (fun hlt => ?_)
      · have h := True.intro
        repeat' (first
         | (with_reducible first | apply bA | apply bB | apply bC | apply bD | apply bE | apply bF) <;> intro h
         | skip) <;> simp only [h, ↓upd_eq, ↓envL_cons, WZ, reduceIte, yA, yB, yC, yD, reduceCtorEq, yE, yF, W1, W1B, hlt, map_int_get hlt, i64_eq, hroom (i + 1) hlt, hroom2 (i + 1) hlt, List.length_map, List.length_range, numV_cells]
        refine ⟨i + 1 + 1, hlt, by omega, weak_drop rfl rfl rfl ?_ ?_ ?_ ?_⟩ <;> (try simp only [WK, ↓upd_eq, ↓envL_cons, yA, reduceIte, AV.bel, AV.belL, AObj.bel, AV.norm, AV.normL, yB, yC, wrap_succ hlt hmax, map_bel, numV_bel, ints_bel, AV.belL, List.length_map]) <;> (try simp [List.range_succ, numV, emb_cells]) <;> (try omega) <;> (try rfl)
      · have h0 : i + 1 = vs.length := by omega
        rw [numB, ← h0] at hsub
        have h := True.intro
        repeat' (first
         | (with_reducible first | apply bA | apply bB | apply bC | apply bD | apply bE | apply bF) <;> intro h
         | ((first | apply bG | apply bH); simp only [AV.norm, AV.normL, W2, W2B, List.length_map, numV_norm]; first | refine goCall_p (hsub) (.inl rfl) ?_ | refine goDCall_p (hsub) (.inl rfl) ?_)
         | skip) <;> simp only [h, ↓upd_eq, ↓envL_cons, WZ, reduceIte, yA, yB, yC, yD, reduceCtorEq, yE, yF, W1, W1B, List.length_map, numV_norm]
  · rw [if_neg hr] at qc
    have e : canonR t = .tup [emb (.mk 0 0 []), .int .i64 1] := by rw [canonR, if_neg hr]
    have hbel := canonR_bel t
    rw [e] at hbel ⊢
    have hb : ((1 : Int) != 0) = true := by decide
    refine pcalls_text C_ok Try.func61 rfl (by decide) (Nat.le_of_ble_eq_true rfl) (by decide) hbel fun ok H => ?_
    rw [Try.results61]
    have h := True.intro
    repeat' (first
     | (with_reducible first | apply bA | apply bB | apply bC | apply bD | apply bE | apply bF) <;> intro h
     | ((first | apply bG | apply bH); simp only [AV.norm, AV.normL, W2, W2B, hb]; first | refine goCall_p (qc) (.inl rfl) ?_ | refine goDCall_p (qc) (.inl rfl) ?_)
     | skip) <;> simp only [h, ↓upd_eq, ↓envL_cons, WZ, reduceIte, yA, yB, yC, yD, reduceCtorEq, yE, yF, W1, W1B, hb]
end
end Go.Proofs.Ytdngjamjccjlmaa
